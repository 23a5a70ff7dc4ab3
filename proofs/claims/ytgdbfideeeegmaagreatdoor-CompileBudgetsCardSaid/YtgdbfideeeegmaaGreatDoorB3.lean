/- Contracts of functions of the program, and what they answer. Conditions: those each theorem names. -/
import Derived.Test.YtgdbfideeeegmaaGreatDoorA2
import Derived.Test.YtgdbfideeeegmaaGreatDoorA5
import Derived.Test.YtgdbfideeeegmaaGreatDoorB0
import Derived.Test.YtgdbfideeeegmaaGreatDoorB2
import Derived.Test.YtgdbfideeeegmaaGreatDoorA4
import Derived.Test.YtgdbfideeeegmaaGreatDoorB1
import Derived.Laws.StructEq
import Derived.ChangeKeysEq
set_option linter.unusedSectionVars false
set_option linter.unusedSimpArgs false
set_option linter.unusedVariables false
set_option linter.unnecessarySimpa false
set_option maxHeartbeats 8000000
set_option maxRecDepth 20000
namespace Go.Proofs.YtgdbfideeeegmaaGreatDoor
open Go.Lx Go.RowKit _root_.Go.Proofs.Tryz
theorem IW (w:World) [cG Tryz.prog w] (cb:Nat) (eb:Option Addr) (en ec vs B:Nat) (dz:Sl w (aD cb) [.slice eb en ec,vI (vs:Int),vI (B:Int)]) (eT:vs≤6) (gn:1≤B) (hB:B≤4096) (e:List dF) (hE:Sl w eb (bg e)) (iA:en=e.length) (i:Nat) (ob:Nat) (fv:Value) (a b:Rx) (j k:Nat) (hp:e[i]? =some ⟨5,0,0,(j:Int),(k:Int)⟩) (hA:lr w cb vs B ob fv a j) (hB:lr w cb vs B ob fv b k) (lb:Option Addr) (lc:Nat) (ls:List Lf) (ks:List LK) (lA:ks.length=ls.length) (hl:ls.length+(Rx.j5 a b).lv≤64) (Gs:qu ls (Rx.j5 a b)):
  cB Tryz.prog w (.iface 163 (.agg #[])) 73 [(.pointer (aD ob)),vN i] ([oI ob 114 [(cW (aD cb) 0),(.slice lb ls.length lc),fv],am lb lc 118 7 (cj ls ks)]++(a_ 3 (dG ls ks)++fm 56 4 3 ls ks)) (fun v O'=> ∃rS rT nO mK mL wj wk,v=.tuple #[(.slice mK (((aH vs (Rx.j5 a b) ls).fi).length) mL),(.slice wj (((aH vs (Rx.j5 a b) ls).la).length) wk)]∧O'=[oI ob 114 [(cW (aD cb) 0),(.slice rS (((aH vs (Rx.j5 a b) ls).ls).length) rT),fv],am rS rT 118 7 (cj ((aH vs (Rx.j5 a b) ls).ls) nO),am mK mL 3 1 (aX ((aH vs (Rx.j5 a b) ls).fi)),am wj wk 3 1 (aX ((aH vs (Rx.j5 a b) ls).la))]++(a_ 3 (dG ((aH vs (Rx.j5 a b) ls).ls) nO)++fm 56 4 3 ((aH vs (Rx.j5 a b) ls).ls) nO)∧nO.length=(aH vs (Rx.j5 a b) ls).ls.length∧okB vs (Rx.j5 a b) B) (¬okB vs (Rx.j5 a b) B):=by
 refine cJ func73 F ntmps73 F ?_
 obtain⟨hi,_⟩:=gf hp
 have Qm:=eU vs a ls
 have W6:=eU vs b (aH vs a ls).ls
 have T6:=dR vs a ls
 have T7:=dR vs b (aH vs a ls).ls
 have W7:a.lv+b.lv≤64:=by simp only[Rx.lv]at hl;omega
 simp only[Rx.lv]at hl
 refine ai (aj F (aj F (ae (ai (ah F (ad (aK F) (ad (aN e8 F mz F F) (ad (aQ 0 tX F F F F) (ad (aK F) (ad (br iR F fJ F F (ay dz) (by first|omega|(simp;done)|(simp;omega)|(simp_all;done)|(simp_all;omega))) (ad (cd cN F F (ay dz) F) (ah F (ad (cY (i:=i) cN bN F F (ay hE) (by omega) (by rw[bE];omega)) (ad (dy (vs:=[v8 5,v8 0,v8 0,vN j,vN k]) bs F bN F F (Nat.succ_pos _) (ay hE) (ew hp)) (ak F (aR bN F (fun z1=>?_)))))))))))))))))
 refine ak F (a8 (vs:=[v8 5,v8 0,v8 0,vN j,vN k]) 0 bN F F F F ?_)
 refine ae (aB (ai (ad (aN bs F cI F F) (ad (aQ 0 eu F F F F) (ae (aG (ai (ad (aZ F F) (ad (aq (bt F) (decide_eq_false (by decide))) (ae (aL F (ai (ad (aZ F F) (ad (aq (bt F) (decide_eq_true (by decide))) ?_))))))))))))))
 refine ae ?_
 refine bj F ?_
 refine ai (ah F (ad (aN bs F aO F F) (ad (aQ 0 cS F F F F) ?_)))
 have Ua:=(hA.frame [oI z1 72 [v8 5,v8 0,v8 0,vN j,vN k]] (O:=[oI z1 72 [v8 5,v8 0,v8 0,vN j,vN k],oI ob 114 [(cW (aD cb) 0),(.slice lb ls.length lc),fv],am lb lc 118 7 (cj ls ks)]) lb lc ls ks lA (by first|omega|(rw[dR];omega)) (qu.left Gs) (by exact Sub.dr [oI z1 72 [v8 5,v8 0,v8 0,vN j,vN k]] _ (.dr [oI z1 72 [v8 5,v8 0,v8 0,vN j,vN k]] _ (.k .z))))
 refine de F (dA A3 Ua F (fun z _=>⟨F,fun h9=>z h9.1⟩) ?_)
 clear Ua
 rintro vr O' ⟨Qn,Qo,T8,Km,Kn,NH,NI,rfl,rfl,W8,FL⟩
 refine ah F (ad (aV (vs:=_) F F) (ad (aV (vs:=_) F F) (aj F (aj F (ae (ai (ah F (ad (aN bs F aO F F) (ad (aQ 4 cS F F F F) ?_)))))))))
 have NL:=(hB.frame [am Km Kn 3 1 (aX ((aH vs a ls).fi)),am NH NI 3 1 (aX ((aH vs a ls).la)),oI z1 72 [v8 5,v8 0,v8 0,vN j,vN k]] (O:=[oI ob 114 [(cW (aD cb) 0),(.slice Qn (((aH vs a ls).ls).length) Qo),fv],am Qn Qo 118 7 (cj ((aH vs a ls).ls) T8),am Km Kn 3 1 (aX ((aH vs a ls).fi)),am NH NI 3 1 (aX ((aH vs a ls).la)),oI z1 72 [v8 5,v8 0,v8 0,vN j,vN k]]) Qn Qo ((aH vs a ls).ls) T8 W8 (by first|omega|(rw[dR];omega)) (qu.right Gs) (by exact Sub.rf))
 refine de F (dA A3 NL F (fun z _=>⟨F,fun h9=>z h9.2⟩) ?_)
 clear NL
 rintro vr O' ⟨xE,xF,L0,T9,T_,NJ,NK,rfl,rfl,Gq,FM⟩
 refine ah F (ad (aV (vs:=_) F F) (ad (aV (vs:=_) F F) (aj F (aj F (ae (ai (ah F (ah F (ak F (bY 4 bK bK aO F F F F (by rw[List.length_map];omega) (by decide) (Src.row (j:=2) F (by rw[List.length_map];omega)) (by simp[dS]) (by omega) (by decide) (by decide) (fun z2 sk=>?_)))))))))))
 refine ah F (ah F (ak F (bY 5 bK bK aO F F F F (by rw[List.length_map];omega) (by decide) (Src.row (j:=3) F (by rw[List.length_map];omega)) (by simp[dS]) (by omega) (by decide) (by decide) (fun z4 FR=>?_))))
 refine aj F (aj F (ae (aA (ap ?_))))
 refine cy (.slice z2 (((aH vs a ls).fi.length)+((aH vs b ((aH vs a ls).ls)).fi.length)) sk) (.slice z4 (((aH vs a ls).la.length)+((aH vs b ((aH vs a ls).ls)).la.length)) FR) Tryz.results73 F F ?_
 exact⟨[oI ob 114 [(cW (aD cb) 0),(.slice xE (((aH vs b ((aH vs a ls).ls)).ls).length) xF),fv],am xE xF 118 7 (cj ((aH vs b ((aH vs a ls).ls)).ls) L0),am z2 sk 3 1 ((aX ((aH vs a ls).fi))++(aX ((aH vs b ((aH vs a ls).ls)).fi))),am z4 FR 3 1 ((aX ((aH vs a ls).la))++(aX ((aH vs b ((aH vs a ls).ls)).la)))]++(a_ 3 (dG ((aH vs b ((aH vs a ls).ls)).ls) L0)++fm 56 4 3 ((aH vs b ((aH vs a ls).ls)).ls) L0),(by exact Sub.k (.k (.d (.d (.k (.k (.d .rf))))))),xE,xF,L0,z2,sk,z4,FR,by show _=Value.tuple #[.slice _ ((aH vs a ls).fi++(aH vs b ((aH vs a ls).ls)).fi).length _,.slice _ ((aH vs a ls).la++(aH vs b ((aH vs a ls).ls)).la).length _];rw[List.length_append,List.length_append],by show _=[_,_,am _ _ _ _ (aX ((aH vs a ls).fi++(aH vs b ((aH vs a ls).ls)).fi)),am _ _ _ _ (aX ((aH vs a ls).la++(aH vs b ((aH vs a ls).ls)).la))]++_;rw[show∀x y:List Nat,aX (x++y)=aX x++aX y from fun x y=>List.map_append,show∀x y:List Nat,aX (x++y)=aX x++aX y from fun x y=>List.map_append];rfl,Gq,FL,FM⟩
theorem A6 (w:World) [cG Tryz.prog w] (cb:Nat) (eb:Option Addr) (en ec vs B:Nat) (dz:Sl w (aD cb) [.slice eb en ec,vI (vs:Int),vI (B:Int)]) (eT:vs≤6) (gn:1≤B) (hB:B≤4096) (e:List dF) (hE:Sl w eb (bg e)) (iA:en=e.length) (i:Nat) (ob:Nat) (fv:Value) (a:Rx) (j:Nat) (hp:e[i]? =some ⟨10,0,0,(j:Int),0⟩) (T3: ∀ls,aH vs (Rx.behind a) ls=⟨ls++[⟨10,minOf vs (ki (fun _=>true) (gd a)),[],false⟩],[ls.length],[ls.length]⟩) (T5: ∀(w1:World) [cG Tryz.prog w1],Inv w [] w1→cB Tryz.prog w1 (.iface 163 (.agg #[])) 72 [(cW (aD cb) 0),vN j] [] (qI vs B a) (¬iP vs a B)) (lb:Option Addr) (lc:Nat) (ls:List Lf) (ks:List LK) (lA:ks.length=ls.length) (hl:ls.length+(Rx.behind a).lv≤64) (Gs:qu ls (Rx.behind a)):
  cB Tryz.prog w (.iface 163 (.agg #[])) 73 [(.pointer (aD ob)),vN i] ([oI ob 114 [(cW (aD cb) 0),(.slice lb ls.length lc),fv],am lb lc 118 7 (cj ls ks)]++(a_ 3 (dG ls ks)++fm 56 4 3 ls ks)) (fun v O'=> ∃rS rT nO mK mL wj wk,v=.tuple #[(.slice mK (((aH vs (Rx.behind a) ls).fi).length) mL),(.slice wj (((aH vs (Rx.behind a) ls).la).length) wk)]∧O'=[oI ob 114 [(cW (aD cb) 0),(.slice rS (((aH vs (Rx.behind a) ls).ls).length) rT),fv],am rS rT 118 7 (cj ((aH vs (Rx.behind a) ls).ls) nO),am mK mL 3 1 (aX ((aH vs (Rx.behind a) ls).fi)),am wj wk 3 1 (aX ((aH vs (Rx.behind a) ls).la))]++(a_ 3 (dG ((aH vs (Rx.behind a) ls).ls) nO)++fm 56 4 3 ((aH vs (Rx.behind a) ls).ls) nO)∧nO.length=(aH vs (Rx.behind a) ls).ls.length∧okB vs (Rx.behind a) B) (¬okB vs (Rx.behind a) B):=by
 refine cJ func73 F ntmps73 F ?_
 obtain⟨hi,_⟩:=gf hp
 simp only[T3]
 refine ai (aj F (aj F (ae (ai (ah F (ad (aK F) (ad (aN e8 F mz F F) (ad (aQ 0 tX F F F F) (ad (aK F) (ad (br iR F fJ F F (ay dz) (by first|omega|(simp;done)|(simp;omega)|(simp_all;done)|(simp_all;omega))) (ad (cd cN F F (ay dz) F) (ah F (ad (cY (i:=i) cN bN F F (ay hE) (by omega) (by rw[bE];omega)) (ad (dy (vs:=[v8 10,v8 0,v8 0,vN j,vI 0]) bs F bN F F (Nat.succ_pos _) (ay hE) (ew hp)) (ak F (aR bN F (fun z1=>?_)))))))))))))))))
 refine ak F (a8 (vs:=[v8 10,v8 0,v8 0,vN j,vI 0]) 0 bN F F F F ?_)
 refine ae (aB (ai (ad (aN bs F cI F F) (ad (aQ 0 eu F F F F) (ae (aG (ai (ad (aZ F F) (ad (aq (bt F) (decide_eq_false (by decide))) (ae (aL F (ai (ad (aZ F F) (ad (aq (bt F) (decide_eq_false (by decide))) ?_))))))))))))))
 refine ae (aL F (ai (ad (aZ F F) (ad (aq (bt F) (decide_eq_false (by decide))) (ae (aL F (ai (ad (aZ F F) (ad (aq (bt F) (decide_eq_true (by decide))) ?_)))))))))
 refine ae ?_
 refine bj F ?_
 refine T.ds [oI z1 72 [v8 10,v8 0,v8 0,vN j,vI 0],oI ob 114 [(cW (aD cb) 0),(.slice lb ls.length lc),fv]] [(0,0),(1,0),(2,0),(3,0),(4,0),(5,0),(6,0),(7,0),(8,0),(9,0),(10,0),(11,0),(12,0),(13,0),(14,0),(16,0),(17,0),(18,0),(19,0),(20,0),(21,0),(15,1),(22,1),(23,1),(24,0),(25,1),(26,1),(27,0),(28,0),(29,2)] (by exact Sub.k (.k .z)) ?_
 refine ao F (az F) (ao F (az F) (ao F (aK F) (ao F (aN e8 F fe F F) (ao F (aQ 1 d_ F F F F) (ao F (aN bs F cI F F) (ao F (aQ 0 eu F F F F) (ao F (az F) (ao F (aK F) (ao F (aN e8 F mz F F) (ao F (aQ 1 tX F F F F) (ao F (az F) (ao F (aK F) (ao F (aN e8 F mz F F) (ao F (aQ 1 tX F F F F) (ao F (az F) (ao F (aK F) (ao F (aN e8 F mz F F) (ao F (aQ 1 tX F F F F) (ao F (aN bs F aO F F) (ao F (aQ 0 cS F F F F) ?_))))))))))))))))))))
 have NM:=fun(w1:World) (hI:Inv w ([oI z1 72 [v8 10,v8 0,v8 0,vN j,vI 0],oI ob 114 [(cW (aD cb) 0),(.slice lb ls.length lc),fv],am lb lc 118 7 (cj ls ks)]++(a_ 3 (dG ls ks)++fm 56 4 3 ls ks)) w1)=>(haveI:=di hI;Kt w1 cb eb en ec vs B (hI.sl dz) eT)
 refine bo F F (aP CI (aI NM) F ?_)
 clear NM
 rintro vr O' ⟨N,rfl,kS,rfl,rfl⟩
 refine⟨by exact Sub.d (.k (.k .z)),?_⟩
 have NN:=fun(w1:World) (hI:Inv w ([dI 56 4 3 (eo (vs:Int) true) kS,oI z1 72 [v8 10,v8 0,v8 0,vN j,vI 0],oI ob 114 [(cW (aD cb) 0),(.slice lb ls.length lc),fv],am lb lc 118 7 (cj ls ks)]++(a_ 3 (dG ls ks)++fm 56 4 3 ls ks)) w1)=>(haveI:=di hI;T5 w1 hI.kw)
 refine fS F F (dA nD (cB.pure NN) F (fun z _=>⟨F,fun h9=>z h9.1⟩) ?_)
 clear NN
 rintro vr O' ⟨N,rfl,MA,kA,rfl,rfl,oM,hO⟩
 refine⟨by exact Sub.d (.d (.k (.k .z))),?_⟩
 have xz:=fD oM hB
 have NO:=fun(w1:World) (hI:Inv w ([dI 56 4 3 MA kA,dI 56 4 3 (eo (vs:Int) true) kS,oI z1 72 [v8 10,v8 0,v8 0,vN j,vI 0],oI ob 114 [(cW (aD cb) 0),(.slice lb ls.length lc),fv],am lb lc 118 7 (cj ls ks)]++(a_ 3 (dG ls ks)++fm 56 4 3 ls ks)) w1)=>(haveI:=di hI;Pw w1 cb eb en ec vs B (hI.sl dz) eT gn hB (eo (vs:Int) true) kS (hI.at (k:=kS) (mG 1 F)) (eR eT).valid F MA kA (hI.at (k:=kA) (mG 0 F)) oM.valid (by rw[oM.vars];rfl))
 refine fS F F (dA CE (cB.pure NO) F (fun z _=>⟨F,fun h9=>z (by rw[xz];exact h9.2)⟩) ?_)
 clear NO
 rintro vr O' ⟨N,rfl,M,kM,rfl,rfl,PK,PL⟩
 refine⟨by exact Sub.d (.d (.d (.k (.k .z)))),?_⟩
 have eM:M=minOf vs (ki (fun _=>true) (gd a)):=fD (PK.to fun w9 h9=>nk (fun u hu=>(eR eT).gq u hu) (fun u hu=>oM.gq u hu) h9) hB
 refine ao F (bG (cs:=[v8 10,(vI M.vars),(vI M.start),(.slice kM.nb M.next.length kM.nc),(.slice kM.fb M.ax.length kM.fc),nS,(.bool false)]) yM dN (by kernel_rfl)) ?_
 refine bo F F (bH (m:=1) (parts:=[(0,_)]) (cs:=[v8 10,(vI M.vars),(vI M.start),(.slice kM.nb M.next.length kM.nc),(.slice kM.fb M.ax.length kM.fc),nS,(.bool false)]) d_ dN (by decide) (by kernel_rfl) F (fun z2=>⟨by exact Sub.d (.d (.d (.d (.k (.k .z))))),?_⟩))
 refine bo F F (bY 6 d_ d_ dN F F F F (by rw[cU lA]) (by decide) (Src.row (j:=0) F (by simp)) (by simp[dS]) (by omega) (by decide) (by decide) (fun z3 l7=>⟨by exact Sub.d (.d (.d (.d (.k (.k .z))))),?_⟩))
 refine ao F (aK F) (ao F (aN e8 F fe F F) ?_)
 refine bq F F (a8 (vs:=[(.slice z3 (ls.length+1) l7)]) 5 fe F F F F ?_)
 refine bw ?_
 refine ai (ah F (ad (aK F) (ad (aN e8 F fe F F) (ad (aQ 5 d_ F F F F) (ad (bS d_ F) (ad (a7 (ez F F (by omega)) (v':=vN ls.length) (congrArg (Value.int .i64) (by omega))) (aj F (ae (aB (T.dJ 3 1 ?_))))))))))
 refine aJ (ah F (ak F (bM (v:=vN ls.length) bK aO F F F (fun z5=>?_))))
 refine ah F (ak F (bM (v:=vN ls.length) bK aO F F F (fun z6=>?_)))
 refine aj F (aj F (ae (aA (ap ?_))))
 refine cy (.slice (aD z5) 1 1) (.slice (aD z6) 1 1) Tryz.results73 F F ?_
 exact⟨[oI ob 114 [(cW (aD cb) 0),(.slice z3 ((ls++[(⟨10,minOf vs (ki (fun _=>true) (gd a)),[],false⟩:Lf)]).length) l7),fv],am z3 l7 118 7 (cj (ls++[(⟨10,minOf vs (ki (fun _=>true) (gd a)),[],false⟩:Lf)]) (ks++[(⟨kM,none,0⟩:LK)])),am (aD z5) 1 3 1 (aX [ls.length]),am (aD z6) 1 3 1 (aX [ls.length])]++(a_ 3 (dG (ls++[(⟨10,minOf vs (ki (fun _=>true) (gd a)),[],false⟩:Lf)]) (ks++[(⟨kM,none,0⟩:LK)]))++fm 56 4 3 (ls++[(⟨10,minOf vs (ki (fun _=>true) (gd a)),[],false⟩:Lf)]) (ks++[(⟨kM,none,0⟩:LK)])),by
   rw[qv lA,qw,sC lA,oV lA,List.length_append,←eM]
   exact oW [oI ob 114 [(cW (aD cb) 0),(.slice z3 (ls.length+1) l7),fv],am z3 l7 118 7 ((cj ls ks)++[v8 10,(vI M.vars),(vI M.start),(.slice kM.nb M.next.length kM.nc),(.slice kM.fb M.ax.length kM.fc),nS,(.bool false)]),am (aD z5) 1 3 1 [vN ls.length],am (aD z6) 1 3 1 [vN ls.length]] [am (aD z6) 1 3 1 [vN ls.length],am (aD z5) 1 3 1 [vN ls.length],am none 0 3 1 [],am (aD z2) 1 118 7 [v8 10,(vI M.vars),(vI M.start),(.slice kM.nb M.next.length kM.nc),(.slice kM.fb M.ax.length kM.fc),nS,(.bool false)],dI 56 4 3 M kM,dI 56 4 3 MA kA,dI 56 4 3 (eo (vs:Int) true) kS,oI z1 72 [v8 10,v8 0,v8 0,vN j,vI 0],oI ob 114 [(cW (aD cb) 0),(.slice z3 (ls.length+1) l7),fv],am z3 l7 118 7 ((cj ls ks)++[v8 10,(vI M.vars),(vI M.start),(.slice kM.nb M.next.length kM.nc),(.slice kM.fb M.ax.length kM.fc),nS,(.bool false)])] _ _ _ _ (by exact Sub.dr [am (aD z6) 1 3 1 [vN ls.length],am (aD z5) 1 3 1 [vN ls.length],am none 0 3 1 [],am (aD z2) 1 118 7 [v8 10,(vI M.vars),(vI M.start),(.slice kM.nb M.next.length kM.nc),(.slice kM.fb M.ax.length kM.fc),nS,(.bool false)],dI 56 4 3 M kM,dI 56 4 3 MA kA,dI 56 4 3 (eo (vs:Int) true) kS,oI z1 72 [v8 10,v8 0,v8 0,vN j,vI 0]] _ (.dr [am (aD z6) 1 3 1 [vN ls.length],am (aD z5) 1 3 1 [vN ls.length],am none 0 3 1 [],am (aD z2) 1 118 7 [v8 10,(vI M.vars),(vI M.start),(.slice kM.nb M.next.length kM.nc),(.slice kM.fb M.ax.length kM.fc),nS,(.bool false)],dI 56 4 3 M kM,dI 56 4 3 MA kA,dI 56 4 3 (eo (vs:Int) true) kS,oI z1 72 [v8 10,v8 0,v8 0,vN j,vI 0]] _ (.dr [am (aD z6) 1 3 1 [vN ls.length]] _ (.k (.k (.d (.k .z))))))),z3,l7,(ks++[(⟨kM,none,0⟩:LK)]),(aD z5),1,(aD z6),1,F,F,by simp[lA],⟨hO,by rw[←xz];exact PL⟩⟩
theorem Qp.of {cb:Nat} {eb:Option Addr} {en ec vs B:Nat} {e:List dF} (iA:en=e.length):Qp cb eb en ec vs B e:=
 ⟨PM.of iA,fun w _ eT gn hB dz hE ob fv i a b j k hp hA hb=>IW w cb eb en ec vs B dz eT gn hB e hE iA i ob fv a b j k hp hA hb,
  fun w _ eT gn hB dz hE ob fv i a j hp hA=>A6 w cb eb en ec vs B dz eT gn hB e hE iA i ob fv a j hp (fun _=>rfl) hA⟩
end Go.Proofs.YtgdbfideeeegmaaGreatDoor

namespace Go.Proofs.YtgdbfideeeegmaaGreatDoor
open Go.Lx Go.RowKit _root_.Go.Proofs.Tryz
theorem N8 (base:World) [cG Tryz.prog base] (eb:Option Addr) (ec:Nat) (e:List dF) (hE:Sl base eb (bg e)) (CX:e.length<4611686018427387904) (nK: ∀x∈e,x.p<256∧x.n<256) (vars gR:Int) (MV:e.any lu=true→e.length≤24):
  bI Tryz.prog 19 [.slice eb e.length ec,.int .i64 vars,.int .i64 gR] base fun v N=> ∃D k er,v=.tuple #[dV D k,.int .i64 ((er:Nat):Int)]∧N=[dI 56 4 3 D k]∧VK (iD vars e) gR (fun M=>eF vars gR.toNat M (oD vars.toNat e)∧wA vars.toNat e gR.toNat) (¬wA vars.toNat e gR.toNat) D er:=by
 by_cases hb:1≤gR∧gR≤4096
 ·refine DS (HP base eb ec e hE CX nK vars gR MV (K:=137438953471) (by omega) (fun _=>Qp.of F) fun h0 hl ho=>?_)
  obtain⟨h1,h2,h3,h4,fs,h5,h6,h7⟩:=yp h0
  have h8:=um h5 e.length (e.length-1) (by omega) (by omega)
  have h9:=MV hl
  exact My (B:=gR.toNat) (by omega) (by omega) ((uj h5 e.length (e.length-1) (by omega) (by omega)).2 h7) ho (by show(gX e e.length (e.length-1)).sz≤24;omega)
 ·refine(DS (NZ base eb e.length ec vars (iD vars e) gR _ _ (fun w1 _ hI=>Ee w1 eb ec e (hI.sl hE) CX nK vars) fun h0 Cd zM=>absurd ⟨Cd,zM⟩ hb))
end Go.Proofs.YtgdbfideeeegmaaGreatDoor

namespace Go.Proofs.YtgdbfideeeegmaaGreatDoor
open Go.Lx Go.RowKit _root_.Go.Proofs.Tryz
theorem UZ (w:World) [cG Tryz.prog w] (b:Option Addr) (n c:Nat):bI Tryz.prog 18 [.slice b n c] w fun v N=>v=.bool (decide ((24:Int)<(n:Int)))∧N=[]:=by
 refine aw func18 F ntmps18 F ?_
 refine ai (aj F (ae (ai (ah F (ad (bS cN F) (ad (fW F F) (aj F (ae (aA ?_)))))))))
 refine aE (.bool (decide ((n:Int)>24))) Tryz.results18 F ?_
 exact⟨F,F⟩
theorem Q3 (w:World) [cG Tryz.prog w] {d e:bU} (j k:DK) (h1:At w d j) (h2:At w e k) (hde:d=e) (hb:e.next.length<9223372036854775807∧(∀r∈e.next,r.length<9223372036854775807)∧e.ax.length<9223372036854775807):bI Tryz.prog 16 [dV d j,dV e k] w fun v N=>v=.bool true∧N=[]:=by
 subst hde
 exact E0 w d j.nb k.nb j.fb k.fb j.nc k.nc j.fc k.fc (bO j.qs) (bO k.qs) h1 h2 hb.1 hb.2.1 hb.2.2
structure X9 (gR:Int) (D1 D2:bU) (J1 Ks:Nat):Prop where
 a:J1≠0→Ks=J1∧D2.next.length=0
 b:J1=0→Ks=0→D2=D1∧(D1.next.length:Int)≤gR∧D1.next.length<9223372036854775807∧(∀r∈D1.next,r.length<9223372036854775807)∧D1.ax.length<9223372036854775807
 c:J1=0→Ks≠0→Ks=10∧D2.next.length=0
theorem X8 {E:Nat} {gR vars:Int} {v:Nat} {e:List dF} {D1 D2:bU} {J1 Ks:Nat} {L:List Nat→Bool} (hb:1≤gR∧gR≤4096)
  (h1:VK E 4096 (fun M=>eF vars (4096:Int).toNat M L∧wA v e (4096:Int).toNat) (¬wA v e (4096:Int).toNat) D1 J1) (h2:VK E gR (fun M=>eF vars gR.toNat M L∧wA v e gR.toNat) (¬wA v e gR.toNat) D2 Ks):X9 gR D1 D2 J1 Ks:=by
 have U3:wA v e gR.toNat→wA v e (4096:Int).toNat:=Jb (by omega)
 have hn:(zv:bU).next.length=0:=rfl
 rcases h1 with⟨e1,e2,e3⟩|⟨e1,e2,_⟩|⟨e1,_,⟨e2,hM,hk⟩|⟨e2,e3,hz⟩⟩
 ·rcases h2 with⟨_,f2,f3⟩|⟨f1,_⟩|⟨f1,_⟩
  ·exact⟨fun _=>⟨f2.trans e2.symm,by rw[f3];exact hn⟩,fun h=>absurd (e2.symm.trans h) e1,fun h=>absurd (e2.symm.trans h) e1⟩
  ·exact absurd f1 e1
  ·exact absurd f1 e1
 ·exact absurd ⟨by decide,by decide⟩ e2
 ·rcases h2 with⟨f1,_⟩|⟨_,f2,_⟩|⟨_,_,⟨f2,ZQ,_⟩|⟨f2,f3,_⟩⟩
  ·exact absurd e1 f1
  ·exact absurd hb f2
  ·have hx:=ZQ.ext hM fun w _=>rfl
   have hl:=ZQ.len
   have G5:=uz hM.toHasL
   refine⟨fun h=>absurd e2 h,fun _ _=>⟨hx,by rw[←hx];omega,G5⟩,fun _ h=>absurd f2 h⟩
  ·exact⟨fun h=>absurd e2 h,fun _ h=>absurd (f2.symm.trans h) (by decide),fun _ _=>⟨f2,by rw[f3];exact hn⟩⟩
 ·rcases h2 with⟨f1,_⟩|⟨_,f2,_⟩|⟨_,_,⟨_,_,hk⟩|⟨f2,f3,_⟩⟩
  ·exact absurd e1 f1
  ·exact absurd hb f2
  ·exact absurd (U3 hk) hz
  ·exact⟨fun _=>⟨f2.trans e2.symm,by rw[f3];exact hn⟩,fun h=>absurd (e2.symm.trans h) (by decide),fun h=>absurd (e2.symm.trans h) (by decide)⟩
end Go.Proofs.YtgdbfideeeegmaaGreatDoor

namespace Go.Proofs.YtgdbfideeeegmaaGreatDoor
open Go.Lx Go.RowKit _root_.Go.Proofs.Tryz
end Go.Proofs.YtgdbfideeeegmaaGreatDoor

namespace Go.Proofs.YtgdbfideeeegmaaGreatDoor
open Go.Lx Go.RowKit _root_.Go.Proofs.Tryz
deriving instance DecidableEq for dF
theorem o8 {P:Program} {d:Nat} {xs ys:Array Value} {f:Field} {fs:List Field} {a b:Value} {r r2:Bool} {w:World} (hn:f.name≠ "_") (he:P.plainKey f.type=true) (ha:xs[f.offset]? =some a) (hb:ys[f.offset]? =some b)
  (hr:(Op.equalIn d f.type a b).run P w=.ok r w) (h2:(Op.eqFields d xs ys fs).run P w=.ok r2 w):(Op.eqFields d xs ys (f::fs)).run P w=.ok (r&&r2) w:=by
 simp only[Op.eqFields,if_pos hn,Sem.run_bind,run_part_plain w he ha,run_part_plain w he hb,hr,Result.andThen_ok,Sem.run_ite]
 cases r<;>simp[h2]
theorem UY (x y:dF) (w:World):(Op.equalIn 10000 72 (.agg x.cells.toArray) (.agg y.cells.toArray)).run Tryz.prog w=.ok (decide (x=y)) w:=by
 have hf:Tryz.prog.fieldsOf 72= #[⟨"Op",5,0,false, "", "",0⟩,⟨"Pos",5,1,false, "", "",1⟩,⟨"Neg",5,2,false, "", "",2⟩,⟨"A",3,3,false, "", "",8⟩,⟨"B",3,4,false, "", "",16⟩]:=by
  unfold Program.fieldsOf;rw[bs]
 rw[run_equalIn_agg w 9999 72 _ _ (by rw[hf];exact bs) (by kernel_rfl),hf]
 have ZP:Tryz.prog.underlying 5=some (.int .u8):=eu
 have hi:Tryz.prog.underlying 3=some (.int .i64):=cS
 have p5:Tryz.prog.plainKey 5=true:=by unfold Program.plainKey;rw[ZP]
 have p3:Tryz.prog.plainKey 3=true:=by unfold Program.plainKey;rw[hi]
 have e5: ∀(u v:Int) w,(Op.equalIn 9999 5 (.int .u8 u) (.int .u8 v)).run Tryz.prog w=.ok (u==v) w:=fun u v w=>run_equalIn_int w 9998 5 .u8 .u8 u v ZP
 have e3: ∀(u v:Int) w,(Op.equalIn 9999 3 (.int .i64 u) (.int .i64 v)).run Tryz.prog w=.ok (u==v) w:=fun u v w=>run_equalIn_int w 9998 3 .i64 .i64 u v hi
 clear hf
 generalize 9999=q at e5 e3⊢
 obtain⟨o,p,n,a,b⟩:=x
 obtain⟨o2,p2,n2,a2,b2⟩:=y
 refine Eq.trans (o8 (by simp) p5 F F (e5 _ _ w) (o8 (by simp) p5 F F (e5 _ _ w) (o8 (by simp) p5 F F (e5 _ _ w) (o8 (by simp) p3 F F (e3 _ _ w) (o8 (by simp) p3 F F (e3 _ _ w) F))))) ?_
 refine congrArg (fun r=>Result.ok r w) ?_
 rw[Bool.eq_iff_iff];simp;omega
section
variable {base:World} {ρ:Env} {O:List Lx.Item} {dst:Option Nat} {t:TypeId} {p:String} {af:Array Edge} {g:Option (Nat×Bool)}
theorem Bb {x y:Operand} {u v:dF} {U:TypeId} (hx:ev ρ x=.agg u.cells.toArray) (hy:ev ρ y=.agg v.cells.toArray):
  QT Tryz.prog base ⟨dst,.binOp .neq 72 x y U,t,p,af,g⟩ ρ O (.bool (!decide (u=v))):=fun w _=>by
 have h:=UY u v w
 have hm:Tryz.prog.eqGuardType Tryz.prog.depth 72=false:=by kernel_rfl
 simp[execOp,hx,hy,run_eqGuard_agg w .neq 72 x y _ _ hm,run_neq_struct,h]
end
end Go.Proofs.YtgdbfideeeegmaaGreatDoor

namespace Go.Proofs.YtgdbfideeeegmaaGreatDoor
open Go.Lx Go.RowKit _root_.Go.Proofs.Tryz
theorem Lo (w:World) [cG Tryz.prog w] (xb yb:Option Addr) (xc yc:Nat) (xs ys:List dF) (hX:Sl w xb (bg xs)) (hY:Sl w yb (bg ys)) (hb:xs.length<4611686018427387904):
  bI Tryz.prog 15 [.slice xb xs.length xc,.slice yb ys.length yc] w fun v N=>v=.bool (decide (xs=ys))∧N=[]:=by
 refine aw func15 F ntmps15 F ?_
 refine ai (aj F (ae (aB (ai (ah F (ad (bS cN F) (ah F (ad (bS cN F) (ad (cT F F) (ae (aC F (fun hc=>?_) (fun hc=>?_))))))))))))
 ·have jJ:xs.length≠ys.length:=by omega
  have gv:xs.length≠ys.length:=by omega
  refine ai (aj F (ae (aA ?_)))
  refine aE (.bool false) Tryz.results15 F ?_
  exact⟨congrArg Value.bool (decide_eq_false (fun e=>gv (by rw[e]))).symm,F⟩
 have ta: ¬xs.length≠ys.length:=by omega
 have gv:xs.length=ys.length:=by omega
 refine av (aB (ai (aj F (ae (aG ?_)))))
 refine dm (fun(k:Nat) ρ O=>O=[]∧k≤xs.length∧xs.take k=ys.take k∧cw [(0,(.slice xb xs.length xc)),(1,(.slice yb ys.length yc)),(5,vN k)] ρ) (fun k=>xs.length-k) 0 ?_ ?_
 ·exact⟨F,Nat.zero_le _,F,⟨F,F,F,trivial⟩⟩
 rintro k ρ O ⟨rfl,hk,he,hH⟩
 obtain⟨fE,rfl⟩:=hH.elim
 clear hH
 refine aB (ai (ah F (ah F (ad (bS cN F) (ad (bT F F) (ae (aC F (fun hc=>?_) (fun hc=>?_))))))))
 ·have nF:k<xs.length:=by omega
  have eV:k<xs.length:=by omega
  have jS:k<ys.length:=by omega
  refine av (aB (aG (aB ?_)))
  refine eD [(0,0),(1,0),(2,0),(3,0),(4,0),(5,0),(6,0),(7,0),(8,0)] ?_
  refine ao F (az F) (ao F (az F) (ao F (cY (i:=k) cN bN F F (ay hX) eV (by rw[bE];omega)) (ao F (dy (vs:=xs[k].cl) bs F bN F F (Nat.succ_pos _) (ay hX) (ew (List.getElem?_eq_getElem eV))) ?_)))
  refine ao F (az F) (ao F (az F) (ao F (cY (i:=k) cN bN F F (ay hY) jS (by rw[bE];omega)) (ao F (dy (vs:=ys[k].cl) bs F bN F F (Nat.succ_pos _) (ay hY) (ew (List.getElem?_eq_getElem jS))) ?_)))
  refine ao F (Bb (u:=xs[k]) (v:=ys[k]) F F) ?_
  refine bw ?_
  refine T.cond F (fun hc=>?_) (fun hc=>?_)
  ·refine aB ?_
   refine aJ (aj F (ae (aA ?_)))
   refine aE (.bool false) Tryz.results15 F ?_
   exact⟨congrArg Value.bool (decide_eq_false (fun e=>(by simp at hc;exact hc:xs[k]≠ys[k]) (by subst e;rfl))).symm,F⟩
  refine av (aJ (ah F (ad (cx (a:=k) (b:=1) F F (by omega)) (aj F (ae ?_)))))
  refine⟨k+1,by omega,F,by omega,?_,⟨F,F,F,trivial⟩⟩
  rw[List.take_succ_eq_append_getElem eV,List.take_succ_eq_append_getElem jS,he]
  exact congrArg _ (congrArg (fun z=>[z]) (by simpa using hc))
 have vu: ¬k<xs.length:=by omega
 refine bJ ?_
 refine ai (aj F (ae (aA ?_)))
 refine aE (.bool true) Tryz.results15 F ?_
 exact⟨congrArg Value.bool (decide_eq_true (show xs=ys by rw[List.take_of_length_le (by omega),List.take_of_length_le (by omega)]at he;exact he)).symm,F⟩
theorem KP (w:World) [cG Tryz.prog w] (xb yb:Option Addr) (xc yc:Nat) (xs ys:List dF) (hX:Sl w xb (bg xs)) (hY:Sl w yb (bg ys)) (hb:xs.length<4611686018427387904):
  bI Tryz.prog 67 [.slice xb xs.length xc,.slice yb ys.length yc] w fun v N=>v=.bool (decide (xs=ys))∧N=[]:=by
 refine aw func67 F ntmps67 F ?_
 refine ai (aj F (ae (aB (ai (ah F (ad (bS cN F) (ah F (ad (bS cN F) (ad (cT F F) (ae (aC F (fun hc=>?_) (fun hc=>?_))))))))))))
 ·have jJ:xs.length≠ys.length:=by omega
  have gv:xs.length≠ys.length:=by omega
  refine ai (aj F (ae (aA ?_)))
  refine aE (.bool false) Tryz.results67 F ?_
  exact⟨congrArg Value.bool (decide_eq_false (fun e=>gv (by rw[e]))).symm,F⟩
 have ta: ¬xs.length≠ys.length:=by omega
 have gv:xs.length=ys.length:=by omega
 refine av (aB (ai (ah F (ad (bS cN F) (ah F (ae (aG ?_)))))))
 refine dm (fun(k:Nat) ρ O=>O=[]∧k≤xs.length∧xs.take k=ys.take k∧cw [(0,(.slice xb xs.length xc)),(1,(.slice yb ys.length yc)),(12,vI (xs.length:Int)),(13,vN k)] ρ) (fun k=>xs.length-k) 0 ?_ ?_
 ·exact⟨F,Nat.zero_le _,F,⟨F,F,F,F,trivial⟩⟩
 rintro k ρ O ⟨rfl,hk,he,hH⟩
 obtain⟨fE,rfl⟩:=hH.elim
 clear hH
 refine ai (ad (bT F F) (ae (aB (aC F (fun hc=>?_) (fun hc=>?_)))))
 ·have nF:k<xs.length:=by omega
  have eV:k<xs.length:=by omega
  have jS:k<ys.length:=by omega
  refine av (aB (aG (ai (ah F (aj F (ae (aB ?_)))))))
  refine eD [(0,0),(1,0),(2,0),(3,0),(4,0),(5,0),(6,0),(7,0),(8,0)] ?_
  refine ao F (az F) (ao F (az F) (ao F (cY (i:=k) cN bN F F (ay hX) eV (by rw[bE];omega)) (ao F (dy (vs:=xs[k].cl) bs F bN F F (Nat.succ_pos _) (ay hX) (ew (List.getElem?_eq_getElem eV))) ?_)))
  refine ao F (az F) (ao F (az F) (ao F (cY (i:=k) cN bN F F (ay hY) jS (by rw[bE];omega)) (ao F (dy (vs:=ys[k].cl) bs F bN F F (Nat.succ_pos _) (ay hY) (ew (List.getElem?_eq_getElem jS))) ?_)))
  refine ao F (Bb (u:=xs[k]) (v:=ys[k]) F F) ?_
  refine bw ?_
  refine T.cond F (fun hc=>?_) (fun hc=>?_)
  ·refine aB ?_
   refine aJ (aj F (ae (aA ?_)))
   refine aE (.bool false) Tryz.results67 F ?_
   exact⟨congrArg Value.bool (decide_eq_false (fun e=>(by simp at hc;exact hc:xs[k]≠ys[k]) (by subst e;rfl))).symm,F⟩
  refine av (aJ (ad (cx (a:=k) (b:=1) F F (by omega)) (ah F (ae ?_))))
  refine⟨k+1,by omega,F,by omega,?_,⟨F,F,F,F,trivial⟩⟩
  rw[List.take_succ_eq_append_getElem eV,List.take_succ_eq_append_getElem jS,he]
  exact congrArg _ (congrArg (fun z=>[z]) (by simpa using hc))
 have vu: ¬k<xs.length:=by omega
 refine bJ ?_
 refine ai (aj F (ae (aA ?_)))
 refine aE (.bool true) Tryz.results67 F ?_
 exact⟨congrArg Value.bool (decide_eq_true (show xs=ys by rw[List.take_of_length_le (by omega),List.take_of_length_le (by omega)]at he;exact he)).symm,F⟩
end Go.Proofs.YtgdbfideeeegmaaGreatDoor

namespace Go.Lx
open Go.RowKit Go.Proofs.YtgdbfideeeegmaaGreatDoor
abbrev PP:=Nat×List dF
def dj (s:Nat) (x:dF):dF:=if x.op=7∨x.op=8 then {x with a:=x.a+s}else if x.op=4∨x.op=5∨x.op=6 then {x with a:=x.a+s,b:=x.b+s}else x
theorem zZ (x:dF):dj 0 x=x:=by
 unfold dj
 split
 ·simp
 ·split<;>simp
def Ft (op:Nat) (out:List dF):PP:=if 64<out.length then(3,[])else(0,out)
def oo (op:Nat) (a:PP):PP:=if a.1=3 then(3,[])else Ft op (a.2++[⟨op,0,0,(a.2.length:Int)-1,0⟩])
def mg (op:Nat) (a b:PP):PP:=if a.1=3∨b.1=3 then(3,[])else Ft op (a.2++b.2.map (dj a.2.length)++[⟨op,0,0,(a.2.length:Int)-1,((a.2.length+b.2.length:Nat):Int)-1⟩])
def yg (a b:PP):PP:=if a.1=1 then b else if b.1=1∨(a.1≠3∧a.2=b.2)then a else mg 5 a b
def z_ (a b:PP):PP:=if a.1=1∨b.1=2 then a else if b.1=1∨a.1=2 then b else mg 4 a b
def xg (a:PP):PP:=if a.1=1∨a.1=2 then(2,[⟨2,0,0,0,0⟩])else oo 8 a
structure wu (n:Nat) (x:dF):Prop where
 op:1≤x.op∧x.op≤8
 p:x.p<256
 nn:x.n<256
 a0:0≤x.a
 a1:x.a<n
 b0:0≤x.b
 b1:x.b<n
theorem wu.mono {n m:Nat} {x:dF} (h:wu n x) (hm:n≤m):wu m x:=⟨h.op,h.p,h.nn,h.a0,by have:=h.a1;omega,h.b0,by have:=h.b1;omega⟩
structure ek (a:PP):Prop where
 k:a.1≤3
 len:a.2.length≤64
 nil:a.1=3→a.2=[]
 ne:a.1≠3→a.2≠ []
 pc: ∀x∈a.2,wu a.2.length x
theorem ek.one {k o p n:Nat} (hk:k≤2) (ho:1≤o∧o≤8) (hp:p<256) (hn:n<256):ek (k,[⟨o,p,n,0,0⟩]):=
 ⟨Nat.le_trans hk (by decide),by simp,fun h=>absurd (show k=3 from h) (by omega),fun _=>by simp,fun x hx=>by rw[List.mem_singleton.1 hx];exact⟨ho,hp,hn,Int.le_refl _,Int.zero_lt_one,Int.le_refl _,Int.zero_lt_one⟩⟩
theorem ek.OJ:ek (3,[]):=⟨by decide,by simp,fun _=>rfl,fun h=>absurd F h,fun x hx=>by simp at hx⟩
theorem xh {op:Nat} {out:List dF} (ue:out≠ []) (h: ∀x∈out,wu out.length x):ek (Ft op out):=by
 unfold Ft
 split
 ·exact .OJ
 ·rename_i hl
  exact⟨Nat.zero_le _,by show out.length≤64;omega,fun h=>absurd (show 0=3 from h) (by decide),fun _=>ue,h⟩
theorem ek.pos {a:PP} (h:ek a) (h3:a.1≠3):0<a.2.length:=List.length_pos_iff.2 (h.ne h3)
theorem Ci {op:Nat} (ho:1≤op∧op≤8) {a:PP} (ha:ek a):ek (oo op a):=by
 unfold oo
 split
 ·exact .OJ
 ·rename_i h3
  have h0:=ha.pos h3
  refine xh (by simp) fun x hx=>?_
  rw[List.length_append,List.length_singleton]
  rcases List.mem_append.1 hx with hx|hx
  ·exact(ha.pc x hx).mono (by omega)
  ·rw[List.mem_singleton.1 hx];exact⟨ho,by show 0<256;omega,by show 0<256;omega,by show 0≤(a.2.length:Int)-1;omega,by show(a.2.length:Int)-1<_;omega,Int.le_refl _,by show(0:Int)<_;omega⟩
theorem OK {s n:Nat} {x:dF} (h:wu n x):wu (s+n) (dj s x):=by
 obtain⟨h1,h2,h3,h4,h5,h6,h7⟩:=h
 unfold dj
 split
 ·exact⟨h1,h2,h3,by show 0≤x.a+s;omega,by show x.a+s<_;omega,h6,by show x.b<_;omega⟩
 ·split
  ·exact⟨h1,h2,h3,by show 0≤x.a+s;omega,by show x.a+s<_;omega,by show 0≤x.b+s;omega,by show x.b+s<_;omega⟩
  ·exact⟨h1,h2,h3,h4,by omega,h6,by omega⟩
theorem uW {op:Nat} (ho:1≤op∧op≤8) {a b:PP} (ha:ek a) (hb:ek b):ek (mg op a b):=by
 unfold mg
 split
 ·exact .OJ
 ·rename_i h3
  have h0:=ha.pos (fun e=>h3 (.inl e))
  have h1:=hb.pos (fun e=>h3 (.inr e))
  refine xh (by simp) fun x hx=>?_
  rw[List.length_append,List.length_append,List.length_map,List.length_singleton]
  rcases List.mem_append.1 hx with hx|hx
  ·rcases List.mem_append.1 hx with hx|hx
   ·exact(ha.pc x hx).mono (by omega)
   ·obtain⟨y,hy,rfl⟩:=List.mem_map.1 hx
    exact(OK (hb.pc y hy)).mono (by omega)
  ·rw[List.mem_singleton.1 hx];exact⟨ho,by show 0<256;omega,by show 0<256;omega,by show 0≤(a.2.length:Int)-1;omega,by show(a.2.length:Int)-1<_;omega,by show(0:Int)≤((a.2.length+b.2.length:Nat):Int)-1;omega,by show((a.2.length+b.2.length:Nat):Int)-1<_;omega⟩
theorem sg {a b:PP} (ha:ek a) (hb:ek b):ek (yg a b):=by
 unfold yg
 split
 ·exact hb
 ·split
  ·exact ha
  ·exact uW (by decide) ha hb
theorem pg {a b:PP} (ha:ek a) (hb:ek b):ek (z_ a b):=by
 unfold z_
 split
 ·exact ha
 ·split
  ·exact hb
  ·exact uW (by decide) ha hb
theorem uX {a:PP} (ha:ek a):ek (xg a):=by
 unfold xg
 split
 ·exact .one (by decide) (by decide) (by decide) (by decide)
 ·exact Ci (by decide) ha
structure ER where
 b:Option Addr
 c:Nat
 e:List dF
def ER.qG (T:TypeId) (r:ER):Item:=am r.b r.c T 5 (bg r.e)
def cq (T:TypeId) (p:List ER):List Item:=p.map (ER.qG T)
def eJ (p:List ER) (r:ER):Prop:=r∈p∨r.e=[]
theorem eJ.sl {T:TypeId} {w base:World} {O:List Item} {p:List ER} {r:ER} (hI:Inv base O w) (hO: ∀it∈cq T p,it∈O) (h:eJ p r):Sl w r.b (bg r.e):=by
 rcases h with h|h
 ·exact hI.fV (hO _ (List.mem_map.2 ⟨r,h,F⟩))
 ·rw[h];exact fun i hi=>absurd hi (by simp[bg])
theorem eJ.mono {p q:List ER} {r:ER} (h:eJ p r) (hq: ∀x∈p,x∈q):eJ q r:=h.elim (fun h=>.inl (hq _ h)) .inr
theorem oq (T:TypeId) (p q:List ER):cq T (p++q)=cq T p++cq T q:=List.map_append
structure PR where
 k:Nat
 r:ER
instance:Inhabited PR:=⟨⟨0,none,0,[]⟩⟩
def PR.pp (x:PR):PP:=(x.k,x.r.e)
abbrev PR.cells (x:PR):List Value:=[.int .u8 (x.k:Int),.slice x.r.b x.r.e.length x.r.c]
abbrev PR.val (x:PR):Value:=.agg #[.int .u8 (x.k:Int),.slice x.r.b x.r.e.length x.r.c]
def dp (l:List PR):List Value:=l.flatMap PR.cells
theorem fI (l:List PR):(dp l).length=l.length*2:=by
 induction l with
 |nil=>rfl
 |cons p l ih=>simp only[dp,List.flatMap_cons,List.length_append,List.length_cons,List.length_nil]at ih⊢;rw[ih];omega
theorem lI {l:List PR}: ∀ {i:Nat} (hi:i<l.length) (j:Nat) (h:j<l[i].cells.length),(dp l)[i*2+j]? =some l[i].cells[j]:=by
 induction l with
 |nil=>intro i hi;simp at hi
 |cons p l ih=>
  intro i hi j hj
  show(p.cells++dp l)[i*2+j]? =_
  cases i with
  |zero=>rw[Nat.zero_mul,Nat.zero_add,List.getElem?_append_left (show j<p.cells.length from hj)];exact List.getElem?_eq_getElem hj
  |succ i=>
   have h3:p.cells.length=2:=rfl
   rw[List.getElem?_append_right (by rw[h3];omega),show(i+1)*2+j-p.cells.length=i*2+j by rw[h3];omega]
   exact ih (by simpa using hi) j hj
theorem qZ (l:List PR) (c:PR):dp (l++[c])=dp l++c.cells:=by simp[dp]
def Rl (T:TypeId) (a:List PR) (pp:PP) (v:Value) (N:List Item):Prop:= ∃(q:List ER) (c:PR),v=c.val∧N=cq T q∧c.pp=pp∧(eJ q c.r∨ ∃x∈a,c.r=x.r)
theorem jR (a b:List dF):bg (a++b)=bg a++bg b:=List.flatMap_append
end Go.Lx

namespace Go.Proofs.YtgdbfideeeegmaaGreatDoor
open Go.Lx Go.RowKit _root_.Go.Proofs.Tryz
theorem uY (w:World) [cG Tryz.prog w] (k:Nat) (x:dF):
  bI Tryz.prog 39 [v8 k,x.ag] w (Rl 72 [] (k,[x])):=by
 refine aw func39 F ntmps39 F ?_
 refine ai (ak F (cH (cs:=x.cl) F F (fun z1=>?_)))
 refine ak F (aR cg F (fun z2=>?_))
 refine ae (ai (ah F (ad (dh 1 bs F bN F F F) (ak F (bH (m:=1) (parts:=[(0,_)]) (cs:=x.cl) cN bN (by decide) (by kernel_rfl) F (fun z3=>?_))))))
 refine ad (bG (cs:=[v8 k,(.slice (aD z3) 1 1)]) ot cg (by kernel_rfl)) (ak F (a8 (vs:=[v8 k,(.slice (aD z3) 1 1)]) 1 cg F F F F ?_))
 refine ae (aA (ap ?_))
 refine bL (i:=1) Tryz.results39 eG F cg F F F ?_
 exact⟨[am (aD z3) 1 72 5 x.cl],(by exact Sub.k .z),[⟨(aD z3),1,[x]⟩],⟨k,⟨(aD z3),1,[x]⟩⟩,F,F,F,.inl (.inl (List.mem_singleton.2 F))⟩
theorem c8 {s:Nat} {x:dF} (h:x.op=7∨x.op=8):dj s x=⟨x.op,x.p,x.n,x.a+s,x.b⟩:=if_pos h
theorem c_ {s:Nat} {x:dF} (h:x.op=4∨x.op=5∨x.op=6):dj s x=⟨x.op,x.p,x.n,x.a+s,x.b+s⟩:=by unfold dj;rw[if_neg (by omega),if_pos h]
theorem dD {s:Nat} {x:dF} (h: ¬(x.op=7∨x.op=8)) (h2: ¬(x.op=4∨x.op=5∨x.op=6)):dj s x=⟨x.op,x.p,x.n,x.a,x.b⟩:=by unfold dj;rw[if_neg h,if_neg h2]
theorem xi {op:Nat} {out:List dF} (h:64<out.length):Ft op out=(3,[]):=if_pos h
theorem Aa {op:Nat} {out:List dF} (h: ¬64<out.length):Ft op out=(0,out):=if_neg h
theorem Cj {op:Nat} {a:PR} (ha: ¬a.k=3) (h:64<a.r.e.length+1):oo op a.pp=(3,[]):=(if_neg ha).trans (xi (show 64<(a.r.e++[_]).length by simpa using h))
theorem Fu {op:Nat} {a:PR} (ha: ¬a.k=3) (h: ¬64<a.r.e.length+1):oo op a.pp=(0,a.r.e++[⟨op,0,0,(a.r.e.length:Int)-1,0⟩]):=(if_neg ha).trans (Aa (show¬64<(a.r.e++[_]).length by simpa using h))
theorem Ck {op:Nat} {a b:PR} (ha: ¬a.k=3) (hb: ¬b.k=3) (h:64<a.r.e.length+b.r.e.length+1):mg op a.pp b.pp=(3,[]):=(if_neg (fun h=>h.elim ha hb)).trans (xi (show 64<(a.r.e++b.r.e.map _++[_]).length by simpa[Nat.add_assoc]using h))
theorem Fv {op:Nat} {a b:PR} (ha: ¬a.k=3) (hb: ¬b.k=3) (h: ¬64<a.r.e.length+b.r.e.length+1):mg op a.pp b.pp=(0,a.r.e++b.r.e.map (dj a.r.e.length)++[⟨op,0,0,(a.r.e.length:Int)-1,((a.r.e.length+b.r.e.length:Nat):Int)-1⟩]):=(if_neg (fun h=>h.elim ha hb)).trans (Aa (show¬64<(a.r.e++b.r.e.map _++[_]).length by simpa[Nat.add_assoc]using h))
theorem gQ {e:List dF} {j:Nat} (h:j<e.length) (g:dF→dF):(e.take (j+1)).map g=(e.take j).map g++[g e[j]]:=by rw[List.take_succ_eq_append_getElem h,List.map_append];rfl
theorem OM (w:World) [cG Tryz.prog w] (op:Nat) (tb:Option Addr) (tc:Nat) (a:PR) (hT:Sl w tb (dp [a])) (ha:Sl w a.r.b (bg a.r.e)) (zh:ek a.pp):
  bI Tryz.prog 68 [v8 op,(.slice tb 1 tc)] w (Rl 72 [a] (oo op a.pp)):=by
 refine aw func68 F ntmps68 F ?_
 refine ai (ak F (aR cg F (fun z1=>?_)))
 refine ae (ai (aj F (ae (ai (ad (qW (cs:=[(vI 0),(vI 0)]) q5 aO sh (by kernel_rfl)) (ak F (aR sh F (fun z2=>?_))))))))
 refine ak F (a8 (vs:=[(vI 0),(vI 0)]) 0 sh F F F F ?_)
 refine ae (aB (ai (ah F (ad (a7 (bS j_ F) (v':=vI 1) F) (ah F (ae (aG ?_)))))))
 refine mZ 2 (T.round ?_)
 refine ai (ad (aq (bT F F) (b':=true) F) (ae (aB ?_)))
 refine bj F ?_
 refine av (aB (aG (ai (ah F (ad (cY (i:=0) j_ cg F F (ay hT) (by simp) (by rw[fI];simp)) (ad (dy (vs:=a.cells) eG F cg F F (Nat.succ_pos _) (ay hT) (lI (l:=[a]) (i:=0) (by simp))) (ak F (aR cg F (fun z3=>?_)))))))))
 refine aj F (ak F (a8 (vs:=a.cells) 0 cg F F F F ?_))
 refine ae (aB (ai (ad (aN eG F lJ F F) (ad (aQ 0 si F F F F) (ad (aZ F F) (ae (aC F (fun hc=>?_) (fun hc=>?_))))))))
 ·have q7:a.k=3:=by omega
  refine ai (ad (bG (cs:=[.int .u8 3,nS]) ot cg (by kernel_rfl)) (ak F (a8 (vs:=[.int .u8 3,nS]) 2 cg F F F F ?_)))
  refine ae (aA (ap ?_))
  refine bL (i:=2) Tryz.results68 eG F cg F F F ?_
  exact⟨[],Sub.z,[],⟨3,⟨none,0,[]⟩⟩,F,F,(if_pos q7).symm,.inl (.inr F)⟩
 have xj: ¬a.k=3:=by omega
 have ON: ¬a.k=3:=xj
 refine av (ai (ah F (ad (bS cN F) (aj F (ae (aB (ai (ad (aN eG F fJ F F) (ad (aQ 0 cN F F F F) (ad (bS cN F) (ah F (ae (aG (T.dJ 72 5 ?_))))))))))))))
 refine cM (fun(j1:Nat) ρ O=> ∃(oa:Option Addr) (ka:Nat),O=[am oa ka 72 5 (bg ((a.r.e.take j1).map (dj 0))),oI z3 69 a.cells,oI z2 153 [(vI 0),(vI 0)],oI z1 69 [(.int .u8 0),nS]]∧j1≤a.r.e.length∧cw [(0,v8 op),(1,(.slice tb 1 tc)),(4,(.pointer (aD z1))),(5,(.slice oa (((a.r.e.take j1).map (dj 0)).length) ka)),(6,(.pointer (aD z2))),(7,vI 0),(8,(.pointer (aD z3))),(9,vI (0:Int)),(12,(.agg #[(vI 0),(vI 0)])),(13,(.slice tb 1 tc)),(14,vI 1),(15,vI 0),(27,(.slice a.r.b a.r.e.length a.r.c)),(28,vI (a.r.e.length:Int)),(29,vN j1)] ρ) (fun j1=>a.r.e.length-j1) 0 ?_ ?_
 ·exact⟨none,0,F,Nat.zero_le _,(.of F)⟩
 rintro j1 ρ O ⟨oa,ka,rfl,hj,hH⟩
 obtain⟨fE,rfl⟩:=hH.elim
 clear hH
 refine ai (ad (bT F F) (ae (aB (aC F (fun hc=>?_) (fun hc=>?_)))))
 ·have gm:j1<a.r.e.length:=by omega
  have BN:wu a.r.e.length a.r.e[j1]:=zh.pc _ (List.getElem_mem gm)
  have Ri:=BN.a0;have xe:=BN.a1;have BO:=BN.b0;have Vn:=BN.b1
  have Wj:a.r.e.length≤64:=zh.len
  refine av (aB (aG (ai ?_)))
  refine ad (cY (i:=j1) cN bN F F (ay ha) gm (by rw[bE];omega)) (ad (dy (vs:=a.r.e[j1].cl) bs F bN F F (Nat.succ_pos _) (ay ha) (ew (List.getElem?_eq_getElem gm))) ?_)
  refine ak F (aR bN F (fun z4=>?_))
  refine ak F (a8 (vs:=a.r.e[j1].cl) 0 bN F F F F ?_)
  refine ae ?_
  refine e7 (fun ρ O=>Sub [oI z4 72 (dj 0 a.r.e[j1]).cl,am oa ka 72 5 (bg ((a.r.e.take j1).map (dj 0))),oI z3 69 a.cells,oI z2 153 [(vI 0),(vI 0)],oI z1 69 [(.int .u8 0),nS]] O∧cw [(0,v8 op),(1,(.slice tb 1 tc)),(4,(.pointer (aD z1))),(5,(.slice oa (((a.r.e.take j1).map (dj 0)).length) ka)),(6,(.pointer (aD z2))),(7,vI 0),(8,(.pointer (aD z3))),(9,vI (0:Int)),(11,(.pointer (aD z4))),(12,(.agg #[(vI 0),(vI 0)])),(13,(.slice tb 1 tc)),(14,vI 1),(15,vI 0),(27,(.slice a.r.b a.r.e.length a.r.c)),(28,vI (a.r.e.length:Int)),(29,vN j1)] ρ) ?_ ?_
  ·refine aB ?_
   refine aJ (ad (aN bs F cI F F) (ad (aQ 0 eu F F F F) (ae (aG (aB (ai (ad (aZ F F) (aj F (ae (aC F (fun hc=>?_) (fun hc=>?_)))))))))))
   ·have nA:a.r.e[j1].op=7:=by omega
    refine av (aC F (fun hc=>?_) (fun hc=>?_))
    ·have nA:a.r.e[j1].op=7:=by omega
     refine aJ (ad (aN bs F aO F F) (ad (aQ 0 cS F F F F) (ah F (ad (cL F F (by omega)) (ad (aN bs F aO F F) (ak F (a8 (vs:=[(vI (a.r.e[j1].a+(0:Int)))]) 0 aO F F F F ?_)))))))
     refine ae ?_
     exact⟨(by first|(rw[c8 (by omega)];exact Sub.rf)|(rw[c_ (by omega)];exact Sub.rf)|(rw[dD (by omega) (by omega)];exact Sub.rf)),(.of F)⟩
    have nB: ¬a.r.e[j1].op=7:=by omega
    refine aB (ai (ad (aZ F F) (aj F (ae (aC F (fun hc=>?_) (fun hc=>?_))))))
    ·have fK:a.r.e[j1].op=4:=by omega
     refine av (aC F (fun hc=>?_) (fun hc=>?_))
     ·have fK:a.r.e[j1].op=4:=by omega
      refine aJ (ad (aN bs F aO F F) (ad (aQ 0 cS F F F F) (ah F (ad (cL F F (by omega)) (ad (aN bs F aO F F) (ad (aQ 0 cS F F F F) (ah F (ad (cL F F (by omega)) (ad (aN bs F aO F F) (ak F (a8 (vs:=[(vI (a.r.e[j1].a+(0:Int)))]) 0 aO F F F F ?_)))))))))))
      refine ad (aN bs F aO F F) (ak F (a8 (vs:=[(vI (a.r.e[j1].b+(0:Int)))]) 0 aO F F F F ?_))
      refine ae ?_
      exact⟨(by first|(rw[c8 (by omega)];exact Sub.rf)|(rw[c_ (by omega)];exact Sub.rf)|(rw[dD (by omega) (by omega)];exact Sub.rf)),(.of F)⟩
     have fQ: ¬a.r.e[j1].op=4:=by omega
     refine av ?_
     exact⟨(by first|(rw[c8 (by omega)];exact Sub.rf)|(rw[c_ (by omega)];exact Sub.rf)|(rw[dD (by omega) (by omega)];exact Sub.rf)),(.of F)⟩
    have fQ: ¬a.r.e[j1].op=4:=by omega
    refine ai (ad (aZ F F) (aj F (ae (aC F (fun hc=>?_) (fun hc=>?_)))))
    ·have fK:a.r.e[j1].op=5:=by omega
     refine av (aC F (fun hc=>?_) (fun hc=>?_))
     ·have fK:a.r.e[j1].op=5:=by omega
      refine aJ (ad (aN bs F aO F F) (ad (aQ 0 cS F F F F) (ah F (ad (cL F F (by omega)) (ad (aN bs F aO F F) (ad (aQ 0 cS F F F F) (ah F (ad (cL F F (by omega)) (ad (aN bs F aO F F) (ak F (a8 (vs:=[(vI (a.r.e[j1].a+(0:Int)))]) 0 aO F F F F ?_)))))))))))
      refine ad (aN bs F aO F F) (ak F (a8 (vs:=[(vI (a.r.e[j1].b+(0:Int)))]) 0 aO F F F F ?_))
      refine ae ?_
      exact⟨(by first|(rw[c8 (by omega)];exact Sub.rf)|(rw[c_ (by omega)];exact Sub.rf)|(rw[dD (by omega) (by omega)];exact Sub.rf)),(.of F)⟩
     have fQ: ¬a.r.e[j1].op=5:=by omega
     refine av ?_
     exact⟨(by first|(rw[c8 (by omega)];exact Sub.rf)|(rw[c_ (by omega)];exact Sub.rf)|(rw[dD (by omega) (by omega)];exact Sub.rf)),(.of F)⟩
    have fQ: ¬a.r.e[j1].op=5:=by omega
    refine aJ (ad (aZ F F) (aj F (ae (aC F (fun hc=>?_) (fun hc=>?_)))))
    ·have fK:a.r.e[j1].op=6:=by omega
     refine aJ (ad (aN bs F aO F F) (ad (aQ 0 cS F F F F) (ah F (ad (cL F F (by omega)) (ad (aN bs F aO F F) (ad (aQ 0 cS F F F F) (ah F (ad (cL F F (by omega)) (ad (aN bs F aO F F) (ak F (a8 (vs:=[(vI (a.r.e[j1].a+(0:Int)))]) 0 aO F F F F ?_)))))))))))
     refine ad (aN bs F aO F F) (ak F (a8 (vs:=[(vI (a.r.e[j1].b+(0:Int)))]) 0 aO F F F F ?_))
     refine ae ?_
     exact⟨(by first|(rw[c8 (by omega)];exact Sub.rf)|(rw[c_ (by omega)];exact Sub.rf)|(rw[dD (by omega) (by omega)];exact Sub.rf)),(.of F)⟩
    have fQ: ¬a.r.e[j1].op=6:=by omega
    refine av ?_
    exact⟨(by first|(rw[c8 (by omega)];exact Sub.rf)|(rw[c_ (by omega)];exact Sub.rf)|(rw[dD (by omega) (by omega)];exact Sub.rf)),(.of F)⟩
   have nB: ¬a.r.e[j1].op=7:=by omega
   refine aJ (ad (aZ F F) (aj F (ae (aC F (fun hc=>?_) (fun hc=>?_)))))
   ·have nA:a.r.e[j1].op=8:=by omega
    refine aJ (ad (aN bs F aO F F) (ad (aQ 0 cS F F F F) (ah F (ad (cL F F (by omega)) (ad (aN bs F aO F F) (ak F (a8 (vs:=[(vI (a.r.e[j1].a+(0:Int)))]) 0 aO F F F F ?_)))))))
    refine ae ?_
    exact⟨(by first|(rw[c8 (by omega)];exact Sub.rf)|(rw[c_ (by omega)];exact Sub.rf)|(rw[dD (by omega) (by omega)];exact Sub.rf)),(.of F)⟩
   have nB: ¬a.r.e[j1].op=8:=by omega
   refine aB (ai (ad (aZ F F) (aj F (ae (aC F (fun hc=>?_) (fun hc=>?_))))))
   ·have fK:a.r.e[j1].op=4:=by omega
    refine av (aC F (fun hc=>?_) (fun hc=>?_))
    ·have fK:a.r.e[j1].op=4:=by omega
     refine aJ (ad (aN bs F aO F F) (ad (aQ 0 cS F F F F) (ah F (ad (cL F F (by omega)) (ad (aN bs F aO F F) (ad (aQ 0 cS F F F F) (ah F (ad (cL F F (by omega)) (ad (aN bs F aO F F) (ak F (a8 (vs:=[(vI (a.r.e[j1].a+(0:Int)))]) 0 aO F F F F ?_)))))))))))
     refine ad (aN bs F aO F F) (ak F (a8 (vs:=[(vI (a.r.e[j1].b+(0:Int)))]) 0 aO F F F F ?_))
     refine ae ?_
     exact⟨(by first|(rw[c8 (by omega)];exact Sub.rf)|(rw[c_ (by omega)];exact Sub.rf)|(rw[dD (by omega) (by omega)];exact Sub.rf)),(.of F)⟩
    have fQ: ¬a.r.e[j1].op=4:=by omega
    refine av ?_
    exact⟨(by first|(rw[c8 (by omega)];exact Sub.rf)|(rw[c_ (by omega)];exact Sub.rf)|(rw[dD (by omega) (by omega)];exact Sub.rf)),(.of F)⟩
   have fQ: ¬a.r.e[j1].op=4:=by omega
   refine ai (ad (aZ F F) (aj F (ae (aC F (fun hc=>?_) (fun hc=>?_)))))
   ·have fK:a.r.e[j1].op=5:=by omega
    refine av (aC F (fun hc=>?_) (fun hc=>?_))
    ·have fK:a.r.e[j1].op=5:=by omega
     refine aJ (ad (aN bs F aO F F) (ad (aQ 0 cS F F F F) (ah F (ad (cL F F (by omega)) (ad (aN bs F aO F F) (ad (aQ 0 cS F F F F) (ah F (ad (cL F F (by omega)) (ad (aN bs F aO F F) (ak F (a8 (vs:=[(vI (a.r.e[j1].a+(0:Int)))]) 0 aO F F F F ?_)))))))))))
     refine ad (aN bs F aO F F) (ak F (a8 (vs:=[(vI (a.r.e[j1].b+(0:Int)))]) 0 aO F F F F ?_))
     refine ae ?_
     exact⟨(by first|(rw[c8 (by omega)];exact Sub.rf)|(rw[c_ (by omega)];exact Sub.rf)|(rw[dD (by omega) (by omega)];exact Sub.rf)),(.of F)⟩
    have fQ: ¬a.r.e[j1].op=5:=by omega
    refine av ?_
    exact⟨(by first|(rw[c8 (by omega)];exact Sub.rf)|(rw[c_ (by omega)];exact Sub.rf)|(rw[dD (by omega) (by omega)];exact Sub.rf)),(.of F)⟩
   have fQ: ¬a.r.e[j1].op=5:=by omega
   refine aJ (ad (aZ F F) (aj F (ae (aC F (fun hc=>?_) (fun hc=>?_)))))
   ·have fK:a.r.e[j1].op=6:=by omega
    refine aJ (ad (aN bs F aO F F) (ad (aQ 0 cS F F F F) (ah F (ad (cL F F (by omega)) (ad (aN bs F aO F F) (ad (aQ 0 cS F F F F) (ah F (ad (cL F F (by omega)) (ad (aN bs F aO F F) (ak F (a8 (vs:=[(vI (a.r.e[j1].a+(0:Int)))]) 0 aO F F F F ?_)))))))))))
    refine ad (aN bs F aO F F) (ak F (a8 (vs:=[(vI (a.r.e[j1].b+(0:Int)))]) 0 aO F F F F ?_))
    refine ae ?_
    exact⟨(by first|(rw[c8 (by omega)];exact Sub.rf)|(rw[c_ (by omega)];exact Sub.rf)|(rw[dD (by omega) (by omega)];exact Sub.rf)),(.of F)⟩
   have fQ: ¬a.r.e[j1].op=6:=by omega
   refine av ?_
   exact⟨(by first|(rw[c8 (by omega)];exact Sub.rf)|(rw[c_ (by omega)];exact Sub.rf)|(rw[dD (by omega) (by omega)];exact Sub.rf)),(.of F)⟩
  rintro ρ O ⟨hS,hH⟩
  obtain⟨fE,rfl⟩:=hH.elim
  clear hH
  refine ck hS ?_
  refine aJ (ah F (ad (dh 0 bs F bN F F F) (ak F (bH (m:=1) (parts:=[(0,_)]) (cs:=(dj 0 a.r.e[j1]).cl) cN bN (by decide) (by kernel_rfl) F (fun z5=>?_)))))
  refine ak F (bY 2 cN cN bN F F F F (by rw[bE]) (by decide) (Src.row (j:=0) F (by simp)) (by simp[dS]) (by simp only[List.nil_append,List.length_append,List.length_map,List.length_take];omega) (by decide) (by decide) (fun z6 DE=>?_))
  refine aj F (ae (aJ (ad (cx (a:=j1) (b:=1) F F (by omega)) (ah F (ae ?_)))))
  exact⟨j1+1,by omega,[am z6 DE 72 5 ((bg ((a.r.e.take j1).map (dj 0)))++(dj 0 a.r.e[j1]).cl),oI z3 69 a.cells,oI z2 153 [(vI 0),(vI 0)],oI z1 69 [(.int .u8 0),nS]],(by exact Sub.d (.d (.k (.k (.k (.k .z)))))),z6,DE,by rw[gQ gm,jR (((a.r.e.take j1).map (dj 0)))];rfl,by omega,⟨F,F,F,(congrArg (fun n9=>Value.slice z6 n9 DE) (show(((a.r.e.take j1).map (dj 0)).length)+1=(((a.r.e.take (j1+1)).map (dj 0))).length by rw[gQ gm];simp only[List.length_append,List.length_cons,List.length_nil]<;>omega)),F,F,F,F,F,F,F,F,F,F,F,trivial⟩⟩
 have DF: ¬j1<a.r.e.length:=by omega
 have Kc:j1=a.r.e.length:=by omega
 have G8:0<a.r.e.length:=zh.pos ON
 have YJ:a.r.e.length≤64:=zh.len
 have Rm:((a.r.e.take j1).map (dj 0))=a.r.e:=by rw[Kc,List.take_length,show dj 0=id from funext zZ,List.map_id]
 have Hj:((a.r.e.take j1).map (dj 0)).length=a.r.e.length:=by rw[Kc];simp
 refine bJ ?_
 refine aJ (ah F (ah F (ad (bS cN F) (ad (qh (a:=(((a.r.e.take j1).map (dj 0)).length)) (b:=1) F F (by omega) (by omega)) (ad (gT (i:=0) q5 aO F F (by decide)) (ak F (a8 (vs:=[(vN ((((a.r.e.take j1).map (dj 0)).length)-1))]) 2 aO F F F F ?_)))))))
 refine ae (aJ (ad (a7 (cL F F (by omega)) (v':=vI 1) F) (ah F (ae ?_))))
 refine lG [am oa ka 72 5 (bg ((a.r.e.take j1).map (dj 0))),oI z3 69 a.cells,oI z2 153 [(vN ((((a.r.e.take j1).map (dj 0)).length)-1)),(vI 0)],oI z1 69 [(.int .u8 0),nS]] [(0,v8 op),(1,(.slice tb 1 tc)),(4,(.pointer (aD z1))),(5,(.slice oa (((a.r.e.take j1).map (dj 0)).length) ka)),(6,(.pointer (aD z2))),(7,vI 0),(8,(.pointer (aD z3))),(9,vI (0:Int)),(12,(.agg #[(vI 0),(vI 0)])),(13,(.slice tb 1 tc)),(14,vI 1),(15,vI 1)] F (.of F) (fun fE=>?_)
 refine T.round ?_
 refine ai (ad (aq (bT F F) (b':=false) F) (ae (aB (aL F ?_))))
 refine bJ ?_
 refine ai (ah F (ah F (ad (gT (i:=0) q5 aO F F (by decide)) (ad (aQ 2 cS F F F F) (ad (gT (i:=1) q5 aO F F (by decide)) (ad (aQ 2 cS F F F F) (ad (bG (cs:=[v8 op,(.int .u8 0),(.int .u8 0),(vN ((((a.r.e.take j1).map (dj 0)).length)-1)),(vI 0)]) k_ bN (by kernel_rfl)) (ak F (bH (m:=1) (parts:=[(0,_)]) (cs:=[v8 op,(.int .u8 0),(.int .u8 0),(vN ((((a.r.e.take j1).map (dj 0)).length)-1)),(vI 0)]) cN bN (by decide) (by kernel_rfl) F (fun z8=>?_))))))))))
 refine ak F (bY 1 cN cN bN F F F F (by rw[bE]) (by decide) (Src.row (j:=0) F (by simp)) (by simp[dS]) (by simp only[List.nil_append,List.length_append,List.length_map,List.length_take];omega) (by decide) (by decide) (fun z9 kF=>?_))
 refine aj F (ae (aB (ai (ah F (ad (bS cN F) (ad (fW F F) (ae (aC F (fun hc=>?_) (fun hc=>?_)))))))))
 ·have Hk:(((a.r.e.take j1).map (dj 0)).length)+1>64:=by omega
  have hL:=Hk
  refine ai (ad (bG (cs:=[.int .u8 3,nS]) ot cg (by kernel_rfl)) (ak F (a8 (vs:=[.int .u8 3,nS]) 4 cg F F F F ?_)))
  refine ae (aA (ap ?_))
  refine bL (i:=4) Tryz.results68 eG F cg F F F ?_
  exact⟨[],Sub.z,[],⟨3,⟨none,0,[]⟩⟩,F,F,(Cj ON (by rw[Rm]at hL;simpa using hL)).symm,.inl (.inr F)⟩
 have Hl: ¬(((a.r.e.take j1).map (dj 0)).length)+1>64:=by omega
 have hL:=Hl
 refine av (ai (ah F (ad (bG (cs:=[(.int .u8 0),(.slice z9 ((((a.r.e.take j1).map (dj 0)).length)+1) kF)]) ot cg (by kernel_rfl)) (ak F (a8 (vs:=[(.int .u8 0),(.slice z9 ((((a.r.e.take j1).map (dj 0)).length)+1) kF)]) 4 cg F F F F ?_)))))
 refine ae (aA (ap ?_))
 refine bL (i:=4) Tryz.results68 eG F cg F F F ?_
 have OP:=Fu (op:=op) ON (by rw[Rm]at hL;simpa using hL)
 exact⟨[am z9 kF 72 5 ((bg ((a.r.e.take j1).map (dj 0)))++[v8 op,(.int .u8 0),(.int .u8 0),(vN ((((a.r.e.take j1).map (dj 0)).length)-1)),(vI 0)])],(by exact Sub.d (.k .z)),[⟨z9,kF,(oo op a.pp).2⟩],⟨0,⟨z9,kF,(oo op a.pp).2⟩⟩,congrArg (fun n9=>Value.agg #[.int .u8 0,.slice z9 n9 kF]) (show(((a.r.e.take j1).map (dj 0)).length)+1=((oo op a.pp).2).length by rw[OP,Rm];first|(simp;done)|(simp;omega)),congrArg (fun z=>[am z9 kF 72 5 z]) (show(bg ((a.r.e.take j1).map (dj 0)))++[v8 op,(.int .u8 0),(.int .u8 0),(vN ((((a.r.e.take j1).map (dj 0)).length)-1)),(vI 0)]=bg ((oo op a.pp).2) by rw[OP,Rm,jR];first|(simp[bg,dF.cells];done)|(simp[bg,dF.cells];omega)),by rw[OP];rfl,.inl (.inl (List.mem_singleton.2 F))⟩
theorem Hm (w:World) [cG Tryz.prog w] (op:Nat) (tb:Option Addr) (tc:Nat) (a b:PR) (hT:Sl w tb (dp [a,b])) (ha:Sl w a.r.b (bg a.r.e)) (zh:ek a.pp) (hb:Sl w b.r.b (bg b.r.e)) (M2:ek b.pp):
  bI Tryz.prog 68 [v8 op,(.slice tb 2 tc)] w (Rl 72 [a,b] (mg op a.pp b.pp)):=by
 refine aw func68 F ntmps68 F ?_
 refine ai (ak F (aR cg F (fun z1=>?_)))
 refine ae (ai (aj F (ae (ai (ad (qW (cs:=[(vI 0),(vI 0)]) q5 aO sh (by kernel_rfl)) (ak F (aR sh F (fun z2=>?_))))))))
 refine ak F (a8 (vs:=[(vI 0),(vI 0)]) 0 sh F F F F ?_)
 refine ae (aB (ai (ah F (ad (a7 (bS j_ F) (v':=vI 2) F) (ah F (ae (aG ?_)))))))
 refine mZ 3 (T.round ?_)
 refine ai (ad (aq (bT F F) (b':=true) F) (ae (aB ?_)))
 refine bj F ?_
 refine av (aB (aG (ai (ah F (ad (cY (i:=0) j_ cg F F (ay hT) (by simp) (by rw[fI];simp)) (ad (dy (vs:=a.cells) eG F cg F F (Nat.succ_pos _) (ay hT) (lI (l:=[a,b]) (i:=0) (by simp))) (ak F (aR cg F (fun z3=>?_)))))))))
 refine aj F (ak F (a8 (vs:=a.cells) 0 cg F F F F ?_))
 refine ae (aB (ai (ad (aN eG F lJ F F) (ad (aQ 0 si F F F F) (ad (aZ F F) (ae (aC F (fun hc=>?_) (fun hc=>?_))))))))
 ·have q7:a.k=3:=by omega
  refine ai (ad (bG (cs:=[.int .u8 3,nS]) ot cg (by kernel_rfl)) (ak F (a8 (vs:=[.int .u8 3,nS]) 2 cg F F F F ?_)))
  refine ae (aA (ap ?_))
  refine bL (i:=2) Tryz.results68 eG F cg F F F ?_
  exact⟨[],Sub.z,[],⟨3,⟨none,0,[]⟩⟩,F,F,(if_pos (.inl q7)).symm,.inl (.inr F)⟩
 have xj: ¬a.k=3:=by omega
 have ON: ¬a.k=3:=xj
 refine av (ai (ah F (ad (bS cN F) (aj F (ae (aB (ai (ad (aN eG F fJ F F) (ad (aQ 0 cN F F F F) (ad (bS cN F) (ah F (ae (aG (T.dJ 72 5 ?_))))))))))))))
 refine cM (fun(j1:Nat) ρ O=> ∃(oa:Option Addr) (ka:Nat),O=[am oa ka 72 5 (bg ((a.r.e.take j1).map (dj 0))),oI z3 69 a.cells,oI z2 153 [(vI 0),(vI 0)],oI z1 69 [(.int .u8 0),nS]]∧j1≤a.r.e.length∧cw [(0,v8 op),(1,(.slice tb 2 tc)),(4,(.pointer (aD z1))),(5,(.slice oa (((a.r.e.take j1).map (dj 0)).length) ka)),(6,(.pointer (aD z2))),(7,vI 0),(8,(.pointer (aD z3))),(9,vI (0:Int)),(12,(.agg #[(vI 0),(vI 0)])),(13,(.slice tb 2 tc)),(14,vI 2),(15,vI 0),(27,(.slice a.r.b a.r.e.length a.r.c)),(28,vI (a.r.e.length:Int)),(29,vN j1)] ρ) (fun j1=>a.r.e.length-j1) 0 ?_ ?_
 ·exact⟨none,0,F,Nat.zero_le _,(.of F)⟩
 rintro j1 ρ O ⟨oa,ka,rfl,hj,hH⟩
 obtain⟨fE,rfl⟩:=hH.elim
 clear hH
 refine ai (ad (bT F F) (ae (aB (aC F (fun hc=>?_) (fun hc=>?_)))))
 ·have gm:j1<a.r.e.length:=by omega
  have BN:wu a.r.e.length a.r.e[j1]:=zh.pc _ (List.getElem_mem gm)
  have Ri:=BN.a0;have xe:=BN.a1;have BO:=BN.b0;have Vn:=BN.b1
  have Wj:a.r.e.length≤64:=zh.len
  refine av (aB (aG (ai ?_)))
  refine ad (cY (i:=j1) cN bN F F (ay ha) gm (by rw[bE];omega)) (ad (dy (vs:=a.r.e[j1].cl) bs F bN F F (Nat.succ_pos _) (ay ha) (ew (List.getElem?_eq_getElem gm))) ?_)
  refine ak F (aR bN F (fun z4=>?_))
  refine ak F (a8 (vs:=a.r.e[j1].cl) 0 bN F F F F ?_)
  refine ae ?_
  refine e7 (fun ρ O=>Sub [oI z4 72 (dj 0 a.r.e[j1]).cl,am oa ka 72 5 (bg ((a.r.e.take j1).map (dj 0))),oI z3 69 a.cells,oI z2 153 [(vI 0),(vI 0)],oI z1 69 [(.int .u8 0),nS]] O∧cw [(0,v8 op),(1,(.slice tb 2 tc)),(4,(.pointer (aD z1))),(5,(.slice oa (((a.r.e.take j1).map (dj 0)).length) ka)),(6,(.pointer (aD z2))),(7,vI 0),(8,(.pointer (aD z3))),(9,vI (0:Int)),(11,(.pointer (aD z4))),(12,(.agg #[(vI 0),(vI 0)])),(13,(.slice tb 2 tc)),(14,vI 2),(15,vI 0),(27,(.slice a.r.b a.r.e.length a.r.c)),(28,vI (a.r.e.length:Int)),(29,vN j1)] ρ) ?_ ?_
  ·refine aB ?_
   refine aJ (ad (aN bs F cI F F) (ad (aQ 0 eu F F F F) (ae (aG (aB (ai (ad (aZ F F) (aj F (ae (aC F (fun hc=>?_) (fun hc=>?_)))))))))))
   ·have nA:a.r.e[j1].op=7:=by omega
    refine av (aC F (fun hc=>?_) (fun hc=>?_))
    ·have nA:a.r.e[j1].op=7:=by omega
     refine aJ (ad (aN bs F aO F F) (ad (aQ 0 cS F F F F) (ah F (ad (cL F F (by omega)) (ad (aN bs F aO F F) (ak F (a8 (vs:=[(vI (a.r.e[j1].a+(0:Int)))]) 0 aO F F F F ?_)))))))
     refine ae ?_
     exact⟨(by first|(rw[c8 (by omega)];exact Sub.rf)|(rw[c_ (by omega)];exact Sub.rf)|(rw[dD (by omega) (by omega)];exact Sub.rf)),(.of F)⟩
    have nB: ¬a.r.e[j1].op=7:=by omega
    refine aB (ai (ad (aZ F F) (aj F (ae (aC F (fun hc=>?_) (fun hc=>?_))))))
    ·have fK:a.r.e[j1].op=4:=by omega
     refine av (aC F (fun hc=>?_) (fun hc=>?_))
     ·have fK:a.r.e[j1].op=4:=by omega
      refine aJ (ad (aN bs F aO F F) (ad (aQ 0 cS F F F F) (ah F (ad (cL F F (by omega)) (ad (aN bs F aO F F) (ad (aQ 0 cS F F F F) (ah F (ad (cL F F (by omega)) (ad (aN bs F aO F F) (ak F (a8 (vs:=[(vI (a.r.e[j1].a+(0:Int)))]) 0 aO F F F F ?_)))))))))))
      refine ad (aN bs F aO F F) (ak F (a8 (vs:=[(vI (a.r.e[j1].b+(0:Int)))]) 0 aO F F F F ?_))
      refine ae ?_
      exact⟨(by first|(rw[c8 (by omega)];exact Sub.rf)|(rw[c_ (by omega)];exact Sub.rf)|(rw[dD (by omega) (by omega)];exact Sub.rf)),(.of F)⟩
     have fQ: ¬a.r.e[j1].op=4:=by omega
     refine av ?_
     exact⟨(by first|(rw[c8 (by omega)];exact Sub.rf)|(rw[c_ (by omega)];exact Sub.rf)|(rw[dD (by omega) (by omega)];exact Sub.rf)),(.of F)⟩
    have fQ: ¬a.r.e[j1].op=4:=by omega
    refine ai (ad (aZ F F) (aj F (ae (aC F (fun hc=>?_) (fun hc=>?_)))))
    ·have fK:a.r.e[j1].op=5:=by omega
     refine av (aC F (fun hc=>?_) (fun hc=>?_))
     ·have fK:a.r.e[j1].op=5:=by omega
      refine aJ (ad (aN bs F aO F F) (ad (aQ 0 cS F F F F) (ah F (ad (cL F F (by omega)) (ad (aN bs F aO F F) (ad (aQ 0 cS F F F F) (ah F (ad (cL F F (by omega)) (ad (aN bs F aO F F) (ak F (a8 (vs:=[(vI (a.r.e[j1].a+(0:Int)))]) 0 aO F F F F ?_)))))))))))
      refine ad (aN bs F aO F F) (ak F (a8 (vs:=[(vI (a.r.e[j1].b+(0:Int)))]) 0 aO F F F F ?_))
      refine ae ?_
      exact⟨(by first|(rw[c8 (by omega)];exact Sub.rf)|(rw[c_ (by omega)];exact Sub.rf)|(rw[dD (by omega) (by omega)];exact Sub.rf)),(.of F)⟩
     have fQ: ¬a.r.e[j1].op=5:=by omega
     refine av ?_
     exact⟨(by first|(rw[c8 (by omega)];exact Sub.rf)|(rw[c_ (by omega)];exact Sub.rf)|(rw[dD (by omega) (by omega)];exact Sub.rf)),(.of F)⟩
    have fQ: ¬a.r.e[j1].op=5:=by omega
    refine aJ (ad (aZ F F) (aj F (ae (aC F (fun hc=>?_) (fun hc=>?_)))))
    ·have fK:a.r.e[j1].op=6:=by omega
     refine aJ (ad (aN bs F aO F F) (ad (aQ 0 cS F F F F) (ah F (ad (cL F F (by omega)) (ad (aN bs F aO F F) (ad (aQ 0 cS F F F F) (ah F (ad (cL F F (by omega)) (ad (aN bs F aO F F) (ak F (a8 (vs:=[(vI (a.r.e[j1].a+(0:Int)))]) 0 aO F F F F ?_)))))))))))
     refine ad (aN bs F aO F F) (ak F (a8 (vs:=[(vI (a.r.e[j1].b+(0:Int)))]) 0 aO F F F F ?_))
     refine ae ?_
     exact⟨(by first|(rw[c8 (by omega)];exact Sub.rf)|(rw[c_ (by omega)];exact Sub.rf)|(rw[dD (by omega) (by omega)];exact Sub.rf)),(.of F)⟩
    have fQ: ¬a.r.e[j1].op=6:=by omega
    refine av ?_
    exact⟨(by first|(rw[c8 (by omega)];exact Sub.rf)|(rw[c_ (by omega)];exact Sub.rf)|(rw[dD (by omega) (by omega)];exact Sub.rf)),(.of F)⟩
   have nB: ¬a.r.e[j1].op=7:=by omega
   refine aJ (ad (aZ F F) (aj F (ae (aC F (fun hc=>?_) (fun hc=>?_)))))
   ·have nA:a.r.e[j1].op=8:=by omega
    refine aJ (ad (aN bs F aO F F) (ad (aQ 0 cS F F F F) (ah F (ad (cL F F (by omega)) (ad (aN bs F aO F F) (ak F (a8 (vs:=[(vI (a.r.e[j1].a+(0:Int)))]) 0 aO F F F F ?_)))))))
    refine ae ?_
    exact⟨(by first|(rw[c8 (by omega)];exact Sub.rf)|(rw[c_ (by omega)];exact Sub.rf)|(rw[dD (by omega) (by omega)];exact Sub.rf)),(.of F)⟩
   have nB: ¬a.r.e[j1].op=8:=by omega
   refine aB (ai (ad (aZ F F) (aj F (ae (aC F (fun hc=>?_) (fun hc=>?_))))))
   ·have fK:a.r.e[j1].op=4:=by omega
    refine av (aC F (fun hc=>?_) (fun hc=>?_))
    ·have fK:a.r.e[j1].op=4:=by omega
     refine aJ (ad (aN bs F aO F F) (ad (aQ 0 cS F F F F) (ah F (ad (cL F F (by omega)) (ad (aN bs F aO F F) (ad (aQ 0 cS F F F F) (ah F (ad (cL F F (by omega)) (ad (aN bs F aO F F) (ak F (a8 (vs:=[(vI (a.r.e[j1].a+(0:Int)))]) 0 aO F F F F ?_)))))))))))
     refine ad (aN bs F aO F F) (ak F (a8 (vs:=[(vI (a.r.e[j1].b+(0:Int)))]) 0 aO F F F F ?_))
     refine ae ?_
     exact⟨(by first|(rw[c8 (by omega)];exact Sub.rf)|(rw[c_ (by omega)];exact Sub.rf)|(rw[dD (by omega) (by omega)];exact Sub.rf)),(.of F)⟩
    have fQ: ¬a.r.e[j1].op=4:=by omega
    refine av ?_
    exact⟨(by first|(rw[c8 (by omega)];exact Sub.rf)|(rw[c_ (by omega)];exact Sub.rf)|(rw[dD (by omega) (by omega)];exact Sub.rf)),(.of F)⟩
   have fQ: ¬a.r.e[j1].op=4:=by omega
   refine ai (ad (aZ F F) (aj F (ae (aC F (fun hc=>?_) (fun hc=>?_)))))
   ·have fK:a.r.e[j1].op=5:=by omega
    refine av (aC F (fun hc=>?_) (fun hc=>?_))
    ·have fK:a.r.e[j1].op=5:=by omega
     refine aJ (ad (aN bs F aO F F) (ad (aQ 0 cS F F F F) (ah F (ad (cL F F (by omega)) (ad (aN bs F aO F F) (ad (aQ 0 cS F F F F) (ah F (ad (cL F F (by omega)) (ad (aN bs F aO F F) (ak F (a8 (vs:=[(vI (a.r.e[j1].a+(0:Int)))]) 0 aO F F F F ?_)))))))))))
     refine ad (aN bs F aO F F) (ak F (a8 (vs:=[(vI (a.r.e[j1].b+(0:Int)))]) 0 aO F F F F ?_))
     refine ae ?_
     exact⟨(by first|(rw[c8 (by omega)];exact Sub.rf)|(rw[c_ (by omega)];exact Sub.rf)|(rw[dD (by omega) (by omega)];exact Sub.rf)),(.of F)⟩
    have fQ: ¬a.r.e[j1].op=5:=by omega
    refine av ?_
    exact⟨(by first|(rw[c8 (by omega)];exact Sub.rf)|(rw[c_ (by omega)];exact Sub.rf)|(rw[dD (by omega) (by omega)];exact Sub.rf)),(.of F)⟩
   have fQ: ¬a.r.e[j1].op=5:=by omega
   refine aJ (ad (aZ F F) (aj F (ae (aC F (fun hc=>?_) (fun hc=>?_)))))
   ·have fK:a.r.e[j1].op=6:=by omega
    refine aJ (ad (aN bs F aO F F) (ad (aQ 0 cS F F F F) (ah F (ad (cL F F (by omega)) (ad (aN bs F aO F F) (ad (aQ 0 cS F F F F) (ah F (ad (cL F F (by omega)) (ad (aN bs F aO F F) (ak F (a8 (vs:=[(vI (a.r.e[j1].a+(0:Int)))]) 0 aO F F F F ?_)))))))))))
    refine ad (aN bs F aO F F) (ak F (a8 (vs:=[(vI (a.r.e[j1].b+(0:Int)))]) 0 aO F F F F ?_))
    refine ae ?_
    exact⟨(by first|(rw[c8 (by omega)];exact Sub.rf)|(rw[c_ (by omega)];exact Sub.rf)|(rw[dD (by omega) (by omega)];exact Sub.rf)),(.of F)⟩
   have fQ: ¬a.r.e[j1].op=6:=by omega
   refine av ?_
   exact⟨(by first|(rw[c8 (by omega)];exact Sub.rf)|(rw[c_ (by omega)];exact Sub.rf)|(rw[dD (by omega) (by omega)];exact Sub.rf)),(.of F)⟩
  rintro ρ O ⟨hS,hH⟩
  obtain⟨fE,rfl⟩:=hH.elim
  clear hH
  refine ck hS ?_
  refine aJ (ah F (ad (dh 0 bs F bN F F F) (ak F (bH (m:=1) (parts:=[(0,_)]) (cs:=(dj 0 a.r.e[j1]).cl) cN bN (by decide) (by kernel_rfl) F (fun z5=>?_)))))
  refine ak F (bY 2 cN cN bN F F F F (by rw[bE]) (by decide) (Src.row (j:=0) F (by simp)) (by simp[dS]) (by simp only[List.nil_append,List.length_append,List.length_map,List.length_take];omega) (by decide) (by decide) (fun z6 DE=>?_))
  refine aj F (ae (aJ (ad (cx (a:=j1) (b:=1) F F (by omega)) (ah F (ae ?_)))))
  exact⟨j1+1,by omega,[am z6 DE 72 5 ((bg ((a.r.e.take j1).map (dj 0)))++(dj 0 a.r.e[j1]).cl),oI z3 69 a.cells,oI z2 153 [(vI 0),(vI 0)],oI z1 69 [(.int .u8 0),nS]],(by exact Sub.d (.d (.k (.k (.k (.k .z)))))),z6,DE,by rw[gQ gm,jR (((a.r.e.take j1).map (dj 0)))];rfl,by omega,⟨F,F,F,(congrArg (fun n9=>Value.slice z6 n9 DE) (show(((a.r.e.take j1).map (dj 0)).length)+1=(((a.r.e.take (j1+1)).map (dj 0))).length by rw[gQ gm];simp only[List.length_append,List.length_cons,List.length_nil]<;>omega)),F,F,F,F,F,F,F,F,F,F,F,trivial⟩⟩
 have DF: ¬j1<a.r.e.length:=by omega
 have Kc:j1=a.r.e.length:=by omega
 have G8:0<a.r.e.length:=zh.pos ON
 have YJ:a.r.e.length≤64:=zh.len
 have Rm:((a.r.e.take j1).map (dj 0))=a.r.e:=by rw[Kc,List.take_length,show dj 0=id from funext zZ,List.map_id]
 have Hj:((a.r.e.take j1).map (dj 0)).length=a.r.e.length:=by rw[Kc];simp
 refine bJ ?_
 refine aJ (ah F (ah F (ad (bS cN F) (ad (qh (a:=(((a.r.e.take j1).map (dj 0)).length)) (b:=1) F F (by omega) (by omega)) (ad (gT (i:=0) q5 aO F F (by decide)) (ak F (a8 (vs:=[(vN ((((a.r.e.take j1).map (dj 0)).length)-1))]) 2 aO F F F F ?_)))))))
 refine ae (aJ (ad (a7 (cL F F (by omega)) (v':=vI 1) F) (ah F (ae ?_))))
 refine lG [am oa ka 72 5 (bg ((a.r.e.take j1).map (dj 0))),oI z3 69 a.cells,oI z2 153 [(vN ((((a.r.e.take j1).map (dj 0)).length)-1)),(vI 0)],oI z1 69 [(.int .u8 0),nS]] [(0,v8 op),(1,(.slice tb 2 tc)),(4,(.pointer (aD z1))),(5,(.slice oa (((a.r.e.take j1).map (dj 0)).length) ka)),(6,(.pointer (aD z2))),(7,vI 0),(8,(.pointer (aD z3))),(9,vI (0:Int)),(12,(.agg #[(vI 0),(vI 0)])),(13,(.slice tb 2 tc)),(14,vI 2),(15,vI 1)] F (.of F) (fun fE=>?_)
 refine T.round ?_
 refine ai (ad (aq (bT F F) (b':=true) F) (ae (aB ?_)))
 refine bj F ?_
 refine av (aB (aG (ai (ah F (ad (cY (i:=1) j_ cg F F (ay hT) (by simp) (by rw[fI];simp)) (ad (dy (vs:=b.cells) eG F cg F F (Nat.succ_pos _) (ay hT) (lI (l:=[a,b]) (i:=1) (by simp))) (ak F (aR cg F (fun z8=>?_)))))))))
 refine aj F (ak F (a8 (vs:=b.cells) 0 cg F F F F ?_))
 refine ae (aB (ai (ad (aN eG F lJ F F) (ad (aQ 0 si F F F F) (ad (aZ F F) (ae (aC F (fun hc=>?_) (fun hc=>?_))))))))
 ·have q7:b.k=3:=by omega
  refine ai (ad (bG (cs:=[.int .u8 3,nS]) ot cg (by kernel_rfl)) (ak F (a8 (vs:=[.int .u8 3,nS]) 4 cg F F F F ?_)))
  refine ae (aA (ap ?_))
  refine bL (i:=4) Tryz.results68 eG F cg F F F ?_
  exact⟨[],Sub.z,[],⟨3,⟨none,0,[]⟩⟩,F,F,(if_pos (.inr q7)).symm,.inl (.inr F)⟩
 have xj: ¬b.k=3:=by omega
 have Ab: ¬b.k=3:=xj
 refine av (ai (ah F (ad (bS cN F) (aj F (ae (aB (ai (ad (aN eG F fJ F F) (ad (aQ 0 cN F F F F) (ad (bS cN F) (ah F (ae (aG ?_)))))))))))))
 refine cM (fun(j2:Nat) ρ O=> ∃(ob:Option Addr) (kb:Nat),O=[oI z8 69 b.cells,am ob kb 72 5 (bg (((a.r.e.take j1).map (dj 0))++(b.r.e.take j2).map (dj (((a.r.e.take j1).map (dj 0)).length)))),oI z3 69 a.cells,oI z2 153 [(vN ((((a.r.e.take j1).map (dj 0)).length)-1)),(vI 0)],oI z1 69 [(.int .u8 0),nS]]∧j2≤b.r.e.length∧cw [(0,v8 op),(1,(.slice tb 2 tc)),(4,(.pointer (aD z1))),(5,(.slice ob ((((a.r.e.take j1).map (dj 0))++(b.r.e.take j2).map (dj (((a.r.e.take j1).map (dj 0)).length))).length) kb)),(6,(.pointer (aD z2))),(7,vI 1),(8,(.pointer (aD z8))),(9,vI (((a.r.e.take j1).map (dj 0)).length:Int)),(12,(.agg #[(vI 0),(vI 0)])),(13,(.slice tb 2 tc)),(14,vI 2),(15,vI 1),(27,(.slice b.r.b b.r.e.length b.r.c)),(28,vI (b.r.e.length:Int)),(29,vN j2)] ρ) (fun j2=>b.r.e.length-j2) 0 ?_ ?_
 ·exact⟨oa,ka,by rw[List.take_zero,List.map_nil,List.append_nil];rfl,Nat.zero_le _,⟨F,F,F,(congrArg (fun n9=>Value.slice oa n9 ka) (show((a.r.e.take j1).map (dj 0)).length=((((a.r.e.take j1).map (dj 0))++(b.r.e.take 0).map (dj (((a.r.e.take j1).map (dj 0)).length)))).length by rw[List.take_zero,List.map_nil,List.append_nil])),F,F,F,F,F,F,F,F,F,F,F,trivial⟩⟩
 rintro j2 ρ O ⟨ob,kb,rfl,hj,hH⟩
 obtain⟨fE,rfl⟩:=hH.elim
 clear hH
 refine ai (ad (bT F F) (ae (aB (aC F (fun hc=>?_) (fun hc=>?_)))))
 ·have gm:j2<b.r.e.length:=by omega
  have BN:wu b.r.e.length b.r.e[j2]:=M2.pc _ (List.getElem_mem gm)
  have Ri:=BN.a0;have xe:=BN.a1;have BO:=BN.b0;have Vn:=BN.b1
  have Wj:a.r.e.length≤64:=zh.len
  have hp6:b.r.e.length≤64:=M2.len
  have hp7:(((a.r.e.take j1).map (dj 0))).length≤64:=by simp;omega
  refine av (aB (aG (ai ?_)))
  refine ad (cY (i:=j2) cN bN F F (ay hb) gm (by rw[bE];omega)) (ad (dy (vs:=b.r.e[j2].cl) bs F bN F F (Nat.succ_pos _) (ay hb) (ew (List.getElem?_eq_getElem gm))) ?_)
  refine ak F (aR bN F (fun z9=>?_))
  refine ak F (a8 (vs:=b.r.e[j2].cl) 0 bN F F F F ?_)
  refine ae ?_
  refine e7 (fun ρ O=>Sub [oI z9 72 [.int .u8 (((dj (((a.r.e.take j1).map (dj 0)).length) b.r.e[j2]).op:Nat):Int),.int .u8 (((dj (((a.r.e.take j1).map (dj 0)).length) b.r.e[j2]).p:Nat):Int),.int .u8 (((dj (((a.r.e.take j1).map (dj 0)).length) b.r.e[j2]).n:Nat):Int),vI (dj (((a.r.e.take j1).map (dj 0)).length) b.r.e[j2]).a,vI (dj (((a.r.e.take j1).map (dj 0)).length) b.r.e[j2]).b],oI z8 69 b.cells,am ob kb 72 5 (bg (((a.r.e.take j1).map (dj 0))++(b.r.e.take j2).map (dj (((a.r.e.take j1).map (dj 0)).length)))),oI z3 69 a.cells,oI z2 153 [(vN ((((a.r.e.take j1).map (dj 0)).length)-1)),(vI 0)],oI z1 69 [(.int .u8 0),nS]] O∧cw [(0,v8 op),(1,(.slice tb 2 tc)),(4,(.pointer (aD z1))),(5,(.slice ob ((((a.r.e.take j1).map (dj 0))++(b.r.e.take j2).map (dj (((a.r.e.take j1).map (dj 0)).length))).length) kb)),(6,(.pointer (aD z2))),(7,vI 1),(8,(.pointer (aD z8))),(9,vI (((a.r.e.take j1).map (dj 0)).length:Int)),(11,(.pointer (aD z9))),(12,(.agg #[(vI 0),(vI 0)])),(13,(.slice tb 2 tc)),(14,vI 2),(15,vI 1),(27,(.slice b.r.b b.r.e.length b.r.c)),(28,vI (b.r.e.length:Int)),(29,vN j2)] ρ) ?_ ?_
  ·refine aB ?_
   refine aJ (ad (aN bs F cI F F) (ad (aQ 0 eu F F F F) (ae (aG (aB (ai (ad (aZ F F) (aj F (ae (aC F (fun hc=>?_) (fun hc=>?_)))))))))))
   ·have nA:b.r.e[j2].op=7:=by omega
    refine av (aC F (fun hc=>?_) (fun hc=>?_))
    ·have nA:b.r.e[j2].op=7:=by omega
     refine aJ (ad (aN bs F aO F F) (ad (aQ 0 cS F F F F) (ah F (ad (cL F F (by omega)) (ad (aN bs F aO F F) (ak F (a8 (vs:=[(vI (b.r.e[j2].a+(((a.r.e.take j1).map (dj 0)).length:Int)))]) 0 aO F F F F ?_)))))))
     refine ae ?_
     exact⟨(by first|(rw[c8 (by omega)];exact Sub.rf)|(rw[c_ (by omega)];exact Sub.rf)|(rw[dD (by omega) (by omega)];exact Sub.rf)),(.of F)⟩
    have nB: ¬b.r.e[j2].op=7:=by omega
    refine aB (ai (ad (aZ F F) (aj F (ae (aC F (fun hc=>?_) (fun hc=>?_))))))
    ·have fK:b.r.e[j2].op=4:=by omega
     refine av (aC F (fun hc=>?_) (fun hc=>?_))
     ·have fK:b.r.e[j2].op=4:=by omega
      refine aJ (ad (aN bs F aO F F) (ad (aQ 0 cS F F F F) (ah F (ad (cL F F (by omega)) (ad (aN bs F aO F F) (ad (aQ 0 cS F F F F) (ah F (ad (cL F F (by omega)) (ad (aN bs F aO F F) (ak F (a8 (vs:=[(vI (b.r.e[j2].a+(((a.r.e.take j1).map (dj 0)).length:Int)))]) 0 aO F F F F ?_)))))))))))
      refine ad (aN bs F aO F F) (ak F (a8 (vs:=[(vI (b.r.e[j2].b+(((a.r.e.take j1).map (dj 0)).length:Int)))]) 0 aO F F F F ?_))
      refine ae ?_
      exact⟨(by first|(rw[c8 (by omega)];exact Sub.rf)|(rw[c_ (by omega)];exact Sub.rf)|(rw[dD (by omega) (by omega)];exact Sub.rf)),(.of F)⟩
     have fQ: ¬b.r.e[j2].op=4:=by omega
     refine av ?_
     exact⟨(by first|(rw[c8 (by omega)];exact Sub.rf)|(rw[c_ (by omega)];exact Sub.rf)|(rw[dD (by omega) (by omega)];exact Sub.rf)),(.of F)⟩
    have fQ: ¬b.r.e[j2].op=4:=by omega
    refine ai (ad (aZ F F) (aj F (ae (aC F (fun hc=>?_) (fun hc=>?_)))))
    ·have fK:b.r.e[j2].op=5:=by omega
     refine av (aC F (fun hc=>?_) (fun hc=>?_))
     ·have fK:b.r.e[j2].op=5:=by omega
      refine aJ (ad (aN bs F aO F F) (ad (aQ 0 cS F F F F) (ah F (ad (cL F F (by omega)) (ad (aN bs F aO F F) (ad (aQ 0 cS F F F F) (ah F (ad (cL F F (by omega)) (ad (aN bs F aO F F) (ak F (a8 (vs:=[(vI (b.r.e[j2].a+(((a.r.e.take j1).map (dj 0)).length:Int)))]) 0 aO F F F F ?_)))))))))))
      refine ad (aN bs F aO F F) (ak F (a8 (vs:=[(vI (b.r.e[j2].b+(((a.r.e.take j1).map (dj 0)).length:Int)))]) 0 aO F F F F ?_))
      refine ae ?_
      exact⟨(by first|(rw[c8 (by omega)];exact Sub.rf)|(rw[c_ (by omega)];exact Sub.rf)|(rw[dD (by omega) (by omega)];exact Sub.rf)),(.of F)⟩
     have fQ: ¬b.r.e[j2].op=5:=by omega
     refine av ?_
     exact⟨(by first|(rw[c8 (by omega)];exact Sub.rf)|(rw[c_ (by omega)];exact Sub.rf)|(rw[dD (by omega) (by omega)];exact Sub.rf)),(.of F)⟩
    have fQ: ¬b.r.e[j2].op=5:=by omega
    refine aJ (ad (aZ F F) (aj F (ae (aC F (fun hc=>?_) (fun hc=>?_)))))
    ·have fK:b.r.e[j2].op=6:=by omega
     refine aJ (ad (aN bs F aO F F) (ad (aQ 0 cS F F F F) (ah F (ad (cL F F (by omega)) (ad (aN bs F aO F F) (ad (aQ 0 cS F F F F) (ah F (ad (cL F F (by omega)) (ad (aN bs F aO F F) (ak F (a8 (vs:=[(vI (b.r.e[j2].a+(((a.r.e.take j1).map (dj 0)).length:Int)))]) 0 aO F F F F ?_)))))))))))
     refine ad (aN bs F aO F F) (ak F (a8 (vs:=[(vI (b.r.e[j2].b+(((a.r.e.take j1).map (dj 0)).length:Int)))]) 0 aO F F F F ?_))
     refine ae ?_
     exact⟨(by first|(rw[c8 (by omega)];exact Sub.rf)|(rw[c_ (by omega)];exact Sub.rf)|(rw[dD (by omega) (by omega)];exact Sub.rf)),(.of F)⟩
    have fQ: ¬b.r.e[j2].op=6:=by omega
    refine av ?_
    exact⟨(by first|(rw[c8 (by omega)];exact Sub.rf)|(rw[c_ (by omega)];exact Sub.rf)|(rw[dD (by omega) (by omega)];exact Sub.rf)),(.of F)⟩
   have nB: ¬b.r.e[j2].op=7:=by omega
   refine aJ (ad (aZ F F) (aj F (ae (aC F (fun hc=>?_) (fun hc=>?_)))))
   ·have nA:b.r.e[j2].op=8:=by omega
    refine aJ (ad (aN bs F aO F F) (ad (aQ 0 cS F F F F) (ah F (ad (cL F F (by omega)) (ad (aN bs F aO F F) (ak F (a8 (vs:=[(vI (b.r.e[j2].a+(((a.r.e.take j1).map (dj 0)).length:Int)))]) 0 aO F F F F ?_)))))))
    refine ae ?_
    exact⟨(by first|(rw[c8 (by omega)];exact Sub.rf)|(rw[c_ (by omega)];exact Sub.rf)|(rw[dD (by omega) (by omega)];exact Sub.rf)),(.of F)⟩
   have nB: ¬b.r.e[j2].op=8:=by omega
   refine aB (ai (ad (aZ F F) (aj F (ae (aC F (fun hc=>?_) (fun hc=>?_))))))
   ·have fK:b.r.e[j2].op=4:=by omega
    refine av (aC F (fun hc=>?_) (fun hc=>?_))
    ·have fK:b.r.e[j2].op=4:=by omega
     refine aJ (ad (aN bs F aO F F) (ad (aQ 0 cS F F F F) (ah F (ad (cL F F (by omega)) (ad (aN bs F aO F F) (ad (aQ 0 cS F F F F) (ah F (ad (cL F F (by omega)) (ad (aN bs F aO F F) (ak F (a8 (vs:=[(vI (b.r.e[j2].a+(((a.r.e.take j1).map (dj 0)).length:Int)))]) 0 aO F F F F ?_)))))))))))
     refine ad (aN bs F aO F F) (ak F (a8 (vs:=[(vI (b.r.e[j2].b+(((a.r.e.take j1).map (dj 0)).length:Int)))]) 0 aO F F F F ?_))
     refine ae ?_
     exact⟨(by first|(rw[c8 (by omega)];exact Sub.rf)|(rw[c_ (by omega)];exact Sub.rf)|(rw[dD (by omega) (by omega)];exact Sub.rf)),(.of F)⟩
    have fQ: ¬b.r.e[j2].op=4:=by omega
    refine av ?_
    exact⟨(by first|(rw[c8 (by omega)];exact Sub.rf)|(rw[c_ (by omega)];exact Sub.rf)|(rw[dD (by omega) (by omega)];exact Sub.rf)),(.of F)⟩
   have fQ: ¬b.r.e[j2].op=4:=by omega
   refine ai (ad (aZ F F) (aj F (ae (aC F (fun hc=>?_) (fun hc=>?_)))))
   ·have fK:b.r.e[j2].op=5:=by omega
    refine av (aC F (fun hc=>?_) (fun hc=>?_))
    ·have fK:b.r.e[j2].op=5:=by omega
     refine aJ (ad (aN bs F aO F F) (ad (aQ 0 cS F F F F) (ah F (ad (cL F F (by omega)) (ad (aN bs F aO F F) (ad (aQ 0 cS F F F F) (ah F (ad (cL F F (by omega)) (ad (aN bs F aO F F) (ak F (a8 (vs:=[(vI (b.r.e[j2].a+(((a.r.e.take j1).map (dj 0)).length:Int)))]) 0 aO F F F F ?_)))))))))))
     refine ad (aN bs F aO F F) (ak F (a8 (vs:=[(vI (b.r.e[j2].b+(((a.r.e.take j1).map (dj 0)).length:Int)))]) 0 aO F F F F ?_))
     refine ae ?_
     exact⟨(by first|(rw[c8 (by omega)];exact Sub.rf)|(rw[c_ (by omega)];exact Sub.rf)|(rw[dD (by omega) (by omega)];exact Sub.rf)),(.of F)⟩
    have fQ: ¬b.r.e[j2].op=5:=by omega
    refine av ?_
    exact⟨(by first|(rw[c8 (by omega)];exact Sub.rf)|(rw[c_ (by omega)];exact Sub.rf)|(rw[dD (by omega) (by omega)];exact Sub.rf)),(.of F)⟩
   have fQ: ¬b.r.e[j2].op=5:=by omega
   refine aJ (ad (aZ F F) (aj F (ae (aC F (fun hc=>?_) (fun hc=>?_)))))
   ·have fK:b.r.e[j2].op=6:=by omega
    refine aJ (ad (aN bs F aO F F) (ad (aQ 0 cS F F F F) (ah F (ad (cL F F (by omega)) (ad (aN bs F aO F F) (ad (aQ 0 cS F F F F) (ah F (ad (cL F F (by omega)) (ad (aN bs F aO F F) (ak F (a8 (vs:=[(vI (b.r.e[j2].a+(((a.r.e.take j1).map (dj 0)).length:Int)))]) 0 aO F F F F ?_)))))))))))
    refine ad (aN bs F aO F F) (ak F (a8 (vs:=[(vI (b.r.e[j2].b+(((a.r.e.take j1).map (dj 0)).length:Int)))]) 0 aO F F F F ?_))
    refine ae ?_
    exact⟨(by first|(rw[c8 (by omega)];exact Sub.rf)|(rw[c_ (by omega)];exact Sub.rf)|(rw[dD (by omega) (by omega)];exact Sub.rf)),(.of F)⟩
   have fQ: ¬b.r.e[j2].op=6:=by omega
   refine av ?_
   exact⟨(by first|(rw[c8 (by omega)];exact Sub.rf)|(rw[c_ (by omega)];exact Sub.rf)|(rw[dD (by omega) (by omega)];exact Sub.rf)),(.of F)⟩
  rintro ρ O ⟨hS,hH⟩
  obtain⟨fE,rfl⟩:=hH.elim
  clear hH
  refine ck hS ?_
  refine aJ (ah F (ad (dh 0 bs F bN F F F) (ak F (bH (m:=1) (parts:=[(0,_)]) (cs:=[.int .u8 (((dj (((a.r.e.take j1).map (dj 0)).length) b.r.e[j2]).op:Nat):Int),.int .u8 (((dj (((a.r.e.take j1).map (dj 0)).length) b.r.e[j2]).p:Nat):Int),.int .u8 (((dj (((a.r.e.take j1).map (dj 0)).length) b.r.e[j2]).n:Nat):Int),vI (dj (((a.r.e.take j1).map (dj 0)).length) b.r.e[j2]).a,vI (dj (((a.r.e.take j1).map (dj 0)).length) b.r.e[j2]).b]) cN bN (by decide) (by kernel_rfl) F (fun nC=>?_)))))
  refine ak F (bY 3 cN cN bN F F F F (by rw[bE]) (by decide) (Src.row (j:=0) F (by simp)) (by simp[dS]) (by simp only[List.nil_append,List.length_append,List.length_map,List.length_take];omega) (by decide) (by decide) (fun tR ou=>?_))
  refine aj F (ae (aJ (ad (cx (a:=j2) (b:=1) F F (by omega)) (ah F (ae ?_)))))
  exact⟨j2+1,by omega,[oI z8 69 b.cells,am tR ou 72 5 ((bg (((a.r.e.take j1).map (dj 0))++(b.r.e.take j2).map (dj (((a.r.e.take j1).map (dj 0)).length))))++[.int .u8 (((dj (((a.r.e.take j1).map (dj 0)).length) b.r.e[j2]).op:Nat):Int),.int .u8 (((dj (((a.r.e.take j1).map (dj 0)).length) b.r.e[j2]).p:Nat):Int),.int .u8 (((dj (((a.r.e.take j1).map (dj 0)).length) b.r.e[j2]).n:Nat):Int),vI (dj (((a.r.e.take j1).map (dj 0)).length) b.r.e[j2]).a,vI (dj (((a.r.e.take j1).map (dj 0)).length) b.r.e[j2]).b]),oI z3 69 a.cells,oI z2 153 [(vN ((((a.r.e.take j1).map (dj 0)).length)-1)),(vI 0)],oI z1 69 [(.int .u8 0),nS]],(by exact Sub.d (.d (.k (.k (.k (.k (.k .z))))))),tR,ou,by rw[gQ gm,←List.append_assoc,jR ((((a.r.e.take j1).map (dj 0))++(b.r.e.take j2).map (dj (((a.r.e.take j1).map (dj 0)).length))))];rfl,by omega,⟨F,F,F,(congrArg (fun n9=>Value.slice tR n9 ou) (show((((a.r.e.take j1).map (dj 0))++(b.r.e.take j2).map (dj (((a.r.e.take j1).map (dj 0)).length))).length)+1=((((a.r.e.take j1).map (dj 0))++(b.r.e.take (j2+1)).map (dj (((a.r.e.take j1).map (dj 0)).length)))).length by rw[gQ gm,←List.append_assoc];simp only[List.length_append,List.length_cons,List.length_nil]<;>omega)),F,F,F,F,F,F,F,F,F,F,F,trivial⟩⟩
 have DF: ¬j2<b.r.e.length:=by omega
 have Kc:j2=b.r.e.length:=by omega
 have G8:0<b.r.e.length:=M2.pos Ab
 have YJ:a.r.e.length≤64:=zh.len
 have Vo:(((a.r.e.take j1).map (dj 0))++(b.r.e.take j2).map (dj ((a.r.e.take j1).map (dj 0)).length))=a.r.e++b.r.e.map (dj a.r.e.length):=by rw[Rm,Kc,List.take_length]
 have hqb:b.r.e.length≤64:=M2.len
 have Vp:(((a.r.e.take j1).map (dj 0))++(b.r.e.take j2).map (dj ((a.r.e.take j1).map (dj 0)).length)).length=a.r.e.length+b.r.e.length:=by rw[List.length_append,Hj,Kc];simp
 refine bJ ?_
 refine aJ (ah F (ah F (ad (bS cN F) (ad (qh (a:=((((a.r.e.take j1).map (dj 0))++(b.r.e.take j2).map (dj (((a.r.e.take j1).map (dj 0)).length))).length)) (b:=1) F F (by omega) (by omega)) (ad (gT (i:=1) q5 aO F F (by decide)) (ak F (a8 (vs:=[(vI ((((((a.r.e.take j1).map (dj 0))++(b.r.e.take j2).map (dj (((a.r.e.take j1).map (dj 0)).length))).length)-1:Nat):Int))]) 3 aO F F F F ?_)))))))
 refine ae (aJ (ad (a7 (cL F F (by omega)) (v':=vI 2) F) (ah F (ae ?_))))
 refine lG [oI z8 69 b.cells,am ob kb 72 5 (bg (((a.r.e.take j1).map (dj 0))++(b.r.e.take j2).map (dj (((a.r.e.take j1).map (dj 0)).length)))),oI z3 69 a.cells,oI z2 153 [(vN ((((a.r.e.take j1).map (dj 0)).length)-1)),(vI ((((((a.r.e.take j1).map (dj 0))++(b.r.e.take j2).map (dj (((a.r.e.take j1).map (dj 0)).length))).length)-1:Nat):Int))],oI z1 69 [(.int .u8 0),nS]] [(0,v8 op),(1,(.slice tb 2 tc)),(4,(.pointer (aD z1))),(5,(.slice ob ((((a.r.e.take j1).map (dj 0))++(b.r.e.take j2).map (dj (((a.r.e.take j1).map (dj 0)).length))).length) kb)),(6,(.pointer (aD z2))),(7,vI 1),(8,(.pointer (aD z8))),(9,vI (((a.r.e.take j1).map (dj 0)).length:Int)),(12,(.agg #[(vI 0),(vI 0)])),(13,(.slice tb 2 tc)),(14,vI 2),(15,vI 2)] F (.of F) (fun fE=>?_)
 refine T.round ?_
 refine ai (ad (aq (bT F F) (b':=false) F) (ae (aB (aL F ?_))))
 refine bJ ?_
 refine ai (ah F (ah F (ad (gT (i:=0) q5 aO F F (by decide)) (ad (aQ 3 cS F F F F) (ad (gT (i:=1) q5 aO F F (by decide)) (ad (aQ 3 cS F F F F) (ad (bG (cs:=[v8 op,(.int .u8 0),(.int .u8 0),(vN ((((a.r.e.take j1).map (dj 0)).length)-1)),(vI ((((((a.r.e.take j1).map (dj 0))++(b.r.e.take j2).map (dj (((a.r.e.take j1).map (dj 0)).length))).length)-1:Nat):Int))]) k_ bN (by kernel_rfl)) (ak F (bH (m:=1) (parts:=[(0,_)]) (cs:=[v8 op,(.int .u8 0),(.int .u8 0),(vN ((((a.r.e.take j1).map (dj 0)).length)-1)),(vI ((((((a.r.e.take j1).map (dj 0))++(b.r.e.take j2).map (dj (((a.r.e.take j1).map (dj 0)).length))).length)-1:Nat):Int))]) cN bN (by decide) (by kernel_rfl) F (fun lK=>?_))))))))))
 refine ak F (bY 2 cN cN bN F F F F (by rw[bE]) (by decide) (Src.row (j:=0) F (by simp)) (by simp[dS]) (by simp only[List.nil_append,List.length_append,List.length_map,List.length_take];omega) (by decide) (by decide) (fun xk Cl=>?_))
 refine aj F (ae (aB (ai (ah F (ad (bS cN F) (ad (fW F F) (ae (aC F (fun hc=>?_) (fun hc=>?_)))))))))
 ·have Hk:((((a.r.e.take j1).map (dj 0))++(b.r.e.take j2).map (dj (((a.r.e.take j1).map (dj 0)).length))).length)+1>64:=by omega
  have hL:=Hk
  refine ai (ad (bG (cs:=[.int .u8 3,nS]) ot cg (by kernel_rfl)) (ak F (a8 (vs:=[.int .u8 3,nS]) 5 cg F F F F ?_)))
  refine ae (aA (ap ?_))
  refine bL (i:=5) Tryz.results68 eG F cg F F F ?_
  exact⟨[],Sub.z,[],⟨3,⟨none,0,[]⟩⟩,F,F,(Ck ON Ab (by rw[Vo]at hL;simpa using hL)).symm,.inl (.inr F)⟩
 have Hl: ¬((((a.r.e.take j1).map (dj 0))++(b.r.e.take j2).map (dj (((a.r.e.take j1).map (dj 0)).length))).length)+1>64:=by omega
 have hL:=Hl
 refine av (ai (ah F (ad (bG (cs:=[(.int .u8 0),(.slice xk (((((a.r.e.take j1).map (dj 0))++(b.r.e.take j2).map (dj (((a.r.e.take j1).map (dj 0)).length))).length)+1) Cl)]) ot cg (by kernel_rfl)) (ak F (a8 (vs:=[(.int .u8 0),(.slice xk (((((a.r.e.take j1).map (dj 0))++(b.r.e.take j2).map (dj (((a.r.e.take j1).map (dj 0)).length))).length)+1) Cl)]) 5 cg F F F F ?_)))))
 refine ae (aA (ap ?_))
 refine bL (i:=5) Tryz.results68 eG F cg F F F ?_
 have OP:=Fv (op:=op) ON Ab (by rw[Vo]at hL;simpa using hL)
 exact⟨[am xk Cl 72 5 ((bg (((a.r.e.take j1).map (dj 0))++(b.r.e.take j2).map (dj (((a.r.e.take j1).map (dj 0)).length))))++[v8 op,(.int .u8 0),(.int .u8 0),(vN ((((a.r.e.take j1).map (dj 0)).length)-1)),(vI ((((((a.r.e.take j1).map (dj 0))++(b.r.e.take j2).map (dj (((a.r.e.take j1).map (dj 0)).length))).length)-1:Nat):Int))])],(by exact Sub.d (.d (.k .z))),[⟨xk,Cl,(mg op a.pp b.pp).2⟩],⟨0,⟨xk,Cl,(mg op a.pp b.pp).2⟩⟩,congrArg (fun n9=>Value.agg #[.int .u8 0,.slice xk n9 Cl]) (show((((a.r.e.take j1).map (dj 0))++(b.r.e.take j2).map (dj (((a.r.e.take j1).map (dj 0)).length))).length)+1=((mg op a.pp b.pp).2).length by rw[OP,Vo];first|(simp;done)|(simp;omega)),congrArg (fun z=>[am xk Cl 72 5 z]) (show(bg (((a.r.e.take j1).map (dj 0))++(b.r.e.take j2).map (dj (((a.r.e.take j1).map (dj 0)).length))))++[v8 op,(.int .u8 0),(.int .u8 0),(vN ((((a.r.e.take j1).map (dj 0)).length)-1)),(vI ((((((a.r.e.take j1).map (dj 0))++(b.r.e.take j2).map (dj (((a.r.e.take j1).map (dj 0)).length))).length)-1:Nat):Int))]=bg ((mg op a.pp b.pp).2) by rw[OP,Vo,jR];first|(simp[bg,dF.cells];done)|(simp[bg,dF.cells];omega)),by rw[OP];rfl,.inl (.inl (List.mem_singleton.2 F))⟩
theorem mh {a b:PR} (h:a.k=1):yg a.pp b.pp=b.pp:=if_pos h
theorem mi {a b:PR} (h: ¬a.k=1) (h2:b.k=1∨(a.k≠3∧a.r.e=b.r.e)):yg a.pp b.pp=a.pp:=(if_neg h).trans (if_pos h2)
theorem Cm {a b:PR} (h: ¬a.k=1) (h2: ¬(b.k=1∨(a.k≠3∧a.r.e=b.r.e))):yg a.pp b.pp=mg 5 a.pp b.pp:=(if_neg h).trans (if_neg h2)
theorem mj {a b:PR} (h:a.k=1∨b.k=2):z_ a.pp b.pp=a.pp:=if_pos h
theorem ml {a b:PR} (h: ¬(a.k=1∨b.k=2)) (h2:b.k=1∨a.k=2):z_ a.pp b.pp=b.pp:=(if_neg h).trans (if_pos h2)
theorem Cn {a b:PR} (h: ¬(a.k=1∨b.k=2)) (h2: ¬(b.k=1∨a.k=2)):z_ a.pp b.pp=mg 4 a.pp b.pp:=(if_neg h).trans (if_neg h2)
theorem xl {a:PR} (h:a.k=1∨a.k=2):xg a.pp=(2,[⟨2,0,0,0,0⟩]):=if_pos h
theorem Fw {a:PR} (h: ¬(a.k=1∨a.k=2)):xg a.pp=oo 8 a.pp:=if_neg h
theorem OQ (w:World) [cG Tryz.prog w] (a b:PR) (ha:Sl w a.r.b (bg a.r.e)) (zh:ek a.pp) (hb:Sl w b.r.b (bg b.r.e)) (M2:ek b.pp):
  bI Tryz.prog 40 [a.val,b.val] w (Rl 72 [a,b] (yg a.pp b.pp)):=by
 refine aw func40 F ntmps40 F ?_
 refine ai (ak F (cH (cs:=a.cells) F F (fun z1=>?_)))
 refine ak F (cH (cs:=b.cells) F F (fun z2=>?_))
 refine ak F (aR cg F (fun z3=>?_))
 refine ae (aB (aG (ai (ad (aN eG F lJ F F) (ad (aQ 2 si F F F F) (ad (aZ F F) (aj F (ae (aC F (fun hc=>?_) (fun hc=>?_))))))))))
 ·have Wk:a.k=1:=by omega
  refine ai (ad (dh 1 eG F cg F F F) (ak F (a8 (vs:=b.cells) 0 cg F F F F ?_)))
  refine ae (aA (ap ?_))
  refine bL (i:=0) Tryz.results40 eG F cg F F F ?_
  exact⟨[],Sub.z,[],b,F,F,Eq.symm (by first|exact mh ‹_›|exact mi ‹_› hc|exact mj (by omega)|exact ml (by omega) (by omega)),.inr ⟨b,by simp,F⟩⟩
 have Wl: ¬a.k=1:=by omega
 refine e7 (fun ρ O=>Sub [oI z3 69 [(.int .u8 0),nS],oI z2 69 b.cells,oI z1 69 a.cells] O∧cw [(0,a.val),(1,b.val),(2,(.pointer (aD z1))),(3,(.pointer (aD z2))),(4,(.pointer (aD z3))),(5,.bool (decide (((a.k:Nat):Int)=1))),(10,.bool (decide (b.k=1∨(a.k≠3∧a.r.e=b.r.e))))] ρ) ?_ ?_
 ·refine aJ ?_
  refine ad (aN eG F lJ F F) (ad (aQ 1 si F F F F) ?_)
  by_cases YK:((b.k:Nat):Int)=1
  ·refine ad (aq (aZ F F) (decide_eq_true YK)) ?_
   refine ah F (aF F F (aF F F (aF F F (aF F F (aF F F (aF F F (aF F F ?_)))))))
   refine aF F F (aF F F (aF F F (ad (bu F F) (aj F (ae ?_)))))
   exact⟨(by exact Sub.rf),⟨F,F,F,F,F,F,(congrArg Value.bool (decide_eq_true (by exact .inl (by omega))).symm),trivial⟩⟩
  refine ad (aq (aZ F F) (decide_eq_false YK)) (ah F (au F F (aN eG F lJ F F) (au F F (aQ 2 si F F F F) ?_)))
  by_cases YL:((a.k:Nat):Int)≠3
  ·refine au F F (aq (cT F F) (decide_eq_true YL)) ?_
   refine au F F (az F) (au F F (aN eG F fJ F F) (au F F (aQ 2 cN F F F F) (au F F (aN eG F fJ F F) (au F F (aQ 1 cN F F F F) ?_))))
   refine fU F F F (aP Sc (aI fun w1 hI=>(haveI:=di hI;KP w1 a.r.b b.r.b a.r.c b.r.c a.r.e b.r.e (hI.sl ha) (hI.sl hb) (by have:=zh.len;have:a.r.e.length≤64:=this;omega))) F ?_)
   rintro vr O' ⟨N,rfl,rfl,rfl⟩
   refine au F F (bu F F) (ad (bl F F) (aj F (ae ?_)))
   exact⟨(by exact Sub.rf),⟨F,F,F,F,F,F,(congrArg Value.bool (decide_eq_decide.2 ⟨fun h=>.inr ⟨by omega,h⟩,fun h=>h.elim (fun h=>by omega) (fun h=>h.2)⟩)),trivial⟩⟩
  refine au F F (aq (cT F F) (decide_eq_false YL)) (au F F (az F) (aF F F (aF F F (aF F F (aF F F (aF F F (au F F (bl F F) ?_)))))))
  refine ad (bl F F) (aj F (ae ?_))
  exact⟨(by exact Sub.rf),⟨F,F,F,F,F,F,(congrArg Value.bool (decide_eq_false (by intro h9;rcases h9 with h9|h9<;>omega)).symm),trivial⟩⟩
 rintro ρ O ⟨hS,hH⟩
 obtain⟨fE,rfl⟩:=hH.elim
 clear hH
 refine ck hS ?_
 refine aC F (fun hc=>?_) (fun hc=>?_)
 ·refine aB ?_
  refine aJ (ad (dh 2 eG F cg F F F) (ak F (a8 (vs:=a.cells) 0 cg F F F F ?_)))
  refine ae (aA (ap ?_))
  refine bL (i:=0) Tryz.results40 eG F cg F F F ?_
  exact⟨[],Sub.z,[],a,F,F,Eq.symm (by first|exact mh ‹_›|exact mi ‹_› hc|exact mj (by omega)|exact ml (by omega) (by omega)),.inr ⟨a,by simp,F⟩⟩
 let eQ:List Value:=[v8 a.k,(.slice a.r.b a.r.e.length a.r.c),v8 b.k,(.slice b.r.b b.r.e.length b.r.c)]
 refine av (ai (ad (dh 2 eG F cg F F F) (ad (dh 1 eG F cg F F F) (ak F (bH (m:=2) (parts:=[(0,_),(1,_)]) (cs:=eQ) j_ cg (by decide) (by kernel_rfl) F (fun z4=>?_))))))
 refine ak F (aP Hn (aI fun w1 hI=>(haveI:=di hI;Hm w1 5 (aD z4) 2 a b (hI.fV (mG 0 F)) (hI.sl ha) zh (hI.sl hb) M2)) F ?_)
 rintro vr O' ⟨N,rfl,qs,c,rfl,rfl,BP,Gp⟩
 refine cQ (O':=([am (aD z4) 2 69 2 eQ,oI z3 69 [(.int .u8 0),nS],oI z2 69 b.cells,oI z1 69 a.cells]++(cq 72 qs))) (by exact eW [] _ (cq 72 qs)) ?_
 refine ak F (a8 (vs:=c.cells) 1 cg F F F F ?_)
 refine ae (aA (ap ?_))
 refine bL (i:=1) Tryz.results40 eG F cg F F F ?_
 exact⟨cq 72 qs,(by exact Sub.d (.d (.d (.d .rf)))),qs,c,F,F,BP.trans (Cm ‹_› hc).symm,Gp⟩
theorem M3 (w:World) [cG Tryz.prog w] (a b:PR) (ha:Sl w a.r.b (bg a.r.e)) (zh:ek a.pp) (hb:Sl w b.r.b (bg b.r.e)) (M2:ek b.pp):
  bI Tryz.prog 41 [a.val,b.val] w (Rl 72 [a,b] (z_ a.pp b.pp)):=by
 refine aw func41 F ntmps41 F ?_
 refine ai (ak F (cH (cs:=a.cells) F F (fun z1=>?_)))
 refine ak F (cH (cs:=b.cells) F F (fun z2=>?_))
 refine ak F (aR cg F (fun z3=>?_))
 refine ae (aB (aG (ai (ad (aN eG F lJ F F) (ad (aQ 2 si F F F F) ?_)))))
 by_cases h8:((a.k:Nat):Int)=1
 ·refine ad (aq (aZ F F) (decide_eq_true h8)) ?_
  refine ah F (aF F F (aF F F (aF F F (ad (bu F F) (aj F (ae ?_))))))
  refine bj F ?_
  refine ai (ad (dh 2 eG F cg F F F) (ak F (a8 (vs:=a.cells) 0 cg F F F F ?_)))
  refine ae (aA (ap ?_))
  refine bL (i:=0) Tryz.results41 eG F cg F F F ?_
  exact⟨[],Sub.z,[],a,F,F,Eq.symm (by first|exact mh ‹_›|exact mi ‹_› hc|exact mj (by omega)|exact ml (by omega) (by omega)),.inr ⟨a,by simp,F⟩⟩
 refine ad (aq (aZ F F) (decide_eq_false h8)) (ah F (au F F (aN eG F lJ F F) (au F F (aQ 1 si F F F F) ?_)))
 by_cases YM:((b.k:Nat):Int)=2
 ·refine au F F (aq (aZ F F) (decide_eq_true YM)) ?_
  refine ad (bl F F) (aj F (ae ?_))
  refine bj F ?_
  refine ai (ad (dh 2 eG F cg F F F) (ak F (a8 (vs:=a.cells) 0 cg F F F F ?_)))
  refine ae (aA (ap ?_))
  refine bL (i:=0) Tryz.results41 eG F cg F F F ?_
  exact⟨[],Sub.z,[],a,F,F,Eq.symm (by first|exact mh ‹_›|exact mi ‹_› hc|exact mj (by omega)|exact ml (by omega) (by omega)),.inr ⟨a,by simp,F⟩⟩
 refine au F F (aq (aZ F F) (decide_eq_false YM)) (ad (bl F F) (aj F (ae (aL F (ai (ad (aN eG F lJ F F) (ad (aQ 1 si F F F F) ?_)))))))
 by_cases YN:((b.k:Nat):Int)=1
 ·refine ad (aq (aZ F F) (decide_eq_true YN)) ?_
  refine ah F (aF F F (aF F F (aF F F (ad (bu F F) (aj F (ae ?_))))))
  refine bj F ?_
  refine ai (ad (dh 1 eG F cg F F F) (ak F (a8 (vs:=b.cells) 0 cg F F F F ?_)))
  refine ae (aA (ap ?_))
  refine bL (i:=0) Tryz.results41 eG F cg F F F ?_
  exact⟨[],Sub.z,[],b,F,F,Eq.symm (by first|exact mh ‹_›|exact mi ‹_› hc|exact mj (by omega)|exact ml (by omega) (by omega)),.inr ⟨b,by simp,F⟩⟩
 refine ad (aq (aZ F F) (decide_eq_false YN)) (ah F (au F F (aN eG F lJ F F) (au F F (aQ 2 si F F F F) ?_)))
 by_cases YO:((a.k:Nat):Int)=2
 ·refine au F F (aq (aZ F F) (decide_eq_true YO)) ?_
  refine ad (bl F F) (aj F (ae ?_))
  refine bj F ?_
  refine ai (ad (dh 1 eG F cg F F F) (ak F (a8 (vs:=b.cells) 0 cg F F F F ?_)))
  refine ae (aA (ap ?_))
  refine bL (i:=0) Tryz.results41 eG F cg F F F ?_
  exact⟨[],Sub.z,[],b,F,F,Eq.symm (by first|exact mh ‹_›|exact mi ‹_› hc|exact mj (by omega)|exact ml (by omega) (by omega)),.inr ⟨b,by simp,F⟩⟩
 let jj:List Value:=[v8 a.k,(.slice a.r.b a.r.e.length a.r.c),v8 b.k,(.slice b.r.b b.r.e.length b.r.c)]
 refine au F F (aq (aZ F F) (decide_eq_false YO)) (ad (bl F F) (aj F (ae (aL F (av (ai (ad (dh 2 eG F cg F F F) (ad (dh 1 eG F cg F F F) (ak F (bH (m:=2) (parts:=[(0,_),(1,_)]) (cs:=jj) j_ cg (by decide) (by kernel_rfl) F (fun z4=>?_)))))))))))
 refine ak F (aP Hn (aI fun w1 hI=>(haveI:=di hI;Hm w1 4 (aD z4) 2 a b (hI.fV (mG 0 F)) (hI.sl ha) zh (hI.sl hb) M2)) F ?_)
 rintro vr O' ⟨N,rfl,qs,c,rfl,rfl,BP,Gp⟩
 refine cQ (O':=([am (aD z4) 2 69 2 jj,oI z3 69 [(.int .u8 0),nS],oI z2 69 b.cells,oI z1 69 a.cells]++(cq 72 qs))) (by exact eW [] _ (cq 72 qs)) ?_
 refine ak F (a8 (vs:=c.cells) 1 cg F F F F ?_)
 refine ae (aA (ap ?_))
 refine bL (i:=1) Tryz.results41 eG F cg F F F ?_
 exact⟨cq 72 qs,(by exact Sub.d (.d (.d (.d .rf)))),qs,c,F,F,BP.trans (Cn (by omega) (by omega)).symm,Gp⟩
theorem OR (w:World) [cG Tryz.prog w] (a:PR) (ha:Sl w a.r.b (bg a.r.e)) (zh:ek a.pp):
  bI Tryz.prog 42 [a.val] w (Rl 72 [a] (xg a.pp)):=by
 refine aw func42 F ntmps42 F ?_
 refine ai (ak F (cH (cs:=a.cells) F F (fun z1=>?_)))
 refine ak F (aR cg F (fun z2=>?_))
 refine ae (aB (ai (ad (aN eG F lJ F F) (ad (aQ 1 si F F F F) ?_))))
 by_cases h5:((a.k:Nat):Int)=1
 ·refine ad (aq (aZ F F) (decide_eq_true h5)) ?_
  refine ah F (aF F F (aF F F (aF F F (ad (bu F F) (ae ?_)))))
  refine bj F ?_
  refine ai (ad (bG (cs:=[.int .u8 2,(.int .u8 0),(.int .u8 0),(vI 0),(vI 0)]) k_ bN (by kernel_rfl)) (ak F (aP Ac (aI fun w1 hI=>(haveI:=di hI;uY w1 2 ⟨2,0,0,0,0⟩)) F ?_)))
  rintro vr O' ⟨N,rfl,qs,c,rfl,rfl,BP,Gp⟩
  refine cQ (O':=([oI z2 69 [(.int .u8 0),nS],oI z1 69 a.cells]++(cq 72 qs))) (by exact eW [] _ (cq 72 qs)) ?_
  refine ak F (a8 (vs:=c.cells) 0 cg F F F F ?_)
  refine ae (aA (ap ?_))
  refine bL (i:=0) Tryz.results42 eG F cg F F F ?_
  exact⟨cq 72 qs,(by exact Sub.d (.d .rf)),qs,c,F,F,BP.trans (xl (by omega)).symm,Gp.elim .inl (fun h=>absurd h (by simp))⟩
 refine ad (aq (aZ F F) (decide_eq_false h5)) (ah F (au F F (aN eG F lJ F F) (au F F (aQ 1 si F F F F) ?_)))
 by_cases h9:((a.k:Nat):Int)=2
 ·refine au F F (aq (aZ F F) (decide_eq_true h9)) ?_
  refine ad (bl F F) (ae ?_)
  refine bj F ?_
  refine ai (ad (bG (cs:=[.int .u8 2,(.int .u8 0),(.int .u8 0),(vI 0),(vI 0)]) k_ bN (by kernel_rfl)) (ak F (aP Ac (aI fun w1 hI=>(haveI:=di hI;uY w1 2 ⟨2,0,0,0,0⟩)) F ?_)))
  rintro vr O' ⟨N,rfl,qs,c,rfl,rfl,BP,Gp⟩
  refine cQ (O':=([oI z2 69 [(.int .u8 0),nS],oI z1 69 a.cells]++(cq 72 qs))) (by exact eW [] _ (cq 72 qs)) ?_
  refine ak F (a8 (vs:=c.cells) 0 cg F F F F ?_)
  refine ae (aA (ap ?_))
  refine bL (i:=0) Tryz.results42 eG F cg F F F ?_
  exact⟨cq 72 qs,(by exact Sub.d (.d .rf)),qs,c,F,F,BP.trans (xl (by omega)).symm,Gp.elim .inl (fun h=>absurd h (by simp))⟩
 refine au F F (aq (aZ F F) (decide_eq_false h9)) (ad (bl F F) (ae (aL F (av (ai (ad (dh 1 eG F cg F F F) (ak F (bH (m:=1) (parts:=[(0,_)]) (cs:=a.cells) j_ cg (by decide) (by kernel_rfl) F (fun z3=>?_)))))))))
 refine ak F (aP Hn (aI fun w1 hI=>(haveI:=di hI;OM w1 8 (aD z3) 1 a (hI.fV (mG 0 F)) (hI.sl ha) zh)) F ?_)
 rintro vr O' ⟨N,rfl,qs,c,rfl,rfl,BP,Gp⟩
 refine cQ (O':=([am (aD z3) 1 69 2 a.cells,oI z2 69 [(.int .u8 0),nS],oI z1 69 a.cells]++(cq 72 qs))) (by exact eW [] _ (cq 72 qs)) ?_
 refine ak F (a8 (vs:=c.cells) 1 cg F F F F ?_)
 refine ae (aA (ap ?_))
 refine bL (i:=1) Tryz.results42 eG F cg F F F ?_
 exact⟨cq 72 qs,(by exact Sub.d (.d (.d .rf))),qs,c,F,F,BP.trans (Fw (by omega)).symm,Gp⟩
end Go.Proofs.YtgdbfideeeegmaaGreatDoor

