/- Contracts of functions of the program, and what they answer. Conditions: those each theorem names. -/
import Derived.Test.YtgdbfideeeegmaaGreatDoorA2
import Derived.Test.YtgdbfideeeegmaaGreatDoorB4
import Derived.Test.YtgdbfideeeegmaaGreatDoorA8
set_option linter.unusedSectionVars false
set_option linter.unusedSimpArgs false
set_option linter.unusedVariables false
set_option linter.unnecessarySimpa false
set_option maxHeartbeats 8000000
set_option maxRecDepth 20000
namespace Go.Proofs.YtgdbfideeeegmaaGreatDoor
open Go.Lx Go.RowKit _root_.Go.Proofs.Tryz
theorem D6 (w:World) [cG Tryz.prog w]:
  bs Tryz.prog 36 [] w (J9 72 [] (1,[⟨1,0,0,0,0⟩])):=by
 refine av func36 F ntmps36 F ?_
 refine ai (aj F (aR cm F (fun z1=>?_)))
 let dS:List Value:=[.int .u8 1,(.int .u8 0),(.int .u8 0),(vI 0),(vI 0)]
 refine ae (ai (ad (bE (cs:=dS) iy bQ (by kernel_rfl)) (aj F (bH (m:=1) (parts:=[(0,_)]) (cs:=dS) cp bQ (by decide) (by kernel_rfl) F (fun z2=>?_)))))
 refine ad (bE (cs:=[.bool true,(.bool false),(.bool false),(.slice (aD z2) 1 1)]) nJ cm (by kernel_rfl)) (aj F (bj (vs:=[.bool true,(.bool false),(.bool false),(.slice (aD z2) 1 1)]) 1 cm F F F F ?_))
 refine ae (az (ao ?_))
 refine bf (i:=1) Tryz.results36 dY F cm F F F ?_
 exact⟨[ak (aD z2) 1 72 5 dS],(by exact Sub.k .z),[⟨(aD z2),1,[⟨1,0,0,0,0⟩]⟩],⟨1,⟨(aD z2),1,[⟨1,0,0,0,0⟩]⟩⟩,F,F,F,.inl (.inl (List.mem_singleton.2 F))⟩
theorem HP (w:World) [cG Tryz.prog w]:
  bs Tryz.prog 66 [] w (J9 72 [] (2,[⟨2,0,0,0,0⟩])):=by
 refine av func66 F ntmps66 F ?_
 refine ai (aj F (aR cm F (fun z1=>?_)))
 let gz:List Value:=[.int .u8 2,(.int .u8 0),(.int .u8 0),(vI 0),(vI 0)]
 refine ae (ai (ad (bE (cs:=gz) iy bQ (by kernel_rfl)) (aj F (bH (m:=1) (parts:=[(0,_)]) (cs:=gz) cp bQ (by decide) (by kernel_rfl) F (fun z2=>?_)))))
 refine ad (bE (cs:=[(.bool false),.bool true,(.bool false),(.slice (aD z2) 1 1)]) nJ cm (by kernel_rfl)) (aj F (bj (vs:=[(.bool false),.bool true,(.bool false),(.slice (aD z2) 1 1)]) 1 cm F F F F ?_))
 refine ae (az (ao ?_))
 refine bf (i:=1) Tryz.results66 dY F cm F F F ?_
 exact⟨[ak (aD z2) 1 72 5 gz],(by exact Sub.k .z),[⟨(aD z2),1,[⟨2,0,0,0,0⟩]⟩],⟨2,⟨(aD z2),1,[⟨2,0,0,0,0⟩]⟩⟩,F,F,F,.inl (.inl (List.mem_singleton.2 F))⟩
theorem AU (w:World) [cG Tryz.prog w] (op:Nat) (a b:PR) (ha:Sl w a.r.b (aT a.r.e)) (hb:Sl w b.r.b (aT b.r.e)) (WX: ¬a.k=3→0<a.r.e.length) (hpb: ∀x∈b.r.e,ui b.r.e.length x) (Gp:a.r.e.length≤64) (Sh:b.r.e.length≤64):
  bs Tryz.prog 63 [.int .u8 ((op:Nat):Int),a.w6,b.w6] w (J9 72 [] (AP op a.pp b.pp)):=by
 refine av func63 F ntmps63 F ?_
 refine ai (aj F (cL (cs:=a.bU) F F (fun z1=>?_)))
 refine aj F (cL (cs:=b.bU) F F (fun z2=>?_))
 refine aj F (aR cm F (fun z3=>?_))
 refine ae (ax (ai (ad (aJ dY F dc F F) (ad (aO 2 oe F F F F) ?_))))
 by_cases qg:a.k=3
 ·refine ad (ar (aF F) (decide_eq_true qg)) ?_
  refine ay F F (ay F F (ad (bt F F) (ah F (ay F F (ay F F (ay F F (ay F F (ay F F ?_))))))))
  refine ay F F (ay F F (ay F F (ad (bt F F) (ae ?_))))
  refine bg F ?_
  refine ai (ad (bE (cs:=[(.bool false),(.bool false),.bool true,nS]) nJ cm (by kernel_rfl)) (aj F (bj (vs:=[(.bool false),(.bool false),.bool true,nS]) 0 cm F F F F ?_)))
  refine ae (az (ao ?_))
  refine bf (i:=0) Tryz.results63 dY F cm F F F ?_
  exact⟨[],Sub.z,[],⟨3,⟨none,0,[]⟩⟩,F,F,(if_pos (by first|exact .inl (.inl qg)|exact .inl (.inr O6)|exact .inr HQ)).symm,.inl (.inr F)⟩
 refine ad (ar (aF F) (decide_eq_false qg)) (ap F F (aJ dY F dc F F) (ap F F (aO 1 oe F F F F) ?_))
 by_cases O6:b.k=3
 ·refine ad (ar (aZ F F) (decide_eq_true O6)) ?_
  refine ah F (ay F F (ay F F (ay F F (ay F F (ay F F (ay F F (ay F F ?_)))))))
  refine ay F F (ad (bt F F) (ae ?_))
  refine bg F ?_
  refine ai (ad (bE (cs:=[(.bool false),(.bool false),.bool true,nS]) nJ cm (by kernel_rfl)) (aj F (bj (vs:=[(.bool false),(.bool false),.bool true,nS]) 0 cm F F F F ?_)))
  refine ae (az (ao ?_))
  refine bf (i:=0) Tryz.results63 dY F cm F F F ?_
  exact⟨[],Sub.z,[],⟨3,⟨none,0,[]⟩⟩,F,F,(if_pos (by first|exact .inl (.inl qg)|exact .inl (.inr O6)|exact .inr HQ)).symm,.inl (.inr F)⟩
 refine ad (ar (aZ F F) (decide_eq_false O6)) (ah F (ap F F (aJ dY F eT F F) (ap F F (aO 2 cp F F F F) (ap F F (bL cp F) (ap F F (aJ dY F eT F F) (ap F F (aO 1 cp F F F F) (ap F F (bL cp F) (ap F F (cj (a:=a.r.e.length) (b:=b.r.e.length) F F (by omega)) ?_))))))))
 refine ap F F (fw F F) (ad (aZ F F) (ae (aw F (fun hc=>?_) (fun hc=>?_))))
 ·have HQ:a.r.e.length+b.r.e.length>63:=by omega
  refine ai (ad (bE (cs:=[(.bool false),(.bool false),.bool true,nS]) nJ cm (by kernel_rfl)) (aj F (bj (vs:=[(.bool false),(.bool false),.bool true,nS]) 0 cm F F F F ?_)))
  refine ae (az (ao ?_))
  refine bf (i:=0) Tryz.results63 dY F cm F F F ?_
  exact⟨[],Sub.z,[],⟨3,⟨none,0,[]⟩⟩,F,F,(if_pos (by first|exact .inl (.inl qg)|exact .inl (.inr O6)|exact .inr HQ)).symm,.inl (.inr F)⟩
 have Nd: ¬a.r.e.length+b.r.e.length>63:=by omega
 have DG:=WX qg
 refine aq (ai (ad (aJ dY F eT F F) (ad (aO 2 cp F F F F) (aj F (sI (l:=a.r.e.length) cp cp bQ F F F (by decide) (Src.sl ha (by rw[bF])) (CN a.r.e) (by omega) (by decide) (by decide) (fun z4 CO=>?_))))))
 refine TO.qa F (ae (ax (ai (TO.qa F (ae (aC ?_))))))
 refine cE (fun(j:Nat) ρ O=> ∃(ob:Option Addr) (oc:Nat),O=[ak ob oc 72 5 (aT (a.r.e++(b.r.e.take j).map (cK a.r.e.length))),oI z3 63 [(.bool false),(.bool false),(.bool false),nS],oI z2 63 b.bU,oI z1 63 a.bU]∧j≤b.r.e.length∧bZ [(0,.int .u8 ((op:Nat):Int)),(1,a.w6),(2,b.w6),(4,(.pointer (aD z1))),(5,(.pointer (aD z2))),(6,(.pointer (aD z3))),(7,(.slice ob ((a.r.e++(b.r.e.take j).map (cK a.r.e.length)).length) oc)),(8,vI ((j:Nat):Int))] ρ) (fun j=>b.r.e.length-j) 0 ?_ ?_
 ·exact⟨z4,CO,by simp,Nat.zero_le _,⟨F,F,F,F,F,F,(congrArg (fun n9=>Value.slice z4 n9 CO) (by simp)),F,trivial⟩⟩
 rintro j ρ O ⟨ob,oc,rfl,hj,hH⟩
 obtain⟨eP,rfl⟩:=hH.elim
 clear hH
 refine ax (ai (ah F (ad (aJ dY F eT F F) (ad (aO 2 cp F F F F) (ad (bL cp F) (ad (bI F F) (ae (aw F (fun hc=>?_) (fun hc=>?_)))))))))
 ·have kV:j<b.r.e.length:=by omega
  have uj:ui b.r.e.length b.r.e[j]:=hpb _ (List.getElem_mem kV)
  have WA:=uj.a0;have Ay:=uj.a1;have Az:=uj.b0;have Sg:=uj.b1;have n3:=uj.op.1;have K9:=uj.op.2
  refine aq (ax (aC (ai (ad (aJ dY F eT F F) (ad (aO 2 cp F F F F) (ah F (ad (db (i:=j) cp bQ F F (aB hb) kV (by rw[bF];omega)) ?_)))))))
  refine ad (dT (vs:=b.r.e[j].cl) bK F bQ F F (Nat.succ_pos _) (aB hb) (fp (List.getElem?_eq_getElem kV))) ?_
  refine aj F (aR bQ F (fun z6=>?_))
  refine aj F (bj (vs:=b.r.e[j].cl) 0 bQ F F F F ?_)
  refine ae (ax (ai (ad (aJ bK F cP F F) (ad (aO 0 eC F F F F) ?_))))
  have uT:=fun(w1:World) (hI:Inv w [oI z6 72 b.r.e[j].cl,ak ob oc 72 5 (aT (a.r.e++(b.r.e.take j).map (cK a.r.e.length))),oI z3 63 [(.bool false),(.bool false),(.bool false),nS],oI z2 63 b.bU,oI z1 63 a.bU] w1)=>(haveI:=dp hI;qJ w1 b.r.e[j].op n3 (by omega))
  refine aj F (aI vH (aE uT) F ?_)
  clear uT
  rintro vr O' ⟨N,rfl,rfl,rfl⟩
  refine ad (gW F F) (ae (aw F (fun hc=>?_) (fun hc=>?_)))
  ·have GM:cT b.r.e[j].op≥1:=by omega
   refine aH (ad (aJ bK F aM F F) (ad (aO 0 dh F F F F) (ad (aJ dY F eT F F) (ad (aO 4 cp F F F F) (ad (bL cp F) (ad (cM F F (by omega)) (ad (aJ bK F aM F F) (aj F (bj (vs:=[(vI (b.r.e[j].a+(a.r.e.length:Int)))]) 0 aM F F F F ?_)))))))))
   refine ae (ax (ai (ad (aJ bK F cP F F) (ad (aO 0 eC F F F F) ?_))))
   have HR:=fun(w1:World) (hI:Inv w [oI z6 72 [.int .u8 ((b.r.e[j].op:Nat):Int),.int .u8 ((b.r.e[j].p:Nat):Int),.int .u8 ((b.r.e[j].n:Nat):Int),(vI (b.r.e[j].a+(a.r.e.length:Int))),vI b.r.e[j].b],ak ob oc 72 5 (aT (a.r.e++(b.r.e.take j).map (cK a.r.e.length))),oI z3 63 [(.bool false),(.bool false),(.bool false),nS],oI z2 63 b.bU,oI z1 63 a.bU] w1)=>(haveI:=dp hI;qJ w1 b.r.e[j].op n3 (by omega))
   refine aj F (aI vH (aE HR) F ?_)
   clear HR
   rintro vr O' ⟨N,rfl,rfl,rfl⟩
   refine ad (bo F F) (ae (aw F (fun hc=>?_) (fun hc=>?_)))
   ·have YE:cT b.r.e[j].op=2:=by omega
    refine aH (ad (aJ bK F aM F F) (ad (aO 0 dh F F F F) (ad (aJ dY F eT F F) (ad (aO 4 cp F F F F) (ad (bL cp F) (ad (cM F F (by omega)) (ad (aJ bK F aM F F) (aj F (bj (vs:=[(vI (b.r.e[j].b+(a.r.e.length:Int)))]) 0 aM F F F F ?_)))))))))
    refine ae ?_
    refine cu (O':=[oI z6 72 (cK a.r.e.length b.r.e[j]).cl,ak ob oc 72 5 (aT (a.r.e++(b.r.e.take j).map (cK a.r.e.length))),oI z3 63 [(.bool false),(.bool false),(.bool false),nS],oI z2 63 b.bU,oI z1 63 a.bU]) (by first|(rw[CM n3 K9 (by omega)];exact Sub.rf)|(rw[CL n3 K9 (by omega) (by omega)];exact Sub.rf)|(rw[CK n3 K9 (by omega)];exact Sub.rf)) ?_
    refine aH (ah F (ad (cN 0 bK F bQ F F F) (aj F (bH (m:=1) (parts:=[(0,_)]) (cs:=(cK a.r.e.length b.r.e[j]).cl) cp bQ (by decide) (by kernel_rfl) F (fun z7=>?_)))))
    refine aj F (bX 2 cp cp bQ F F F F (by rw[bF]) (by decide) (Src.row (j:=0) F (by simp)) (by simp[dD]) (by simp only[List.length_append,List.length_map,List.length_take];omega) (by decide) (by decide) (fun z8 w7=>?_))
    refine TO.qa F (ae (aH (ah F (ad (cj (a:=j) (b:=1) F F (by omega)) (TO.qa F (ae ?_))))))
    exact⟨j+1,by omega,[ak z8 w7 72 5 ((aT (a.r.e++(b.r.e.take j).map (cK a.r.e.length)))++(cK a.r.e.length b.r.e[j]).cl),oI z3 63 [(.bool false),(.bool false),(.bool false),nS],oI z2 63 b.bU,oI z1 63 a.bU],(by exact Sub.d (.d (.k (.k (.k (.k .z)))))),z8,w7,by rw[eo kV,←List.append_assoc,gg ((a.r.e++(b.r.e.take j).map (cK a.r.e.length)))];rfl,by omega,⟨F,F,F,F,F,F,(congrArg (fun n9=>Value.slice z8 n9 w7) (show((a.r.e++(b.r.e.take j).map (cK a.r.e.length)).length)+1=((a.r.e++(b.r.e.take (j+1)).map (cK a.r.e.length))).length by rw[eo kV];simp only[List.length_append,List.length_cons,List.length_nil]<;>omega)),F,trivial⟩⟩
   have YF: ¬cT b.r.e[j].op=2:=by omega
   refine aq ?_
   refine cu (O':=[oI z6 72 (cK a.r.e.length b.r.e[j]).cl,ak ob oc 72 5 (aT (a.r.e++(b.r.e.take j).map (cK a.r.e.length))),oI z3 63 [(.bool false),(.bool false),(.bool false),nS],oI z2 63 b.bU,oI z1 63 a.bU]) (by first|(rw[CM n3 K9 (by omega)];exact Sub.rf)|(rw[CL n3 K9 (by omega) (by omega)];exact Sub.rf)|(rw[CK n3 K9 (by omega)];exact Sub.rf)) ?_
   refine aH (ah F (ad (cN 0 bK F bQ F F F) (aj F (bH (m:=1) (parts:=[(0,_)]) (cs:=(cK a.r.e.length b.r.e[j]).cl) cp bQ (by decide) (by kernel_rfl) F (fun uk=>?_)))))
   refine aj F (bX 2 cp cp bQ F F F F (by rw[bF]) (by decide) (Src.row (j:=0) F (by simp)) (by simp[dD]) (by simp only[List.length_append,List.length_map,List.length_take];omega) (by decide) (by decide) (fun mM iz=>?_))
   refine TO.qa F (ae (aH (ah F (ad (cj (a:=j) (b:=1) F F (by omega)) (TO.qa F (ae ?_))))))
   exact⟨j+1,by omega,[ak mM iz 72 5 ((aT (a.r.e++(b.r.e.take j).map (cK a.r.e.length)))++(cK a.r.e.length b.r.e[j]).cl),oI z3 63 [(.bool false),(.bool false),(.bool false),nS],oI z2 63 b.bU,oI z1 63 a.bU],(by exact Sub.d (.d (.k (.k (.k (.k .z)))))),mM,iz,by rw[eo kV,←List.append_assoc,gg ((a.r.e++(b.r.e.take j).map (cK a.r.e.length)))];rfl,by omega,⟨F,F,F,F,F,F,(congrArg (fun n9=>Value.slice mM n9 iz) (show((a.r.e++(b.r.e.take j).map (cK a.r.e.length)).length)+1=((a.r.e++(b.r.e.take (j+1)).map (cK a.r.e.length))).length by rw[eo kV];simp only[List.length_append,List.length_cons,List.length_nil]<;>omega)),F,trivial⟩⟩
  have xl: ¬cT b.r.e[j].op≥1:=by omega
  refine aq (ax (ai (ad (aJ bK F cP F F) (ad (aO 0 eC F F F F) ?_))))
  have HR:=fun(w1:World) (hI:Inv w [oI z6 72 b.r.e[j].cl,ak ob oc 72 5 (aT (a.r.e++(b.r.e.take j).map (cK a.r.e.length))),oI z3 63 [(.bool false),(.bool false),(.bool false),nS],oI z2 63 b.bU,oI z1 63 a.bU] w1)=>(haveI:=dp hI;qJ w1 b.r.e[j].op n3 (by omega))
  refine aj F (aI vH (aE HR) F ?_)
  clear HR
  rintro vr O' ⟨N,rfl,rfl,rfl⟩
  refine ad (ar (bo F F) (decide_eq_false (by omega))) (ae (aL F (aq ?_)))
  refine cu (O':=[oI z6 72 (cK a.r.e.length b.r.e[j]).cl,ak ob oc 72 5 (aT (a.r.e++(b.r.e.take j).map (cK a.r.e.length))),oI z3 63 [(.bool false),(.bool false),(.bool false),nS],oI z2 63 b.bU,oI z1 63 a.bU]) (by first|(rw[CM n3 K9 (by omega)];exact Sub.rf)|(rw[CL n3 K9 (by omega) (by omega)];exact Sub.rf)|(rw[CK n3 K9 (by omega)];exact Sub.rf)) ?_
  refine aH (ah F (ad (cN 0 bK F bQ F F F) (aj F (bH (m:=1) (parts:=[(0,_)]) (cs:=(cK a.r.e.length b.r.e[j]).cl) cp bQ (by decide) (by kernel_rfl) F (fun sM=>?_)))))
  refine aj F (bX 2 cp cp bQ F F F F (by rw[bF]) (by decide) (Src.row (j:=0) F (by simp)) (by simp[dD]) (by simp only[List.length_append,List.length_map,List.length_take];omega) (by decide) (by decide) (fun uy vq=>?_))
  refine TO.qa F (ae (aH (ah F (ad (cj (a:=j) (b:=1) F F (by omega)) (TO.qa F (ae ?_))))))
  exact⟨j+1,by omega,[ak uy vq 72 5 ((aT (a.r.e++(b.r.e.take j).map (cK a.r.e.length)))++(cK a.r.e.length b.r.e[j]).cl),oI z3 63 [(.bool false),(.bool false),(.bool false),nS],oI z2 63 b.bU,oI z1 63 a.bU],(by exact Sub.d (.d (.k (.k (.k (.k .z)))))),uy,vq,by rw[eo kV,←List.append_assoc,gg ((a.r.e++(b.r.e.take j).map (cK a.r.e.length)))];rfl,by omega,⟨F,F,F,F,F,F,(congrArg (fun n9=>Value.slice uy n9 vq) (show((a.r.e++(b.r.e.take j).map (cK a.r.e.length)).length)+1=((a.r.e++(b.r.e.take (j+1)).map (cK a.r.e.length))).length by rw[eo kV];simp only[List.length_append,List.length_cons,List.length_nil]<;>omega)),F,trivial⟩⟩
 have Ms: ¬j<b.r.e.length:=by omega
 have Gn:j=b.r.e.length:=by omega
 have MQ:(a.r.e++(b.r.e.take j).map (cK a.r.e.length))=a.r.e++b.r.e.map (cK a.r.e.length):=by rw[Gn,List.take_length]
 have hlB:(a.r.e++(b.r.e.take j).map (cK a.r.e.length)).length=a.r.e.length+b.r.e.length:=by rw[MQ];simp
 refine bn ?_
 refine ax (ai (ad (aJ dY F eT F F) (ad (aO 2 cp F F F F) (ad (bL cp F) (ad (bo F F) (ae (aw F (fun hc=>?_) (fun hc=>?_))))))))
 ·have YG:b.r.e.length=0:=by omega
  have An:b.r.e.length=0:=by omega
  refine ai (ah F (ah F (ad (aJ dY F eT F F) (ad (aO 3 cp F F F F) (ad (bL cp F) (ad (gI (a:=a.r.e.length) (b:=1) F F (by omega) (by omega)) (ad (bE (cs:=[.int .u8 ((op:Nat):Int),(.int .u8 0),(.int .u8 0),vI ((a.r.e.length-1:Nat):Int),(vI 0)]) iy bQ (by kernel_rfl)) (aj F (bH (m:=1) (parts:=[(0,_)]) (cs:=[.int .u8 ((op:Nat):Int),(.int .u8 0),(.int .u8 0),vI ((a.r.e.length-1:Nat):Int),(vI 0)]) cp bQ (by decide) (by kernel_rfl) F (fun Rh=>?_))))))))))
  refine aj F (bX 1 cp cp bQ F F F F (by rw[bF]) (by decide) (Src.row (j:=0) F (by simp)) (by simp[dD]) (by simp only[List.length_append,List.length_map,List.length_take];omega) (by decide) (by decide) (fun O7 CP=>?_))
  refine ad (bE (cs:=[(.bool false),(.bool false),(.bool false),(.slice O7 (((a.r.e++(b.r.e.take j).map (cK a.r.e.length)).length)+1) CP)]) nJ cm (by kernel_rfl)) (aj F (bj (vs:=[(.bool false),(.bool false),(.bool false),(.slice O7 (((a.r.e++(b.r.e.take j).map (cK a.r.e.length)).length)+1) CP)]) 2 cm F F F F ?_))
  refine ae (az (ao ?_))
  refine bf (i:=2) Tryz.results63 dY F cm F F F ?_
  have Hh:jJ op a.r.e b.r.e=a.r.e++b.r.e.map (cK a.r.e.length)++[⟨op,0,0,(a.r.e.length:Int)-1,0⟩]:=by unfold jJ;rw[if_pos An]
  exact⟨[ak O7 CP 72 5 ((aT (a.r.e++(b.r.e.take j).map (cK a.r.e.length)))++[.int .u8 ((op:Nat):Int),(.int .u8 0),(.int .u8 0),vI ((a.r.e.length-1:Nat):Int),(vI 0)])],(by exact Sub.d (.k .z)),[⟨O7,CP,jJ op a.r.e b.r.e⟩],⟨0,⟨O7,CP,jJ op a.r.e b.r.e⟩⟩,congrArg (fun n9=>Value.agg #[.bool false,.bool false,.bool false,.slice O7 n9 CP]) (show((a.r.e++(b.r.e.take j).map (cK a.r.e.length)).length)+1=(jJ op a.r.e b.r.e).length by rw[pJ];simp;omega),congrArg (fun z=>[ak O7 CP 72 5 z]) (show(aT (a.r.e++(b.r.e.take j).map (cK a.r.e.length)))++[.int .u8 ((op:Nat):Int),(.int .u8 0),(.int .u8 0),vI ((a.r.e.length-1:Nat):Int),(vI 0)]=aT (jJ op a.r.e b.r.e) by rw[Hh,MQ,gg];first|(simp[aT,dE.cells];done)|(simp[aT,dE.cells];omega)),(if_neg (fun h=>h.elim (fun h=>h.elim qg O6) Nd)).symm,.inl (.inl (List.mem_singleton.2 F))⟩
 have YH: ¬b.r.e.length=0:=by omega
 have An: ¬b.r.e.length=0:=by omega
 refine aq (ai (ah F (ah F (ad (aJ dY F eT F F) (ad (aO 3 cp F F F F) (ad (bL cp F) (ad (gI (a:=a.r.e.length) (b:=1) F F (by omega) (by omega)) (ah F (ad (bL cp F) (ad (gI (a:=((a.r.e++(b.r.e.take j).map (cK a.r.e.length)).length)) (b:=1) F F (by omega) (by omega)) (ad (bE (cs:=[.int .u8 ((op:Nat):Int),(.int .u8 0),(.int .u8 0),vI ((a.r.e.length-1:Nat):Int),vI ((((a.r.e++(b.r.e.take j).map (cK a.r.e.length)).length)-1:Nat):Int)]) iy bQ (by kernel_rfl)) (aj F (bH (m:=1) (parts:=[(0,_)]) (cs:=[.int .u8 ((op:Nat):Int),(.int .u8 0),(.int .u8 0),vI ((a.r.e.length-1:Nat):Int),vI ((((a.r.e++(b.r.e.take j).map (cK a.r.e.length)).length)-1:Nat):Int)]) cp bQ (by decide) (by kernel_rfl) F (fun z19=>?_))))))))))))))
 refine aj F (bX 1 cp cp bQ F F F F (by rw[bF]) (by decide) (Src.row (j:=0) F (by simp)) (by simp[dD]) (by simp only[List.length_append,List.length_map,List.length_take];omega) (by decide) (by decide) (fun z20 CQ=>?_))
 refine ad (bE (cs:=[(.bool false),(.bool false),(.bool false),(.slice z20 (((a.r.e++(b.r.e.take j).map (cK a.r.e.length)).length)+1) CQ)]) nJ cm (by kernel_rfl)) (aj F (bj (vs:=[(.bool false),(.bool false),(.bool false),(.slice z20 (((a.r.e++(b.r.e.take j).map (cK a.r.e.length)).length)+1) CQ)]) 2 cm F F F F ?_))
 refine ae (az (ao ?_))
 refine bf (i:=2) Tryz.results63 dY F cm F F F ?_
 have Hh:jJ op a.r.e b.r.e=a.r.e++b.r.e.map (cK a.r.e.length)++[⟨op,0,0,(a.r.e.length:Int)-1,((a.r.e.length+b.r.e.length:Nat):Int)-1⟩]:=by unfold jJ;rw[if_neg An]
 exact⟨[ak z20 CQ 72 5 ((aT (a.r.e++(b.r.e.take j).map (cK a.r.e.length)))++[.int .u8 ((op:Nat):Int),(.int .u8 0),(.int .u8 0),vI ((a.r.e.length-1:Nat):Int),vI ((((a.r.e++(b.r.e.take j).map (cK a.r.e.length)).length)-1:Nat):Int)])],(by exact Sub.d (.k .z)),[⟨z20,CQ,jJ op a.r.e b.r.e⟩],⟨0,⟨z20,CQ,jJ op a.r.e b.r.e⟩⟩,congrArg (fun n9=>Value.agg #[.bool false,.bool false,.bool false,.slice z20 n9 CQ]) (show((a.r.e++(b.r.e.take j).map (cK a.r.e.length)).length)+1=(jJ op a.r.e b.r.e).length by rw[pJ];simp;omega),congrArg (fun z=>[ak z20 CQ 72 5 z]) (show(aT (a.r.e++(b.r.e.take j).map (cK a.r.e.length)))++[.int .u8 ((op:Nat):Int),(.int .u8 0),(.int .u8 0),vI ((a.r.e.length-1:Nat):Int),vI ((((a.r.e++(b.r.e.take j).map (cK a.r.e.length)).length)-1:Nat):Int)]=aT (jJ op a.r.e b.r.e) by rw[Hh,MQ,gg];first|(simp[aT,dE.cells];done)|(simp[aT,dE.cells];omega)),(if_neg (fun h=>h.elim (fun h=>h.elim qg O6) Nd)).symm,.inl (.inl (List.mem_singleton.2 F))⟩
theorem kD {a b:PR} (h: ¬a.k=1) (h9: ¬b.k=1) (qg: ¬a.k=3) (HS: ¬b.k=3) (mU:dv a.pp) (qE:dv b.pp) (hc:a.r.e=b.r.e):qC a.pp b.pp=a.pp:=gZ h (.inr ⟨qg,hc⟩)
theorem AV {a b:PR} (ha:jh a.pp) (hb:jh b.pp) (h:a.k=1∨b.k=1):oK a.pp b.pp=J4:=h.elim (vP ha) (AS ha hb)
theorem O8 (w:World) [cG Tryz.prog w] (a b:PR) (ha:Sl w a.r.b (aT a.r.e)) (mU:dv a.pp) (hb:Sl w b.r.b (aT b.r.e)) (qE:dv b.pp):
  bs Tryz.prog 37 [a.w6,b.w6] w (J9 72 [a,b] (qC a.pp b.pp)):=by
 refine av func37 F ntmps37 F ?_
 refine ai (aj F (cL (cs:=a.bU) F F (fun z1=>?_)))
 refine aj F (cL (cs:=b.bU) F F (fun z2=>?_))
 refine aj F (aR cm F (fun z3=>?_))
 refine ae (ax (ai (ad (aJ dY F dc F F) (ad (aO 2 oe F F F F) (ae (aw F (fun hc=>?_) (fun hc=>?_)))))))
 ·refine ax ?_
  refine aH (ad (cN 1 dY F cm F F F) (aj F (bj (vs:=b.bU) 0 cm F F F F ?_)))
  refine ae (az (ao ?_))
  refine bf (i:=0) Tryz.results37 dY F cm F F F ?_
  exact⟨[],Sub.z,[],b,F,F,Eq.symm (by first|exact iA ‹_›|exact gZ ‹_› (by first|exact .inl h9|exact .inr ⟨qg,hc⟩)|exact(kD ‹_› h9 qg HS mU qE ‹_›)|exact rY DR Ae h6 ‹_›|exact iB (by omega)),.inr ⟨b,by simp,F⟩⟩
 refine aq (ax (ai (ad (aJ dY F dc F F) ?_)))
 by_cases h9:b.k=1
 ·refine ad (ar (aO 1 oe F F F F) (decide_eq_true h9)) ?_
  refine ah F (ay F F (ay F F (ay F F (ay F F (ay F F (ay F F (ay F F ?_)))))))
  refine ay F F (ay F F (ay F F (ay F F (ay F F (ay F F (ay F F (ay F F ?_)))))))
  refine ad (bt F F) (ae ?_)
  refine bg F ?_
  refine ai (ad (cN 2 dY F cm F F F) (aj F (bj (vs:=a.bU) 0 cm F F F F ?_)))
  refine ae (az (ao ?_))
  refine bf (i:=0) Tryz.results37 dY F cm F F F ?_
  exact⟨[],Sub.z,[],a,F,F,Eq.symm (by first|exact iA ‹_›|exact gZ ‹_› (by first|exact .inl h9|exact .inr ⟨qg,hc⟩)|exact(kD ‹_› h9 qg HS mU qE ‹_›)|exact rY DR Ae h6 ‹_›|exact iB (by omega)),.inr ⟨a,by simp,F⟩⟩
 refine ad (ar (aO 1 oe F F F F) (decide_eq_false h9)) (ah F (ap F F (aJ dY F dc F F) ?_))
 by_cases qg:a.k=3
 ·refine ap F F (ar (aO 2 oe F F F F) (decide_eq_true qg)) ?_
  refine ap F F (f_ F) (ap F F (aF F) (ay F F (ay F F (ay F F (ap F F (aZ F F) (ap F F (aF F) (ay F F ?_)))))))
  refine ay F F (ay F F (ay F F (ay F F (ap F F (aZ F F) (ad (aZ F F) (ae (aL F ?_)))))))
  refine aq (ai (ad (cN 2 dY F cm F F F) (ad (cN 1 dY F cm F F F) ?_)))
  let gn:List Lx.Item:=[oI z3 63 [(.bool false),(.bool false),(.bool false),nS],oI z2 63 b.bU,oI z1 63 a.bU]
  have na:=fun(w1:World) (hI:Inv w gn w1)=>(haveI:=dp hI;AU w1 5 a b (hI.sl ha) (hI.sl hb) (fun h=>mU.pos h) qE.pc mU.len qE.len)
  refine aj F (aI AW (aE na) F ?_)
  clear na
  rintro vr O' ⟨N,rfl,qs,c,rfl,rfl,pI,rj⟩
  refine bM (O':=(gn++(aY 72 qs))) (by exact dm [] _ (aY 72 qs)) ?_
  refine aj F (bj (vs:=c.bU) 0 cm F F F F ?_)
  refine ae (az (ao ?_))
  refine bf (i:=0) Tryz.results37 dY F cm F F F ?_
  exact⟨aY 72 qs,(by exact Sub.d (.d (.d .rf))),qs,c,F,F,pI.trans ((pK qE).trans (nE ‹_› (by first|(intro h;rcases h with h|⟨h,h2⟩;exact h9 h;first|exact h qg|exact hc h2|exact mU.ne (show¬a.k=3 from qg) (show a.r.e=[] by rw[h2];exact qE.nil HS)))).symm),rj.elim .inl (fun h=>absurd h (by simp))⟩
 refine ap F F (ar (aO 2 oe F F F F) (decide_eq_false qg)) (ap F F (f_ F) (ap F F (aF F) (ap F F (aJ dY F dc F F) ?_)))
 by_cases HS:b.k=3
 ·refine ap F F (ar (aO 1 oe F F F F) (decide_eq_true HS)) ?_
  refine ap F F (f_ F) (ap F F (bt F F) (ap F F (aF F) (ay F F (ay F F (ay F F (ay F F (ay F F ?_)))))))
  refine ap F F (aZ F F) (ad (aZ F F) (ae (aL F (aq (ai (ad (cN 2 dY F cm F F F) (ad (cN 1 dY F cm F F F) ?_)))))))
  let gN:List Lx.Item:=[oI z3 63 [(.bool false),(.bool false),(.bool false),nS],oI z2 63 b.bU,oI z1 63 a.bU]
  have na:=fun(w1:World) (hI:Inv w gN w1)=>(haveI:=dp hI;AU w1 5 a b (hI.sl ha) (hI.sl hb) (fun h=>mU.pos h) qE.pc mU.len qE.len)
  refine aj F (aI AW (aE na) F ?_)
  clear na
  rintro vr O' ⟨N,rfl,qs,c,rfl,rfl,pI,rj⟩
  refine bM (O':=(gN++(aY 72 qs))) (by exact dm [] _ (aY 72 qs)) ?_
  refine aj F (bj (vs:=c.bU) 0 cm F F F F ?_)
  refine ae (az (ao ?_))
  refine bf (i:=0) Tryz.results37 dY F cm F F F ?_
  exact⟨aY 72 qs,(by exact Sub.d (.d (.d .rf))),qs,c,F,F,pI.trans ((pK qE).trans (nE ‹_› (by first|(intro h;rcases h with h|⟨h,h2⟩;exact h9 h;first|exact h qg|exact hc h2|exact mU.ne (show¬a.k=3 from qg) (show a.r.e=[] by rw[h2];exact qE.nil HS)))).symm),rj.elim .inl (fun h=>absurd h (by simp))⟩
 refine ap F F (ar (aO 1 oe F F F F) (decide_eq_false HS)) (ap F F (f_ F) (ap F F (bt F F) (ap F F (aF F) (ap F F (aJ dY F eT F F) (ap F F (aO 2 cp F F F F) (ap F F (aJ dY F eT F F) (ap F F (aO 1 cp F F F F) ?_)))))))
 let kn:List Lx.Item:=[oI z3 63 [(.bool false),(.bool false),(.bool false),nS],oI z2 63 b.bU,oI z1 63 a.bU]
 have oW:=fun(w1:World) (hI:Inv w kn w1)=>(haveI:=dp hI;yK w1 a.r.b b.r.b a.r.c b.r.c a.r.e b.r.e (hI.sl ha) (hI.sl hb) (by have:=mU.len;have:a.r.e.length≤64:=this;omega))
 refine fL F F F (aI HM (aE oW) F ?_)
 clear oW
 rintro vr O' ⟨N,rfl,rfl,rfl⟩
 refine ap F F (bt F F) (ad (aZ F F) (ae (aw F (fun hc=>?_) (fun hc=>?_))))
 ·refine ax ?_
  refine aH (ad (cN 2 dY F cm F F F) (aj F (bj (vs:=a.bU) 0 cm F F F F ?_)))
  refine ae (az (ao ?_))
  refine bf (i:=0) Tryz.results37 dY F cm F F F ?_
  exact⟨[],Sub.z,[],a,F,F,Eq.symm (by first|exact iA ‹_›|exact gZ ‹_› (by first|exact .inl h9|exact .inr ⟨qg,hc⟩)|exact(kD ‹_› h9 qg HS mU qE ‹_›)|exact rY DR Ae h6 ‹_›|exact iB (by omega)),.inr ⟨a,by simp,F⟩⟩
 refine aq (ai (ad (cN 2 dY F cm F F F) (ad (cN 1 dY F cm F F F) ?_)))
 have na:=fun(w1:World) (hI:Inv w kn w1)=>(haveI:=dp hI;AU w1 5 a b (hI.sl ha) (hI.sl hb) (fun h=>mU.pos h) qE.pc mU.len qE.len)
 refine aj F (aI AW (aE na) F ?_)
 clear na
 rintro vr O' ⟨N,rfl,qs,c,rfl,rfl,pI,rj⟩
 refine bM (O':=(kn++(aY 72 qs))) (by exact dm [] _ (aY 72 qs)) ?_
 refine aj F (bj (vs:=c.bU) 0 cm F F F F ?_)
 refine ae (az (ao ?_))
 refine bf (i:=0) Tryz.results37 dY F cm F F F ?_
 exact⟨aY 72 qs,(by exact Sub.d (.d (.d .rf))),qs,c,F,F,pI.trans ((pK qE).trans (nE ‹_› (by first|(intro h;rcases h with h|⟨h,h2⟩;exact h9 h;first|exact h qg|exact hc h2|exact mU.ne (show¬a.k=3 from qg) (show a.r.e=[] by rw[h2];exact qE.nil HS)))).symm),rj.elim .inl (fun h=>absurd h (by simp))⟩
theorem Tb (w:World) [cG Tryz.prog w] (a b:PR) (ha:Sl w a.r.b (aT a.r.e)) (mU:dv a.pp) (hb:Sl w b.r.b (aT b.r.e)) (qE:dv b.pp) (DR:jh a.pp) (Ae:jh b.pp):
  bs Tryz.prog 64 [a.w6,b.w6] w (J9 72 [a,b] (oK a.pp b.pp)):=by
 refine av func64 F ntmps64 F ?_
 refine ai (aj F (cL (cs:=a.bU) F F (fun z1=>?_)))
 refine aj F (cL (cs:=b.bU) F F (fun z2=>?_))
 refine aj F (aR cm F (fun z3=>?_))
 refine ae (ax (ai (ad (aJ dY F dc F F) ?_)))
 by_cases h6:a.k=1
 ·refine ad (ar (aO 2 oe F F F F) (decide_eq_true h6)) ?_
  refine ah F (ay F F (ay F F (ad (bt F F) (ae ?_))))
  refine bg F ?_
  refine ai ?_
  let kO:List Lx.Item:=[oI z3 63 [(.bool false),(.bool false),(.bool false),nS],oI z2 63 b.bU,oI z1 63 a.bU]
  have ly:=fun(w1:World) (hI:Inv w kO w1)=>(haveI:=dp hI;D6 w1)
  refine aj F (aI D7 (aE ly) F ?_)
  clear ly
  rintro vr O' ⟨N,rfl,qs,c,rfl,rfl,pI,rj⟩
  refine bM (O':=(kO++(aY 72 qs))) (by exact dm [] _ (aY 72 qs)) ?_
  refine aj F (bj (vs:=c.bU) 0 cm F F F F ?_)
  refine ae (az (ao ?_))
  refine bf (i:=0) Tryz.results64 dY F cm F F F ?_
  exact⟨aY 72 qs,(by exact Sub.d (.d (.d .rf))),qs,c,F,F,pI.trans ((AV DR Ae (by omega)).symm),rj.elim .inl (fun h=>absurd h (by simp))⟩
 refine ad (ar (aO 2 oe F F F F) (decide_eq_false h6)) (ah F (ap F F (aJ dY F dc F F) ?_))
 by_cases h9:b.k=1
 ·refine ap F F (ar (aO 1 oe F F F F) (decide_eq_true h9)) ?_
  refine ad (aZ F F) (ae ?_)
  refine bg F ?_
  refine ai ?_
  let kP:List Lx.Item:=[oI z3 63 [(.bool false),(.bool false),(.bool false),nS],oI z2 63 b.bU,oI z1 63 a.bU]
  have ly:=fun(w1:World) (hI:Inv w kP w1)=>(haveI:=dp hI;D6 w1)
  refine aj F (aI D7 (aE ly) F ?_)
  clear ly
  rintro vr O' ⟨N,rfl,qs,c,rfl,rfl,pI,rj⟩
  refine bM (O':=(kP++(aY 72 qs))) (by exact dm [] _ (aY 72 qs)) ?_
  refine aj F (bj (vs:=c.bU) 0 cm F F F F ?_)
  refine ae (az (ao ?_))
  refine bf (i:=0) Tryz.results64 dY F cm F F F ?_
  exact⟨aY 72 qs,(by exact Sub.d (.d (.d .rf))),qs,c,F,F,pI.trans ((AV DR Ae (by omega)).symm),rj.elim .inl (fun h=>absurd h (by simp))⟩
 refine ap F F (ar (aO 1 oe F F F F) (decide_eq_false h9)) (ad (aZ F F) (ae (aL F (aq (ax (ai (ad (aJ dY F dc F F) (ad (aO 2 oe F F F F) (ae (aw F (fun hc=>?_) (fun hc=>?_)))))))))))
 ·refine ax ?_
  refine aH (ad (cN 1 dY F cm F F F) (aj F (bj (vs:=b.bU) 0 cm F F F F ?_)))
  refine ae (az (ao ?_))
  refine bf (i:=0) Tryz.results64 dY F cm F F F ?_
  exact⟨[],Sub.z,[],b,F,F,Eq.symm (by first|exact iA ‹_›|exact gZ ‹_› (by first|exact .inl h9|exact .inr ⟨qg,hc⟩)|exact(kD ‹_› h9 qg HS mU qE ‹_›)|exact rY DR Ae h6 ‹_›|exact iB (by omega)),.inr ⟨b,by simp,F⟩⟩
 refine aq (ax (ai (ad (aJ dY F dc F F) (ad (aO 1 oe F F F F) (ae (aw F (fun hc=>?_) (fun hc=>?_)))))))
 ·refine ax ?_
  refine aH (ad (cN 2 dY F cm F F F) (aj F (bj (vs:=a.bU) 0 cm F F F F ?_)))
  refine ae (az (ao ?_))
  refine bf (i:=0) Tryz.results64 dY F cm F F F ?_
  exact⟨[],Sub.z,[],a,F,F,Eq.symm (by first|exact iA ‹_›|exact gZ ‹_› (by first|exact .inl h9|exact .inr ⟨qg,hc⟩)|exact(kD ‹_› h9 qg HS mU qE ‹_›)|exact rY DR Ae h6 ‹_›|exact iB (by omega)),.inr ⟨a,by simp,F⟩⟩
 refine aq (ai (ad (cN 2 dY F cm F F F) (ad (cN 1 dY F cm F F F) ?_)))
 let um:List Lx.Item:=[oI z3 63 [(.bool false),(.bool false),(.bool false),nS],oI z2 63 b.bU,oI z1 63 a.bU]
 have lJ:=fun(w1:World) (hI:Inv w um w1)=>(haveI:=dp hI;AU w1 4 a b (hI.sl ha) (hI.sl hb) (fun h=>mU.pos h) qE.pc mU.len qE.len)
 refine aj F (aI AW (aE lJ) F ?_)
 clear lJ
 rintro vr O' ⟨N,rfl,qs,c,rfl,rfl,pI,rj⟩
 refine bM (O':=(um++(aY 72 qs))) (by exact dm [] _ (aY 72 qs)) ?_
 refine aj F (bj (vs:=c.bU) 0 cm F F F F ?_)
 refine ae (az (ao ?_))
 refine bf (i:=0) Tryz.results64 dY F cm F F F ?_
 exact⟨aY 72 qs,(by exact Sub.d (.d (.d .rf))),qs,c,F,F,pI.trans ((pK qE).trans (vu (by omega) (by omega)).symm),rj.elim .inl (fun h=>absurd h (by simp))⟩
theorem Tc (w:World) [cG Tryz.prog w] (a:PR) (ha:Sl w a.r.b (aT a.r.e)) (mU:dv a.pp):
  bs Tryz.prog 65 [a.w6] w (J9 72 [a] (rF a.pp)):=by
 refine av func65 F ntmps65 F ?_
 refine ai (aj F (cL (cs:=a.bU) F F (fun z1=>?_)))
 refine aj F (aR cm F (fun z2=>?_))
 refine ae (ax (ai (ad (aJ dY F dc F F) ?_)))
 by_cases h4:a.k=1
 ·refine ad (ar (aO 1 oe F F F F) (decide_eq_true h4)) ?_
  refine ah F (ay F F (ay F F (ad (bt F F) (ae ?_))))
  refine bg F ?_
  refine ai ?_
  let xP:List Lx.Item:=[oI z2 63 [(.bool false),(.bool false),(.bool false),nS],oI z1 63 a.bU]
  have nF:=fun(w1:World) (hI:Inv w xP w1)=>(haveI:=dp hI;HP w1)
  refine aj F (aI HT (aE nF) F ?_)
  clear nF
  rintro vr O' ⟨N,rfl,qs,c,rfl,rfl,pI,rj⟩
  refine bM (O':=(xP++(aY 72 qs))) (by exact dm [] _ (aY 72 qs)) ?_
  refine aj F (bj (vs:=c.bU) 0 cm F F F F ?_)
  refine ae (az (ao ?_))
  refine bf (i:=0) Tryz.results65 dY F cm F F F ?_
  exact⟨aY 72 qs,(by exact Sub.d (.d .rf)),qs,c,F,F,pI.trans ((pH (a:=a) (by omega)).symm),rj.elim .inl (fun h=>absurd h (by simp))⟩
 refine ad (ar (aO 1 oe F F F F) (decide_eq_false h4)) (ah F (ap F F (aJ dY F dc F F) ?_))
 by_cases h7:a.k=2
 ·refine ap F F (ar (aO 1 oe F F F F) (decide_eq_true h7)) ?_
  refine ad (aZ F F) (ae ?_)
  refine bg F ?_
  refine ai ?_
  let wP:List Lx.Item:=[oI z2 63 [(.bool false),(.bool false),(.bool false),nS],oI z1 63 a.bU]
  have nF:=fun(w1:World) (hI:Inv w wP w1)=>(haveI:=dp hI;HP w1)
  refine aj F (aI HT (aE nF) F ?_)
  clear nF
  rintro vr O' ⟨N,rfl,qs,c,rfl,rfl,pI,rj⟩
  refine bM (O':=(wP++(aY 72 qs))) (by exact dm [] _ (aY 72 qs)) ?_
  refine aj F (bj (vs:=c.bU) 0 cm F F F F ?_)
  refine ae (az (ao ?_))
  refine bf (i:=0) Tryz.results65 dY F cm F F F ?_
  exact⟨aY 72 qs,(by exact Sub.d (.d .rf)),qs,c,F,F,pI.trans ((pH (a:=a) (by omega)).symm),rj.elim .inl (fun h=>absurd h (by simp))⟩
 refine ap F F (ar (aO 1 oe F F F F) (decide_eq_false h7)) (ad (aZ F F) (ae (aL F (aq (ai (ad (cN 1 dY F cm F F F) (ad (bE nJ cm F) ?_)))))))
 let pZ:List Lx.Item:=[oI z2 63 [(.bool false),(.bool false),(.bool false),nS],oI z1 63 a.bU]
 have vQ:=fun(w1:World) (hI:Inv w pZ w1)=>(haveI:=dp hI;AU w1 8 a ⟨0,⟨none,0,[]⟩⟩ (hI.sl ha) (Sl.nil _ none) (fun h=>mU.pos h) (fun x hx=>by cases hx) mU.len (by decide))
 refine aj F (aI AW (aE vQ) F ?_)
 clear vQ
 rintro vr O' ⟨N,rfl,qs,c,rfl,rfl,pI,rj⟩
 refine bM (O':=(pZ++(aY 72 qs))) (by exact dm [] _ (aY 72 qs)) ?_
 refine aj F (bj (vs:=c.bU) 0 cm F F F F ?_)
 refine ae (az (ao ?_))
 refine bf (i:=0) Tryz.results65 dY F cm F F F ?_
 exact⟨aY 72 qs,(by exact Sub.d (.d .rf)),qs,c,F,F,pI.trans (FG.trans (xL (a:=a) (by omega)).symm),rj.elim .inl (fun h=>absurd h (by simp))⟩
end Go.Proofs.YtgdbfideeeegmaaGreatDoor

namespace Go.Proofs.YtgdbfideeeegmaaGreatDoor
open Go.Lx Go.RowKit _root_.Go.Proofs.Tryz
theorem Td (w:World) [cG Tryz.prog w] (M:bY) (k:DK) (h:At w M k) (mY:Valid M) (m s t:Nat) (hm:m<M.next.length) (hs:s<M.next.length) (ht:t<M.next.length) (hP: ∀(w1:World) [cG Tryz.prog w1] (h1:At w1 M k) (s t:Nat),s<M.next.length→t<M.next.length→bs Tryz.prog 38 [(dV M k),vN s,vN t,vN m] w1 (J9 72 [] (fU M m s t))):
  bs Tryz.prog 38 [(dV M k),vN s,vN t,vN (m+1)] w (J9 72 [] (fU M (m+1) s t)):=by
 refine av func38 F ntmps38 F ?_
 have MU:=mY.n4
 have GZ:=mY.n0
 have hL:cJ M≤64:=Nat.pow_le_pow_right (by decide) (show M.vars.toNat≤6 by have:=mY.v6;have:=mY.v0;omega)
 have w3:cJ M≤256:=by omega
 refine ai (aj F (cL (cs:=(dC M k)) F F (fun z1=>?_)))
 refine aj F (aR cm F (fun z2=>?_))
 refine ae (ax (ai (ah F (ad (ar (fw F F) (decide_eq_true (by omega))) (ae ?_)))))
 refine bg F ?_
 refine ai (ad (cN 1 cy F aX F F F) (ah F (ah F (ah F (ad (a8 (gI (a:=(m+1)) (b:=1) F F (by omega) (by omega)) (v':=vN m) F) ?_)))))
 let gz:Lx.Item:=oI z2 63 [(.bool false),(.bool false),(.bool false),nS]
 let gN:Lx.Item:=oI z1 25 (dC M k)
 have AX:=fun(w1:World) (hI:Inv w [gz,gN] w1)=>(haveI:=dp hI;hP w1 (hI.oH h) s t hs ht)
 refine aj F (aI AY (aE AX) F ?_)
 clear AX
 rintro vr O' ⟨N,rfl,q1,c1,rfl,rfl,rL,l6⟩
 have lG:dn q1 c1.r:=l6.elim id (fun h=>absurd h (by simp))
 have KK:dv c1.pp:=by rw[rL];exact eH w3 _ _ _
 have aak:jh c1.pp:=by rw[rL];exact fO _ _ _ _
 refine bM (O':=([gz,gN]++(aY 72 q1))) (by exact dm [] _ (aY 72 q1)) ?_
 refine aj F (aR cm F (fun z3=>?_))
 refine aj F (bj (vs:=c1.bU) 0 cm F F F F ?_)
 refine ae (ai (ad (cN 2 cy F aX F F F) (ah F (ah F (ad (a8 (gI (a:=(m+1)) (b:=1) F F (by omega) (by omega)) (v':=vN m) F) (ah F (ad (a8 (gI (a:=(m+1)) (b:=1) F F (by omega) (by omega)) (v':=vN m) F) ?_)))))))
 have oU:=fun(w1:World) (hI:Inv w ([oI z3 63 c1.bU,gz,gN]++(aY 72 q1)) w1)=>(haveI:=dp hI;hP w1 (hI.oH h) s m hs hm)
 refine aj F (aI AY (aE oU) F ?_)
 clear oU
 rintro vr O' ⟨N,rfl,q2,c2,rfl,rfl,n_,l6⟩
 have rM:dn (q2++q1) c2.r:=jE l6 (fun x hx=>by simp only[List.mem_cons,List.not_mem_nil,or_false]at hx)
 have lG:=lG.mono (fun y hy=>List.mem_append_right q2 hy)
 have CF:dv c2.pp:=by rw[n_];exact eH w3 _ _ _
 have Te:jh c2.pp:=by rw[n_];exact fO _ _ _ _
 refine bM (O':=([oI z3 63 c1.bU,gz,gN]++((aY 72 q2)++(aY 72 q1)))) (by exact cQ [] _ (aY 72 q2) (aY 72 q1)) ?_
 refine aj F (aR cm F (fun z4=>?_))
 refine aj F (bj (vs:=c2.bU) 0 cm F F F F ?_)
 let gn:List Lx.Item:=[oI z4 63 c2.bU,oI z3 63 c1.bU,gz,oI z1 25 (dC M k)]
 refine bM (O':=(gn++(aY 72 (q2++q1)))) (by simp only[iw,List.append_assoc];exact Sub.rf) ?_
 refine ae (ax (ai (ad (aJ dY F dc F F) (ad (aO 0 oe F F F F) (ae (aw F (fun hc=>?_) (fun hc=>?_)))))))
 ·have vk:c2.k=1:=by simpa using hc
  refine ai (ad (cN 1 dY F cm F F F) (aj F (bj (vs:=c1.bU) 2 cm F F F F ?_)))
  refine ae (az (ao ?_))
  refine bf (i:=2) Tryz.results38 dY F cm F F F ?_
  exact⟨aY 72 (q2++q1),(by exact Sub.d (.d (.d (.d .rf)))),(q2++q1),c1,F,F,rL.trans (HN (by rw[←n_];exact vk)).symm,.inl lG⟩
 refine aq (ai (ad (cN 3 cy F aX F F F) (ah F (ad (a8 (gI (a:=(m+1)) (b:=1) F F (by omega) (by omega)) (v':=vN m) F) (ah F (ah F (ad (a8 (gI (a:=(m+1)) (b:=1) F F (by omega) (by omega)) (v':=vN m) F) ?_)))))))
 have HU:=fun(w1:World) (hI:Inv w (gn++(aY 72 (q2++q1))) w1)=>(haveI:=dp hI;hP w1 (hI.oH h) m t hm ht)
 refine aj F (aI AY (aE HU) F ?_)
 clear HU
 rintro vr O' ⟨N,rfl,q3,c3,rfl,rfl,Hq,l6⟩
 have qG:dn (q3++(q2++q1)) c3.r:=jE l6 (fun x hx=>by simp only[List.mem_cons,List.not_mem_nil,or_false]at hx)
 have lG:=lG.mono (fun y hy=>List.mem_append_right q3 hy)
 have rM:=rM.mono (fun y hy=>List.mem_append_right q3 hy)
 have KL:dv c3.pp:=by rw[Hq];exact eH w3 _ _ _
 have WY:jh c3.pp:=by rw[Hq];exact fO _ _ _ _
 refine bM (O':=(gn++((aY 72 q3)++(aY 72 (q2++q1))))) (by exact cQ [] _ (aY 72 q3) (aY 72 (q2++q1))) ?_
 refine aj F (aR cm F (fun z5=>?_))
 refine aj F (bj (vs:=c3.bU) 0 cm F F F F ?_)
 let dS:List Lx.Item:=[oI z5 63 c3.bU,oI z4 63 c2.bU,oI z3 63 c1.bU,oI z2 63 [(.bool false),(.bool false),(.bool false),nS],oI z1 25 (dC M k)]
 refine bM (O':=(dS++(aY 72 (q3++(q2++q1))))) (by simp only[iw,List.append_assoc];exact Sub.rf) ?_
 refine ae (ax (ai (ad (aJ dY F dc F F) (ad (aO 0 oe F F F F) (ae (aw F (fun hc=>?_) (fun hc=>?_)))))))
 ·have rK:c3.k=1:=by simpa using hc
  refine ai (ad (cN 2 dY F cm F F F) (aj F (bj (vs:=c1.bU) 3 cm F F F F ?_)))
  refine ae (az (ao ?_))
  refine bf (i:=3) Tryz.results38 dY F cm F F F ?_
  exact⟨aY 72 (q3++(q2++q1)),(by exact Sub.d (.d (.d (.d (.d .rf))))),(q3++(q2++q1)),c1,F,F,rL.trans (HO (by rw[←Hq];exact rK)).symm,.inl lG⟩
 refine aq (ax ?_)
 refine dO [(0,0),(1,0),(2,0),(3,0),(4,0),(5,0),(6,0),(7,0),(8,0),(12,0),(9,1),(10,1),(11,1),(13,1),(14,2),(15,2)] ?_
 refine am F (cN 2 dY F cm F F F) (am F (cN 1 dY F cm F F F) (am F (cN 4 cy F aX F F F) (am F (aF F) (am F (a8 (gI (a:=(m+1)) (b:=1) F F (by omega) (by omega)) (v':=vN m) F) (am F (aF F) (am F (a8 (gI (a:=(m+1)) (b:=1) F F (by omega) (by omega)) (v':=vN m) F) (am F (aF F) (am F (a8 (gI (a:=(m+1)) (b:=1) F F (by omega) (by omega)) (v':=vN m) F) (am F (cN 0 dY F cm F F F) ?_)))))))))
 have AZ:=fun(w1:World) (hI:Inv w (dS++(aY 72 (q3++(q2++q1)))) w1)=>(haveI:=dp hI;hP w1 (hI.oH h) m m hm hm)
 refine bJ F F (aI AY (aE AZ) F ?_)
 clear AZ
 rintro vr O' ⟨N,rfl,q4,c4,rfl,rfl,Sx,l6⟩
 refine⟨gd _ (by exact Sub.rf),?_⟩
 have KM:dn (q4++(q3++(q2++q1))) c4.r:=jE l6 (fun x hx=>by simp only[List.mem_cons,List.not_mem_nil,or_false]at hx)
 have lG:=lG.mono (fun y hy=>List.mem_append_right q4 hy)
 have rM:=rM.mono (fun y hy=>List.mem_append_right q4 hy)
 have qG:=qG.mono (fun y hy=>List.mem_append_right q4 hy)
 have Tf:dv c4.pp:=by rw[Sx];exact eH w3 _ _ _
 have aal:jh c4.pp:=by rw[Sx];exact fO _ _ _ _
 refine de (O':=(dS++((aY 72 q4)++(aY 72 (q3++(q2++q1)))))) (by exact cQ [] _ (aY 72 q4) (aY 72 (q3++(q2++q1)))) ?_
 have A2:=fun(w1:World) (hI:Inv w (dS++((aY 72 q4)++(aY 72 (q3++(q2++q1))))) w1)=>(haveI:=dp hI;Tc w1 c4 (dn.sl (T:=72) hI (eh (fun it di=>(List.mem_append_right _ (List.mem_append_left _ di))) (fun it di=>(List.mem_append_right _ (List.mem_append_right _ (di))))) KM) Tf)
 refine bJ F F (aI Tg (aE A2) F ?_)
 clear A2
 rintro vr O' ⟨N,rfl,q5,c5,rfl,rfl,Ri,l6⟩
 refine⟨gd _ (cW dS dS (aY 72 q4) (aY 72 (q3++(q2++q1))) (by exact Sub.rf)),?_⟩
 have HV:dn (q5++(q4++(q3++(q2++q1)))) c5.r:=jE l6 (fun x hx=>by simp only[List.mem_cons,List.not_mem_nil,or_false]at hx;subst hx;exact KM)
 have lG:=lG.mono (fun y hy=>List.mem_append_right q5 hy)
 have rM:=rM.mono (fun y hy=>List.mem_append_right q5 hy)
 have qG:=qG.mono (fun y hy=>List.mem_append_right q5 hy)
 have K_:dv c5.pp:=by rw[Ri];exact qD Tf
 have Th:jh c5.pp:=by rw[Ri];exact qM
 refine de (O':=(dS++((aY 72 q5)++((aY 72 q4)++(aY 72 (q3++(q2++q1))))))) (by exact cQ [] _ (aY 72 q5) ((aY 72 q4)++(aY 72 (q3++(q2++q1))))) ?_
 have zR:=fun(w1:World) (hI:Inv w (dS++((aY 72 q5)++((aY 72 q4)++(aY 72 (q3++(q2++q1)))))) w1)=>(haveI:=dp hI;Tb w1 c2 c5 (dn.sl (T:=72) hI (eh (fun it di=>(List.mem_append_right _ (List.mem_append_left _ di))) (eh (fun it di=>(List.mem_append_right _ (List.mem_append_right _ (List.mem_append_left _ di)))) (fun it di=>(List.mem_append_right _ (List.mem_append_right _ (List.mem_append_right _ (di))))))) rM) CF (dn.sl (T:=72) hI (eh (fun it di=>(List.mem_append_right _ (List.mem_append_left _ di))) (eh (fun it di=>(List.mem_append_right _ (List.mem_append_right _ (List.mem_append_left _ di)))) (fun it di=>(List.mem_append_right _ (List.mem_append_right _ (List.mem_append_right _ (di))))))) HV) K_ Te Th)
 refine bJ F F (aI Nf (aE zR) F ?_)
 clear zR
 rintro vr O' ⟨N,rfl,q6,c6,rfl,rfl,OG,l6⟩
 refine⟨gd _ ((cW dS dS (aY 72 q4) (aY 72 (q3++(q2++q1))) Sub.rf).trans (cW dS dS (aY 72 q5) ((aY 72 q4)++(aY 72 (q3++(q2++q1)))) (by exact Sub.rf))),?_⟩
 have FC:dn (q6++(q5++(q4++(q3++(q2++q1))))) c6.r:=jE l6 (fun x hx=>by simp only[List.mem_cons,List.not_mem_nil,or_false]at hx;rcases hx with rfl|rfl;exact rM;exact HV)
 have lG:=lG.mono (fun y hy=>List.mem_append_right q6 hy)
 have qG:=qG.mono (fun y hy=>List.mem_append_right q6 hy)
 have Ti:dv c6.pp:=by rw[OG];exact ll CF K_
 have WZ:jh c6.pp:=by rw[OG];exact pL Te Th
 refine de (O':=(dS++((aY 72 q6)++((aY 72 q5)++((aY 72 q4)++(aY 72 (q3++(q2++q1)))))))) (by exact cQ [] _ (aY 72 q6) ((aY 72 q5)++((aY 72 q4)++(aY 72 (q3++(q2++q1)))))) ?_
 have vS:=fun(w1:World) (hI:Inv w (dS++((aY 72 q6)++((aY 72 q5)++((aY 72 q4)++(aY 72 (q3++(q2++q1))))))) w1)=>(haveI:=dp hI;Tb w1 c6 c3 (dn.sl (T:=72) hI (eh (fun it di=>(List.mem_append_right _ (List.mem_append_left _ di))) (eh (fun it di=>(List.mem_append_right _ (List.mem_append_right _ (List.mem_append_left _ di)))) (eh (fun it di=>(List.mem_append_right _ (List.mem_append_right _ (List.mem_append_right _ (List.mem_append_left _ di))))) (fun it di=>(List.mem_append_right _ (List.mem_append_right _ (List.mem_append_right _ (List.mem_append_right _ (di))))))))) FC) Ti (dn.sl (T:=72) hI (eh (fun it di=>(List.mem_append_right _ (List.mem_append_left _ di))) (eh (fun it di=>(List.mem_append_right _ (List.mem_append_right _ (List.mem_append_left _ di)))) (eh (fun it di=>(List.mem_append_right _ (List.mem_append_right _ (List.mem_append_right _ (List.mem_append_left _ di))))) (fun it di=>(List.mem_append_right _ (List.mem_append_right _ (List.mem_append_right _ (List.mem_append_right _ (di))))))))) qG) KL WZ WY)
 refine bJ F F (aI Nf (aE vS) F ?_)
 clear vS
 rintro vr O' ⟨N,rfl,q7,c7,rfl,rfl,YI,l6⟩
 refine⟨gd _ ((cW dS dS (aY 72 q4) (aY 72 (q3++(q2++q1))) Sub.rf).trans ((cW dS dS (aY 72 q5) ((aY 72 q4)++(aY 72 (q3++(q2++q1)))) Sub.rf).trans (cW dS dS (aY 72 q6) ((aY 72 q5)++((aY 72 q4)++(aY 72 (q3++(q2++q1))))) (by exact Sub.rf)))),?_⟩
 have Tj:dn (q7++(q6++(q5++(q4++(q3++(q2++q1)))))) c7.r:=jE l6 (fun x hx=>by simp only[List.mem_cons,List.not_mem_nil,or_false]at hx;rcases hx with rfl|rfl;exact FC;exact qG)
 have lG:=lG.mono (fun y hy=>List.mem_append_right q7 hy)
 have W0:dv c7.pp:=by rw[YI];exact ll Ti KL
 refine de (O':=(dS++((aY 72 q7)++((aY 72 q6)++((aY 72 q5)++((aY 72 q4)++(aY 72 (q3++(q2++q1))))))))) (by exact cQ [] _ (aY 72 q7) ((aY 72 q6)++((aY 72 q5)++((aY 72 q4)++(aY 72 (q3++(q2++q1))))))) ?_
 have Hw:=fun(w1:World) (hI:Inv w (dS++((aY 72 q7)++((aY 72 q6)++((aY 72 q5)++((aY 72 q4)++(aY 72 (q3++(q2++q1)))))))) w1)=>(haveI:=dp hI;O8 w1 c1 c7 (dn.sl (T:=72) hI (eh (fun it di=>(List.mem_append_right _ (List.mem_append_left _ di))) (eh (fun it di=>(List.mem_append_right _ (List.mem_append_right _ (List.mem_append_left _ di)))) (eh (fun it di=>(List.mem_append_right _ (List.mem_append_right _ (List.mem_append_right _ (List.mem_append_left _ di))))) (eh (fun it di=>(List.mem_append_right _ (List.mem_append_right _ (List.mem_append_right _ (List.mem_append_right _ (List.mem_append_left _ di)))))) (fun it di=>(List.mem_append_right _ (List.mem_append_right _ (List.mem_append_right _ (List.mem_append_right _ (List.mem_append_right _ (di))))))))))) lG) KK (dn.sl (T:=72) hI (eh (fun it di=>(List.mem_append_right _ (List.mem_append_left _ di))) (eh (fun it di=>(List.mem_append_right _ (List.mem_append_right _ (List.mem_append_left _ di)))) (eh (fun it di=>(List.mem_append_right _ (List.mem_append_right _ (List.mem_append_right _ (List.mem_append_left _ di))))) (eh (fun it di=>(List.mem_append_right _ (List.mem_append_right _ (List.mem_append_right _ (List.mem_append_right _ (List.mem_append_left _ di)))))) (fun it di=>(List.mem_append_right _ (List.mem_append_right _ (List.mem_append_right _ (List.mem_append_right _ (List.mem_append_right _ (di))))))))))) Tj) W0)
 refine bq F F (aI HW (aE Hw) F ?_)
 clear Hw
 rintro vr O' ⟨N,rfl,q8,c8,rfl,rfl,hc8,l6⟩
 have W1:dn (q8++(q7++(q6++(q5++(q4++(q3++(q2++q1))))))) c8.r:=jE l6 (fun x hx=>by simp only[List.mem_cons,List.not_mem_nil,or_false]at hx;rcases hx with rfl|rfl;exact lG;exact Tj)
 have e9:c8.pp=fU M (m+1) s t:=by rw[hc8,YI,OG,Ri,Sx,Hq,n_,rL];rfl
 refine de (O':=(dS++((aY 72 q8)++((aY 72 q7)++((aY 72 q6)++((aY 72 q5)++((aY 72 q4)++(aY 72 (q3++(q2++q1)))))))))) (by exact cQ [] _ (aY 72 q8) ((aY 72 q7)++((aY 72 q6)++((aY 72 q5)++((aY 72 q4)++(aY 72 (q3++(q2++q1)))))))) ?_
 refine bq F F (bj (vs:=c8.bU) 3 cm F F F F ?_)
 refine de (O':=([oI z5 63 c3.bU,oI z4 63 c2.bU,oI z3 63 c1.bU,oI z2 63 c8.bU,gN]++(aY 72 (q8++(q7++(q6++(q5++(q4++(q3++(q2++q1)))))))))) (by simp only[iw,List.append_assoc];exact Sub.rf) ?_
 refine bu ?_
 refine az (ao ?_)
 refine bf (i:=3) Tryz.results38 dY F cm F F F ?_
 exact⟨aY 72 (q8++(q7++(q6++(q5++(q4++(q3++(q2++q1))))))),(by exact Sub.d (.d (.d (.d (.d .rf))))),(q8++(q7++(q6++(q5++(q4++(q3++(q2++q1))))))),c8,F,F,e9,.inl W1⟩
theorem Tk (w:World) [cG Tryz.prog w] (M:bY) (k:DK) (h:At w M k) (mY:Valid M) (s t:Nat) (hs:s<M.next.length) (ht:t<M.next.length):
  bs Tryz.prog 38 [(dV M k),vN s,vN t,vN 0] w (J9 72 [] (fU M 0 s t)):=by
 refine av func38 F ntmps38 F ?_
 have MU:=mY.n4
 have GZ:=mY.n0
 have hL:cJ M≤64:=Nat.pow_le_pow_right (by decide) (show M.vars.toNat≤6 by have:=mY.v6;have:=mY.v0;omega)
 have w3:cJ M≤256:=by omega
 obtain⟨v1,c1_,g1,s1⟩:=h.rows.get hs
 have yw:M.next[s].length=cJ M:=mY.toVal.len _ (List.getElem_mem hs)
 refine ai (aj F (cL (cs:=(dC M k)) F F (fun z1=>?_)))
 refine aj F (aR cm F (fun z2=>?_))
 refine ae (ax (ai (ah F (ad (ar (fw F F) (decide_eq_false (by decide))) (ae (aL F (aq (ai ?_))))))))
 let kn:Lx.Item:=oI z2 63 [(.bool false),(.bool false),(.bool false),nS]
 let kP:Lx.Item:=oI z1 25 (dC M k)
 have zS:=fun(w1:World) (hI:Inv w [kn,kP] w1)=>(haveI:=dp hI;D6 w1)
 refine aj F (aI D7 (aE zS) F ?_)
 clear zS
 rintro vr O' ⟨N,rfl,q0,c0,rfl,rfl,uh,l6⟩
 have mN:dn q0 c0.r:=l6.elim id (fun h=>absurd h (by simp))
 refine bM (O':=([kn,kP]++(aY 72 q0))) (by exact dm [] _ (aY 72 q0)) ?_
 refine aj F (aR cm F (fun z3=>?_))
 refine aj F (bj (vs:=c0.bU) 0 cm F F F F ?_)
 refine ae ?_
 refine fg (fun ρ O=> ∃(p3:List ER) (pc:PR),Sub ([oI z3 63 pc.bU,kn,kP]++(aY 72 p3)) O∧pc.pp=vv M s t 0∧dn p3 pc.r∧bZ [(0,(dV M k)),(1,vN s),(2,vN t),(3,vN 0),(4,(.pointer (aD z1))),(8,(.pointer (aD z2))),(12,(.pointer (aD z3)))] ρ) ?_ ?_
 ·refine ax ?_
  refine aH (ah F (ah F (ad (bo F F) (ae (aw F (fun hc=>?_) (fun hc=>?_))))))
  ·have YJ:s=t:=by omega
   refine aH ?_
   have Tl:=fun(w1:World) (hI:Inv w ([oI z3 63 c0.bU,kn,kP]++(aY 72 q0)) w1)=>(haveI:=dp hI;HP w1)
   refine aj F (aI HT (aE Tl) F ?_)
   clear Tl
   rintro vr O' ⟨N,rfl,q1,c1,rfl,rfl,rL,l6⟩
   have lG:dn (q1++q0) c1.r:=jE l6 (fun x hx=>by simp only[List.mem_cons,List.not_mem_nil,or_false]at hx)
   refine bM (O':=([oI z3 63 c0.bU,kn,kP]++((aY 72 q1)++(aY 72 q0)))) (by exact cQ [] _ (aY 72 q1) (aY 72 q0)) ?_
   refine aj F (bj (vs:=c1.bU) 0 cm F F F F ?_)
   refine ae ?_
   exact⟨(q1++q0),c1,(by rw[iw];exact Sub.rf),by rw[rL];unfold vv;rw[if_pos (by omega)];rfl,lG,(.of F)⟩
  have YK: ¬s=t:=by omega
  refine aq ?_
  exact⟨q0,c0,(by exact Sub.rf),by rw[uh];unfold vv;rw[if_neg (by omega)];rfl,mN,(.of F)⟩
 rintro ρ O ⟨p3,pc,hS,uj,OE,hH⟩
 obtain⟨eP,rfl⟩:=hH.elim
 clear hH
 refine cu hS ?_
 refine ax (ai (TO.qa F (ae (aC ?_))))
 refine cE (fun(x:Nat) ρ O=> ∃(p4:List ER) (pd:PR),O=([oI z3 63 pd.bU,kn,kP]++(aY 72 p4))∧x≤cJ M∧pd.pp=vv M s t x∧dn p4 pd.r∧bZ [(0,(dV M k)),(1,vN s),(2,vN t),(3,vN 0),(4,(.pointer (aD z1))),(8,(.pointer (aD z2))),(12,(.pointer (aD z3))),(13,vN x)] ρ) (fun x=>cJ M-x) 0 ?_ ?_
 ·exact⟨p3,pc,F,Nat.zero_le _,uj,OE,(.of F)⟩
 rintro x ρ O ⟨p4,pd,rfl,hx,KI,vz,hH⟩
 obtain⟨eP,rfl⟩:=hH.elim
 clear hH
 refine ax (ai (ah F (ad (aJ cy F cU F F) (ad (aO 2 dB F F F F) (ah F (ad (cq (i:=s) dB bP F F (aB h.outer) hs (by rw[h.rows.1];exact hs)) (ad (bS bT F F (aB h.outer) g1) (ad (a8 (bL bT F) (v':=vN (cJ M)) (by rw[yw])) (ad (bI F F) (ae (aw F (fun hc=>?_) (fun hc=>?_))))))))))))
 ·have D8:x<cJ M:=by omega
  refine aq (ax (aC (ai (ad (aJ cy F cU F F) (ad (aO 2 dB F F F F) (ah F (ad (cq (i:=s) dB bP F F (aB h.outer) hs (by rw[h.rows.1];exact hs)) (ad (bS bT F F (aB h.outer) g1) (ah F (ad (cq (i:=x) bT aM F F (aB s1) (by rw[yw];exact D8) (by rw[List.length_map,yw];exact D8)) (ad (bS dh F F (aB s1) (O5 mY.toVal hs D8)) (ah F (ad (bo F F) (ae (aw F (fun hc=>?_) (fun hc=>?_))))))))))))))))
  ·have YL:dJ M s x=t:=by omega
   have oX:dJ M s x=t:=by omega
   refine ai (ad (aJ cy F aM F F) (ad (aO 2 dh F F F F) ?_))
   have Tm:=fun(w1:World) (hI:Inv w ([oI z3 63 pd.bU,kn,kP]++(aY 72 p4)) w1)=>(haveI:=dp hI;uR w1 M.vars mY.v0 mY.v6)
   refine aj F (aI GL (aE Tm) F ?_)
   clear Tm
   rintro vr O' ⟨N,rfl,rfl,rfl⟩
   let kO:List Value:=[.int .u8 3,v8 x,v8 (((cJ M)-1)-x),(vI 0),(vI 0)]
   refine TO.qa F (ae (aH (ad (cN 0 dY F cm F F F) (ah F (ad (ef dh eC F (by first|rfl|exact eZ ⟨by omega,by omega⟩|exact mm (by omega)|exact kj (by omega))) (ah F (ad (gI (a:=(cJ M)) (b:=1) F F (by omega) (by omega)) (ah F (ad (gI (a:=((cJ M)-1)) (b:=x) F F (by omega) (by omega)) (ad (ef dh eC F (by first|rfl|exact eZ ⟨by omega,by omega⟩|exact mm (by omega)|exact kj (by omega))) (ad (bE (cs:=kO) iy bQ (by kernel_rfl)) (aj F (bH (m:=1) (parts:=[(0,_)]) (cs:=kO) cp bQ (by decide) (by kernel_rfl) F (fun z4=>?_))))))))))))))
   refine ad (bE (cs:=[(.bool false),(.bool false),(.bool false),(.slice (aD z4) 1 1)]) nJ cm (by kernel_rfl)) ?_
   let um:Lx.Item:=ak (aD z4) 1 72 5 kO
   have Tn:=fun(w1:World) (hI:Inv w ([um,oI z3 63 pd.bU,kn,kP]++(aY 72 p4)) w1)=>(haveI:=dp hI;O8 w1 pd ⟨0,⟨(aD z4),1,[⟨3,x,cJ M-1-x,0,0⟩]⟩⟩ (dn.sl (T:=72) hI (fun it di=>List.mem_append_right _ di) vz) (by rw[KI];exact oO w3 _ _ _ hx) (hI.eV (mG 0 F)) (vw D8 w3))
   refine aj F (aI HW (aE Tn) F ?_)
   clear Tn
   rintro vr O' ⟨N,rfl,q3,c3,rfl,rfl,Hq,l6⟩
   have qG:dn (q3++((⟨0,⟨(aD z4),1,[⟨3,x,cJ M-1-x,0,0⟩]⟩⟩:PR).r::p4)) c3.r:=jE l6 (fun z hz=>by simp only[List.mem_cons,List.not_mem_nil,or_false]at hz;rcases hz with rfl|rfl;exact vz.mono (fun y hy=>List.mem_cons_of_mem _ hy);exact .inl (List.mem_cons_self ..))
   refine bM (O':=([um,oI z3 63 pd.bU,kn,kP]++((aY 72 q3)++(aY 72 p4)))) (by exact cQ [] _ (aY 72 q3) (aY 72 p4)) ?_
   refine aj F (bj (vs:=c3.bU) 1 cm F F F F ?_)
   refine ae (aH (ah F (ad (cj (a:=x) (b:=1) F F (by omega)) (TO.qa F (ae ?_)))))
   have e9:c3.pp=vv M s t (x+1):=by rw[Hq,KI,vv,if_pos (by omega)];rfl
   exact⟨x+1,by omega,[oI z3 63 c3.bU,kn,kP]++(aY 72 (q3++((⟨(aD z4),1,[⟨3,x,cJ M-1-x,0,0⟩]⟩:ER)::p4))),(by exact AT [oI z3 63 c3.bU,kn,kP] [um,oI z3 63 c3.bU,kn,kP] 72 q3 p4 (⟨(aD z4),1,[⟨3,x,cJ M-1-x,0,0⟩]⟩:ER) (by exact Sub.dL [um] _ (.dL [um] _ (.dL [um] _ (.k .z))))),(q3++((⟨(aD z4),1,[⟨3,x,cJ M-1-x,0,0⟩]⟩:ER)::p4)),c3,F,by omega,e9,qG,(.of F)⟩
  have YM: ¬dJ M s x=t:=by omega
  have oX: ¬dJ M s x=t:=by omega
  refine aq (aH (ah F (ad (cj (a:=x) (b:=1) F F (by omega)) (TO.qa F (ae ?_)))))
  exact⟨x+1,by omega,[oI z3 63 pd.bU,kn,kP]++(aY 72 p4),(by exact Sub.rf),p4,pd,F,by omega,by unfold vv;rw[if_neg (by omega)];exact KI,vz,(.of F)⟩
 have YN: ¬x<cJ M:=by omega
 refine bn ?_
 refine ai (ad (cN 0 dY F cm F F F) (aj F (bj (vs:=pd.bU) 1 cm F F F F ?_)))
 refine ae (az (ao ?_))
 refine bf (i:=1) Tryz.results38 dY F cm F F F ?_
 exact⟨aY 72 p4,(by exact Sub.d (.d (.d .rf))),p4,pd,F,F,KI.trans (by rw[show x=cJ M by omega];rfl),.inl vz⟩
end Go.Proofs.YtgdbfideeeegmaaGreatDoor

namespace Go.Proofs.YtgdbfideeeegmaaGreatDoor
open Go.Lx Go.RowKit _root_.Go.Proofs.Tryz
theorem Ng (M:bY) (k:DK) (mY:Valid M): ∀(m:Nat) (w:World) [cG Tryz.prog w] (h:At w M k) (s t:Nat),m≤M.next.length→s<M.next.length→t<M.next.length→bs Tryz.prog 38 [dV M k,vN s,vN t,vN m] w (J9 72 [] (fU M m s t))
 |0,w,_,h,s,t,_,hs,ht=>Tk w M k h mY s t hs ht
 |m+1,w,_,h,s,t,hm,hs,ht=>Td w M k h mY m s t (by omega) hs ht fun w1 _ h1 s t hs ht=>Ng M k mY m w1 h1 s t (by omega) hs ht
theorem O9 (w:World) [cG Tryz.prog w] (d:bY) (k:DK) (h:At w d k) (hv:Valid d) (hn:d.next.length<10000) {M:bY} (hM:fY d=M):
  bs Tryz.prog 13 [(dV d k)] w (fun v N=> ∃b c,v=.tuple #[.slice b (sN M).length c,vN (w0 M)]∧N=[ak b c 72 5 (aT (sN M))]):=by
 refine av func13 F ntmps13 F ?_
 have mY:Valid M:=by rw[←hM];exact lx hv
 have MU:=mY.n4
 have GZ:=mY.n0
 have hL:cJ M≤64:=Nat.pow_le_pow_right (by decide) (show M.vars.toNat≤6 by have:=mY.v6;have:=mY.v0;omega)
 have w3:cJ M≤256:=by omega
 refine ai (aj F (cL (cs:=(dC d k)) F F (fun z1=>?_)))
 refine TO.qa F (TO.qa F (ae (ai (ad (cN 0 cy F aX F F F) ?_))))
 have lK:=fun(w1:World) (hI:Inv w [oI z1 25 (dC d k)] w1)=>(haveI:=dp hI;O_ w1 d k (hI.oH h) hv hn hM)
 refine aj F (aI Nh (aE lK) F ?_)
 clear lK
 rintro vr O' ⟨N,rfl,k2,rfl,rfl⟩
 refine ah F (ad (bm (vs:=_) F F) (ad (bm (vs:=_) F F) (aj F (aR aX F (fun z2=>?_)))))
 refine aj F (bj (vs:=(dC M k2)) 0 aX F F F F ?_)
 refine TO.qa F (ae (ax (ai (ah F (ad (ar (cS F F) (decide_eq_false (by decide))) (ae (aL F (aq (ai ?_)))))))))
 let gz:Lx.Item:=oI z2 25 (dC M k2)
 let gn:Lx.Item:=dI 56 4 3 M k2
 have lN:=fun(w1:World) (hI:Inv w [gz,gn,oI z1 25 (dC d k)] w1)=>(haveI:=dp hI;D6 w1)
 refine aj F (aI D7 (aE lN) F ?_)
 clear lN
 rintro vr O' ⟨N,rfl,q0,c0,rfl,rfl,uh,l6⟩
 have mN:dn q0 c0.r:=l6.elim id (fun h=>absurd h (by simp))
 refine bM (O':=([gz,gn,oI z1 25 (dC d k)]++(aY 72 q0))) (by exact dm [] _ (aY 72 q0)) ?_
 refine aj F (aR cm F (fun z3=>?_))
 refine aj F (bj (vs:=c0.bU) 0 cm F F F F ?_)
 refine ae (ax (ai (TO.qa F (ae (aC ?_)))))
 refine cu (O':=([oI z3 63 c0.bU,gz,gn]++((aY 72 q0)))) (by exact Sub.k (.k (.k (.d .rf)))) ?_
 refine cE (fun(t:Nat) ρ O=> ∃(p2:List ER) (po:PR),O=([oI z3 63 po.bU,gz,gn]++(aY 72 p2))∧t≤M.next.length∧po.pp=qF M t∧dn p2 po.r∧bZ [(0,(dV d k)),(1,(.pointer (aD z1))),(2,nS),(3,vI 0),(4,(.pointer (aD z2))),(5,vI 0),(6,(.pointer (aD z3))),(7,vN t)] ρ) (fun t=>M.next.length-t) 0 ?_ ?_
 ·exact⟨q0,c0,F,Nat.zero_le _,uh,mN,(.of F)⟩
 rintro t ρ O ⟨p2,po,rfl,ht,DS,vA,hH⟩
 obtain⟨eP,rfl⟩:=hH.elim
 clear hH
 refine ax (ai (ah F (ad (aJ cy F cU F F) (ad (aO 1 dB F F F F) (ad (bL dB F) (ad (bI F F) (ae (aw F (fun hc=>?_) (fun hc=>?_)))))))))
 ·have jA:t<M.next.length:=by omega
  refine aq (ax (aC (ai (ad (aJ cy F ce F F) (ad (aO 1 dF F F F F) (ah F (ad (cq (i:=t) dF dc F F (fun w hI=>(hI.at (II:=56) (Bo:=4) (I:=3) (k:=k2) (mG 2 F)).aA) (by rw[mY.fin];exact jA) (by rw[List.length_map,mY.fin];exact jA)) (ad (bS oe F F (fun w hI=>(hI.at (II:=56) (Bo:=4) (I:=3) (k:=k2) (mG 2 F)).aA) (l_ mY jA)) (ae (T.cond F (fun hc=>?_) (fun hc=>?_)))))))))))
  ·have KN:dK M t=true:=hc
   have OF:dv po.pp:=by rw[DS];exact jZ w3 _
   refine dO [(0,0),(1,0),(2,0),(3,0),(4,0),(5,0),(6,1),(7,2),(8,2)] ?_
   refine am F (cN 0 dY F cm F F F) (am F (cN 1 cy F aX F F F) (am F (aF F) (am F (aJ cy F cU F F) (am F (aO 1 dB F F F F) (am F (bL dB F) ?_)))))
   let dS:List Lx.Item:=[oI z3 63 po.bU,oI z2 25 (dC M k2),dI 56 4 3 M k2]
   have A3:=fun(w1:World) (hI:Inv w (dS++(aY 72 p2)) w1)=>(haveI:=dp hI;Ng M k2 mY M.next.length w1 (hI.at (II:=56) (Bo:=4) (I:=3) (k:=k2) (mG 2 F)) 0 t (Nat.le_refl _) mY.n0 jA)
   refine bJ F F (aI AY (aE A3) F ?_)
   clear A3
   rintro vr O' ⟨N,rfl,q5,c5,rfl,rfl,Ri,l6⟩
   refine⟨gd _ (by exact Sub.rf),?_⟩
   have HV:dn (q5++p2) c5.r:=jE l6 (fun x hx=>by simp only[List.mem_cons,List.not_mem_nil,or_false]at hx)
   have vA:=vA.mono (fun y hy=>List.mem_append_right q5 hy)
   have K_:dv c5.pp:=by rw[Ri];exact eH w3 _ _ _
   refine de (O':=(dS++((aY 72 q5)++(aY 72 p2)))) (by exact cQ [] _ (aY 72 q5) (aY 72 p2)) ?_
   have vF:=fun(w1:World) (hI:Inv w (dS++((aY 72 q5)++(aY 72 p2))) w1)=>(haveI:=dp hI;O8 w1 po c5 (dn.sl (T:=72) hI (eh (fun it di=>(List.mem_append_right _ (List.mem_append_left _ di))) (fun it di=>(List.mem_append_right _ (List.mem_append_right _ (di))))) vA) OF (dn.sl (T:=72) hI (eh (fun it di=>(List.mem_append_right _ (List.mem_append_left _ di))) (fun it di=>(List.mem_append_right _ (List.mem_append_right _ (di))))) HV) K_)
   refine bq F F (aI HW (aE vF) F ?_)
   clear vF
   rintro vr O' ⟨N,rfl,q6,c6,rfl,rfl,OG,l6⟩
   have FC:dn (q6++(q5++p2)) c6.r:=jE l6 (fun x hx=>by simp only[List.mem_cons,List.not_mem_nil,or_false]at hx;rcases hx with rfl|rfl;exact vA;exact HV)
   refine de (O':=(dS++((aY 72 q6)++((aY 72 q5)++(aY 72 p2))))) (by exact cQ [] _ (aY 72 q6) ((aY 72 q5)++(aY 72 p2))) ?_
   refine bq F F (bj (vs:=c6.bU) 0 cm F F F F ?_)
   refine de (O':=([oI z3 63 c6.bU,gz,gn]++(aY 72 (q6++(q5++p2))))) (by simp only[iw,List.append_assoc];exact Sub.rf) ?_
   refine bu ?_
   refine aH (ah F (ad (cj (a:=t) (b:=1) F F (by omega)) (TO.qa F (ae ?_))))
   have e9:c6.pp=qF M (t+1):=by rw[OG,DS,Ri,qF,if_pos KN]
   exact⟨t+1,by omega,[oI z3 63 c6.bU,gz,gn]++(aY 72 (q6++(q5++p2))),(by exact Sub.rf),(q6++(q5++p2)),c6,F,by omega,e9,FC,(.of F)⟩
  have KN: ¬dK M t=true:=by rw[hc];simp
  refine aq (aH (ah F (ad (cj (a:=t) (b:=1) F F (by omega)) (TO.qa F (ae ?_)))))
  exact⟨t+1,by omega,[oI z3 63 po.bU,gz,gn]++(aY 72 p2),(by exact Sub.rf),p2,po,F,by omega,by rw[qF,if_neg KN];exact DS,vA,(.of F)⟩
 have nW: ¬t<M.next.length:=by omega
 refine bn ?_
 refine ax (ax ?_)
 have qI:po.pp=wZ M:=by rw[DS,show t=M.next.length by omega];rfl
 refine aH (ad (aJ dY F dc F F) (ad (aO 0 oe F F F F) (ae (aw F (fun hc=>?_) (fun hc=>?_)))))
 ·have To:po.k=3:=by simpa using hc
  refine ax (T.dt 72 5 ?_)
  refine aH (TO.qa F (TO.qa F (ae (az (ao ?_)))))
  refine ct nS (vI 4) Tryz.results13 F F ?_
  have h3:(wZ M).1=3:=by rw[←qI];exact To
  have e1:sN M=[]:=if_pos h3
  have e2:w0 M=4:=if_pos h3
  exact⟨[ak none 0 72 5 []],(by exact Sub.k .z),none,0,by rw[e1,e2];rfl,by rw[e1];rfl⟩
 have Tp: ¬po.k=3:=by simpa using hc
 refine aq (ai (ad (aJ dY F eT F F) (ad (aO 0 cp F F F F) (TO.qa F (TO.qa F (ae (az (ao ?_))))))))
 refine ct (.slice po.r.b po.r.e.length po.r.c) (vI 0) Tryz.results13 F F ?_
 have h3: ¬(wZ M).1=3:=by rw[←qI];exact Tp
 have e1:sN M=po.r.e:=(if_neg h3).trans (by rw[←qI];rfl)
 have e2:w0 M=0:=if_neg h3
 have rB:po.r.e≠ []:=by
  have:=(jZ (m:=M) w3 M.next.length).ne h3
  rw[show qF M M.next.length=po.pp from qI.symm]at this;exact this
 exact⟨[po.r.lZ 72],a_ (List.singleton_sublist.2 (List.mem_append_right _ (List.mem_map.2 ⟨po.r,vA.resolve_right rB,F⟩))),po.r.b,po.r.c,by rw[e1,e2];rfl,by rw[e1];rfl⟩
theorem Pb (w:World) [cG Tryz.prog w] (d:bY) (k:DK) (h:At w d k) (hb:d.next.length<9223372036854775807) (jy: ∀r∈d.next,r.length<9223372036854775807) (j6:d.aA.length<9223372036854775807) (he: ¬bW d=0):
  bs Tryz.prog 14 [(dV d k)] w (fun v N=> ∃b c,v=.tuple #[.slice b ([]:List dE).length c,vN (bW d)]∧N=[ak b c 72 5 (aT ([]:List dE))]):=by
 refine av func14 F ntmps14 F ?_
 refine ai (aj F (cL (cs:=(dC d k)) F F (fun z1=>?_)))
 refine TO.qa F (TO.qa F (ae (ai (ad (cN 0 cy F aX F F F) ?_))))
 have oW:=fun(w1:World) (hI:Inv w [oI z1 25 (dC d k)] w1)=>(haveI:=dp hI;(show bs _ _ _ _ _ from by
   have h9:=Tq w1 d k (hI.oH h) hb jy j6 (fun h=>absurd (dr.2 h) he)
   exact h9))
 refine aj F (aI xO (aE oW) F ?_)
 clear oW
 rintro vr O' ⟨N,rfl,k2,rfl,rfl⟩
 refine ah F (ad (bm (vs:=_) F F) (ad (bm (vs:=_) F F) (aj F (aR aX F (fun z2=>?_)))))
 refine aj F (bj (vs:=(dC (pV d) k2)) 0 aX F F F F ?_)
 refine TO.qa F (ae (ax (ai (ah F (ad (ar (cS F F) (decide_eq_true (by have:=he;omega))) (ae ?_))))))
 refine bg F ?_
 refine ax (T.dt 72 5 ?_)
 refine aH (ah F (TO.qa F (TO.qa F (ae (az (ao ?_))))))
 refine ct nS (vN (bW d)) Tryz.results14 F F ?_
 exact⟨[ak none 0 72 5 []],(by exact Sub.k .z),none,0,F,F⟩
theorem Ll (w:World) [cG Tryz.prog w] (d:bY) (k:DK) (h:At w d k) (hb:d.next.length<9223372036854775807) (jy: ∀r∈d.next,r.length<9223372036854775807) (j6:d.aA.length<9223372036854775807) (he: ¬bW d=0):
  bs Tryz.prog 13 [(dV d k)] w (fun v N=> ∃b c,v=.tuple #[.slice b ([]:List dE).length c,vN (bW d)]∧N=[ak b c 72 5 (aT ([]:List dE))]):=by
 refine av func13 F ntmps13 F ?_
 refine ai (aj F (cL (cs:=(dC d k)) F F (fun z1=>?_)))
 refine TO.qa F (TO.qa F (ae (ai (ad (cN 0 cy F aX F F F) ?_))))
 have lK:=fun(w1:World) (hI:Inv w [oI z1 25 (dC d k)] w1)=>(haveI:=dp hI;(show bs _ _ _ _ _ from by
   have h9:=Ni w1 d k (hI.oH h) hb jy j6 (fun h=>absurd (dr.2 h) he)
   exact h9))
 refine aj F (aI Nh (aE lK) F ?_)
 clear lK
 rintro vr O' ⟨N,rfl,k2,rfl,rfl⟩
 refine ah F (ad (bm (vs:=_) F F) (ad (bm (vs:=_) F F) (aj F (aR aX F (fun z2=>?_)))))
 refine aj F (bj (vs:=(dC (pV d) k2)) 0 aX F F F F ?_)
 refine TO.qa F (ae (ax (ai (ah F (ad (ar (cS F F) (decide_eq_true (by have:=he;omega))) (ae ?_))))))
 refine bg F ?_
 refine ax (T.dt 72 5 ?_)
 refine aH (ah F (TO.qa F (TO.qa F (ae (az (ao ?_))))))
 refine ct nS (vN (bW d)) Tryz.results13 F F ?_
 exact⟨[ak none 0 72 5 []],(by exact Sub.k .z),none,0,F,F⟩
end Go.Proofs.YtgdbfideeeegmaaGreatDoor

