/- Contracts of functions of the program, and what they answer. Conditions: those each theorem names. -/
import Derived.Test.YtgdbfideeeegmaaGreatDoorA2
import Derived.Test.YtgdbfideeeegmaaGreatDoorA5
import Derived.Test.YtgdbfideeeegmaaGreatDoorB4
import Derived.Test.YtgdbfideeeegmaaGreatDoorB3
import Derived.Test.YtgdbfideeeegmaaGreatDoorB0
import Derived.Test.YtgdbfideeeegmaaGreatDoorA0
set_option linter.unusedSectionVars false
set_option linter.unusedSimpArgs false
set_option linter.unusedVariables false
set_option linter.unnecessarySimpa false
set_option maxHeartbeats 8000000
set_option maxRecDepth 20000
namespace Go.Proofs.YtgdbfideeeegmaaGreatDoor
open Go.Lx Go.RowKit _root_.Go.Proofs.Tryz
theorem tn (base:World) [dE Tryz.prog base] (rb:Nat) (S:List UInt8) (qt:S.length≤4096) (ia c n lc:Nat) (lb:Option Addr) (h:Ch S ia c):
  bW Tryz.prog base 132 [(.pointer (aD rb))] [oI rb 149 [(str S),vN ia,(.slice lb n lc),vI 0]] (fun v O'=>v=v8 c∧O'=[oI rb 149 [(str S),vN ia,(.slice lb n lc),vI 0]]):=by
 refine aF func132 F ntmps132 F ?_
 have gn:=h.lt
 refine ai (aj F (ae (aM (ai (ah F (ad (a8 F) (ad (a_ f_ F iZ F F) (ad (bi 0 oD F F F F) (ad (aB (dQ F F) (ak (by decide))) (ae (a6 F (aE (aM (aM ?_))))))))))))))
 refine fD [(0,0),(1,0),(2,0),(3,0),(4,0),(5,0),(6,0),(7,0),(8,0),(9,0)] ?_
 refine au F (aN F) (au F (a8 F) (au F (a_ f_ F bj F F) (au F (bi 0 dP F F F F) (au F (aN F) (au F (a8 F) (au F (a_ f_ F Ei F F) (au F (bi 0 ve F F F F) (au F (wX ve F) (au F (aB (bJ F F) (ak (by omega))) ?_)))))))))
 refine cw ?_
 refine a6 F (aE (aM ?_))
 refine fD [(0,0),(1,0),(2,0),(3,0),(4,0),(5,0),(6,0),(7,0),(8,0),(9,0)] ?_
 refine au F (aN F) (au F (a8 F) (au F (a_ f_ F Ei F F) (au F (bi 0 ve F F F F) (au F (aN F) (au F (a8 F) (au F (a_ f_ F bj F F) (au F (bi 0 dP F F F F) (au F (Vx (i:=ia) ve F F h) (au F (cx F) ?_)))))))))
 refine cw ?_
 refine aK ?_
 refine aS (v8 c) Tryz.results132 F ?_
 exact⟨F,F⟩
theorem NN (base:World) [dE Tryz.prog base] (rb:Nat) (S:List UInt8) (qt:S.length≤4096) (ia c n lc:Nat) (lb:Option Addr) (h:Ch S ia c):
  bW Tryz.prog base 189 [(.pointer (aD rb)),v8 c] [oI rb 149 [(str S),vN ia,(.slice lb n lc),vI 0]] (fun v O'=>v=.tuple #[]∧O'=[oI rb 149 [(str S),vN (ia+1),(.slice lb n lc),vI 0]]):=by
 refine aF func189 F ntmps189 F ?_
 have gn:=h.lt
 refine ai (ah F ?_)
 have JS:=(bW.under (A:=[oI rb 149 [(str S),vN ia,(.slice lb n lc),vI 0]]) (B:=[]) (O:=[oI rb 149 [(str S),vN ia,(.slice lb n lc),vI 0]]) (tn base rb S qt ia c n lc lb h) (by exact Sub.rf))
 refine ao F (bl k_ JS F ?_)
 clear JS
 rintro vr O' ⟨A9,rfl,rfl,rfl⟩
 refine aj F (ae (aM (ai (ah F (ad (a8 F) (ad (a_ f_ F iZ F F) (ad (bi 0 oD F F F F) (ad (aB (bJ F F) (ay (by decide))) (ah F (aG F F (aN F) (aG F F (aN F) (aG F F (aB (dQ F F) (ak (by omega))) (ad (cA F F) ?_)))))))))))))
 refine ae (a6 F (aE (ai (ah F (ad (a8 F) (ad (a_ f_ F iZ F F) (ad (bi 0 oD F F F F) (ad (aB (bJ F F) (ay (by decide))) (ae ?_)))))))))
 refine bO F ?_
 refine a7 (ah F (ad (a8 F) (ad (a_ f_ F bj F F) (ad (bi 0 dP F F F F) (ad (dy (a:=ia) (b:=1) F F (by omega)) (ad (a8 F) (ad (a_ f_ F bj F F) (ao F (bN (vs:=[(vN (ia+1))]) 0 bj F F F F ?_)))))))))
 refine ae ?_
 refine qZ.zero Tryz.results189 ?_
 exact⟨F,F⟩
theorem FJ (base:World) [dE Tryz.prog base] (rb:Nat) (S:List UInt8) (ia lc:Nat) (lb:Option Addr) (l:List dK) (x:dK) (hl:l.length≤1000):
  bW Tryz.prog base 133 [(.pointer (aD rb)),x.ag] [oI rb 149 [(str S),vN ia,(.slice lb l.length lc),vI 0],aq lb lc 72 5 (bt l)] (fun v O'=> ∃ua ub,v=vN l.length∧O'=[oI rb 149 [(str S),vN ia,(.slice ua ((l++[x]).length) ub),vI 0],aq ua ub 72 5 (bt (l++[x]))]):=by
 refine aF func133 F ntmps133 F ?_
 refine ai (ao F (dG (cs:=x.cl) F F (fun z1=>?_)))
 refine aj F (ae (aM ?_))
 refine T.ds [oI z1 72 x.cl,oI rb 149 [(str S),vN ia,(.slice lb l.length lc),vI 0]] [(0,0),(1,0),(2,0),(3,0),(4,0),(5,0),(6,1),(7,1),(8,0),(9,0),(10,2)] (by exact Sub.k (.k .z)) ?_
 refine au F (aN F) (au F (aN F) (au F (a8 F) (au F (a_ f_ F fT F F) (au F (bi 1 cX F F F F) (au F (eu 0 bU F cm F F F) ?_)))))
 refine cr F F (cz (m:=1) (parts:=[(0,_)]) (cs:=x.cl) cX cm (by decide) (by kernel_rfl) F (fun z2=>⟨by exact Sub.d (.k (.k .z)),?_⟩))
 refine cr F F (cW 3 cX cX cm F F F F (by rw[bY]) (by decide) (Src.row (j:=0) F (by simp)) (by simp[fa]) (by omega) (by decide) (by decide) (fun z3 kH=>⟨by exact Sub.d (.k (.k .z)),?_⟩))
 refine au F (a8 F) (au F (a_ f_ F fT F F) ?_)
 refine b_ F F (bN (vs:=[(.slice z3 (l.length+1) kH)]) 2 fT F F F F ?_)
 refine cw ?_
 refine ai (ah F (ad (a8 F) (ad (a_ f_ F fT F F) (ad (bi 2 cX F F F F) (ad (cQ cX F) (ad (kZ (a:=(l.length+1)) (b:=1) F F (by omega) (by omega)) (aj F (ae (aK (aA ?_))))))))))
 refine aS (vN ((l.length+1)-1)) Tryz.results133 F ?_
 exact⟨[oI rb 149 [(str S),vN ia,(.slice z3 (l.length+1) kH),vI 0],aq z3 kH 72 5 ((bt l)++x.cl)],(by exact Sub.d (.d (.k (.k .z)))),z3,kH,by simp,by rw[lN,aw];rfl⟩
theorem Vy (base:World) [dE Tryz.prog base] (rb:Nat) (S:List UInt8) (qt:S.length≤4096) (ia n lc:Nat) (lb:Option Addr) (h1:Ch S ia 42) (h2:Ch S (ia+1) 93):
  bW Tryz.prog base 134 [(.pointer (aD rb))] [oI rb 149 [(str S),vN ia,(.slice lb n lc),vI 0]] (fun v O'=>v=.agg #[v8 0,v8 0]∧O'=[oI rb 149 [(str S),vN (ia+1+1),(.slice lb n lc),vI 0]]):=by
 refine aF func134 F ntmps134 F ?_
 have gn:=h1.lt;have lO:=h2.lt
 refine ai (ao F (bs gj F (fun z1=>?_)))
 refine ae (ai (ad (cE jn gj F) (ao F (bs gj F (fun z2=>?_)))))
 refine ao F (bN (vs:=[(.int .u8 0),(.int .u8 0)]) 0 gj F F F F ?_)
 refine aj F (ae (aM (ai (ah F ?_))))
 have u_:=(bW.under (A:=[oI rb 149 [(str S),vN ia,(.slice lb n lc),vI 0]]) (B:=[oI z2 129 [(.int .u8 0),(.int .u8 0)],oI z1 129 [(.int .u8 0),(.int .u8 0)]]) (O:=[oI z2 129 [(.int .u8 0),(.int .u8 0)],oI z1 129 [(.int .u8 0),(.int .u8 0)],oI rb 149 [(str S),vN ia,(.slice lb n lc),vI 0]]) (tn base rb S qt ia 42 n lc lb h1) (by exact Sub.ew [oI z2 129 [(.int .u8 0),(.int .u8 0)],oI z1 129 [(.int .u8 0),(.int .u8 0)]] _ (.k (.k .z))))
 refine ao F (bl k_ u_ F ?_)
 clear u_
 rintro vr O' ⟨A9,rfl,rfl,rfl⟩
 refine ad (aB (bJ F F) (ay (by decide))) (ae ?_)
 refine bO F ?_
 refine ai (ah F (ad (a8 F) (ad (a_ f_ F bj F F) (ad (bi 0 dP F F F F) (ad (dy (a:=ia) (b:=1) F F (by omega)) (ad (a8 F) (ad (a_ f_ F bj F F) (ao F (bN (vs:=[(vN (ia+1))]) 0 bj F F F F ?_)))))))))
 refine ae (ai (ah F ?_))
 have qu:=(bW.under (A:=[oI rb 149 [(str S),(vN (ia+1)),(.slice lb n lc),vI 0]]) (B:=[oI z2 129 [(.int .u8 0),(.int .u8 0)],oI z1 129 [(.int .u8 0),(.int .u8 0)]]) (O:=[oI rb 149 [(str S),(vN (ia+1)),(.slice lb n lc),vI 0],oI z2 129 [(.int .u8 0),(.int .u8 0)],oI z1 129 [(.int .u8 0),(.int .u8 0)]]) (NN base rb S qt (ia+1) 93 n lc lb h2) (by exact Sub.rf))
 refine ao F (bl AH qu F ?_)
 clear qu
 rintro vr O' ⟨A9,rfl,rfl,rfl⟩
 refine ae (ai (ad (eu 1 ld F gj F F F) (ao F (bN (vs:=[(.int .u8 0),(.int .u8 0)]) 2 gj F F F F ?_))))
 refine ae (aK (aA ?_))
 refine cM (i:=2) Tryz.results134 ld F gj F F F ?_
 exact⟨[oI rb 149 [(str S),vN (ia+1+1),(.slice lb n lc),vI 0]],(by exact Sub.k .z),F,F⟩
theorem Vz (base:World) [dE Tryz.prog base] (rb:Nat) (S:List UInt8) (qt:S.length≤4096) (ia k n lc:Nat) (lb:Option Addr) (hk:k<6) (h1:Ch S ia (97+k)) (h2:Ch S (ia+1) 93):
  bW Tryz.prog base 134 [(.pointer (aD rb))] [oI rb 149 [(str S),vN ia,(.slice lb n lc),vI 0]] (fun v O'=>v=.agg #[v8 (0|||1*2^k),v8 0]∧O'=[oI rb 149 [(str S),vN (ia+1+1),(.slice lb n lc),vI 0]]):=by
 refine aF func134 F ntmps134 F ?_
 have gn:=h1.lt;have lO:=h2.lt
 have hpk:2^k<256:=Nat.pow_lt_pow_right (a:=2) (by decide) (show k<8 by omega)
 refine ai (ao F (bs gj F (fun z1=>?_)))
 refine ae (ai (ad (cE jn gj F) (ao F (bs gj F (fun z2=>?_)))))
 refine ao F (bN (vs:=[(.int .u8 0),(.int .u8 0)]) 0 gj F F F F ?_)
 refine aj F (ae (aM (ai (ah F ?_))))
 have u_:=(bW.under (A:=[oI rb 149 [(str S),vN ia,(.slice lb n lc),vI 0]]) (B:=[oI z2 129 [(.int .u8 0),(.int .u8 0)],oI z1 129 [(.int .u8 0),(.int .u8 0)]]) (O:=[oI z2 129 [(.int .u8 0),(.int .u8 0)],oI z1 129 [(.int .u8 0),(.int .u8 0)],oI rb 149 [(str S),vN ia,(.slice lb n lc),vI 0]]) (tn base rb S qt ia (97+k) n lc lb h1) (by exact Sub.ew [oI z2 129 [(.int .u8 0),(.int .u8 0)],oI z1 129 [(.int .u8 0),(.int .u8 0)]] _ (.k (.k .z))))
 refine ao F (bl k_ u_ F ?_)
 clear u_
 rintro vr O' ⟨A9,rfl,rfl,rfl⟩
 refine ad (aB (bJ F F) (ak (by omega))) (ae (a6 F (aE (aM (aU ?_)))))
 refine pf 3 (T.round ?_)
 refine aM (ai (ah F (ad (a8 F) (ad (a_ f_ F iZ F F) (ad (bi 0 oD F F F F) (ad (aB (bJ F F) (ay (by decide))) (ae ?_)))))))
 refine bO F ?_
 refine aE (aU (ai (ah F ?_)))
 have tp:=(bW.under (A:=[oI rb 149 [(str S),vN ia,(.slice lb n lc),vI 0]]) (B:=[oI z2 129 [(.int .u8 0),(.int .u8 0)],oI z1 129 [(.int .u8 0),(.int .u8 0)]]) (O:=[oI rb 149 [(str S),vN ia,(.slice lb n lc),vI 0],oI z2 129 [(.int .u8 0),(.int .u8 0)],oI z1 129 [(.int .u8 0),(.int .u8 0)]]) (tn base rb S qt ia (97+k) n lc lb h1) (by exact Sub.rf))
 refine ao F (bl k_ tp F ?_)
 clear tp
 rintro vr O' ⟨A9,rfl,rfl,rfl⟩
 refine ad (aB (bJ F F) (ak (by omega))) (ah F (aV F F (aV F F (ad (cg F F) (aj F (ae (aM (ai (ah F (ae (a6 F ?_)))))))))))
 refine aE (ai (ah F ?_))
 have qv:=(bW.under (A:=[oI rb 149 [(str S),vN ia,(.slice lb n lc),vI 0]]) (B:=[oI z2 129 [(.int .u8 0),(.int .u8 0)],oI z1 129 [(.int .u8 0),(.int .u8 0)]]) (O:=[oI rb 149 [(str S),vN ia,(.slice lb n lc),vI 0],oI z2 129 [(.int .u8 0),(.int .u8 0)],oI z1 129 [(.int .u8 0),(.int .u8 0)]]) (tn base rb S qt ia (97+k) n lc lb h1) (by exact Sub.rf))
 refine ao F (bl k_ qv F ?_)
 clear qv
 rintro vr O' ⟨A9,rfl,rfl,rfl⟩
 refine aj F (ae (aM (ai (ah F (ad (aB (bJ F F) (ak (by omega))) (ah F (aV F F (aV F F (ad (cg F F) (ah F (aV F F (aV F F ?_))))))))))))
 refine ad (cg F F) (ae (a6 F (aE (aM (ai (ah F (ad (a8 F) (ad (a_ f_ F iZ F F) (ad (bi 0 oD F F F F) (ad (aB (bJ F F) (ay (by decide))) (ah F (aG F F (aN F) (aG F F (aB (cT F F) (ak (by omega))) ?_)))))))))))))
 refine aG F F (aN F) (aG F F (aN F) (aG F F (aB (iy F F) (ak (by omega))) (aG F F (cg F F) (aG F F (aN F) (aG F F (aN F) (aG F F (bK (Jz (a:=(97+k)) (b:=97) .u8 F F (by show _<256;omega) (by omega)) (v':=v8 k) (ax (Value.int .u8) (by omega))) (aG F F (fX fA dP F (by first|rfl|exact gS ⟨by omega,by omega⟩|exact qi (by omega)|exact nI (by omega))) ?_)))))))
 refine aG F F (aN F) (aG F F (aB (Jn F F) (ak (by omega))) (aG F F (cg F F) (ad (cA F F) (ae (a6 F (aE (aM (ai (ah F (ad (a8 F) (ad (a_ f_ F iZ F F) (ad (bi 0 oD F F F F) ?_))))))))))))
 refine ad (aB (dQ F F) (ak (by decide))) (ae (a6 F (aE (ai (ah F (ad (bK (Jz (a:=(97+k)) (b:=97) .u8 F F (by show _<256;omega) (by omega)) (v':=v8 k) (ax (Value.int .u8) (by omega))) (ad (fX fA dP F (by first|rfl|exact gS ⟨by omega,by omega⟩|exact qi (by omega)|exact nI (by omega))) (aj F (ae (aM (ai (ah F (ae ?_)))))))))))))
 refine a6 F (a7 (ad (a_ ld F du F F) (ad (bi 1 fA F F F F) (ah F (ad (fX dP P4 F (by first|rfl|exact gS ⟨by omega,by omega⟩|exact qi (by omega)|exact nI (by omega))) (ad (RE (a:=1) (b:=k) .u8 F F (by show _≤8;omega) (by show _<256;omega)) (ad (RD (a:=0) (b:=(1*2^k)) .u8 F F (by show _<256;omega) (by show _<256;omega)) (ad (a_ ld F du F F) (ao F (bN (vs:=[(v8 (0|||(1*2^k)))]) 1 du F F F F ?_))))))))))
 refine ae (a7 (ah F (ad (a8 F) (ad (a_ f_ F bj F F) (ad (bi 0 dP F F F F) (ad (dy (a:=ia) (b:=1) F F (by omega)) (ad (a8 F) (ad (a_ f_ F bj F F) (ao F (bN (vs:=[(vN (ia+1))]) 0 bj F F F F ?_))))))))))
 refine ae ?_
 refine nJ [oI rb 149 [(str S),(vN (ia+1)),(.slice lb n lc),vI 0],oI z2 129 [(v8 (0|||(1*2^k))),(.int .u8 0)],oI z1 129 [(.int .u8 0),(.int .u8 0)]] [(0,(.pointer (aD rb))),(2,(.pointer (aD z1))),(3,(.pointer (aD z2))),(4,vN k),(5,.bool false),(6,v8 (97+k)),(7,(.agg #[(.int .u8 0),(.int .u8 0)])),(8,(.pointer (aD rb))),(9,v8 (97+k)),(10,.bool false)] F (.of F) (fun gF=>?_)
 refine T.round ?_
 refine aM (ai (ah F (ad (a8 F) (ad (a_ f_ F iZ F F) (ad (bi 0 oD F F F F) (ad (aB (bJ F F) (ay (by decide))) (ae ?_)))))))
 refine bO F ?_
 refine aE (aU (ai (ah F ?_)))
 have tp:=(bW.under (A:=[oI rb 149 [(str S),(vN (ia+1)),(.slice lb n lc),vI 0]]) (B:=[oI z2 129 [(v8 (0|||(1*2^k))),(.int .u8 0)],oI z1 129 [(.int .u8 0),(.int .u8 0)]]) (O:=[oI rb 149 [(str S),(vN (ia+1)),(.slice lb n lc),vI 0],oI z2 129 [(v8 (0|||(1*2^k))),(.int .u8 0)],oI z1 129 [(.int .u8 0),(.int .u8 0)]]) (tn base rb S qt (ia+1) 93 n lc lb h2) (by exact Sub.rf))
 refine ao F (bl k_ tp F ?_)
 clear tp
 rintro vr O' ⟨A9,rfl,rfl,rfl⟩
 refine ad (aB (bJ F F) (ak (by omega))) (ah F (aV F F (aV F F (ad (cg F F) (aj F (ae (aM (ai (ah F (ae (a6 F ?_)))))))))))
 refine aE (ai (ah F ?_))
 have qv:=(bW.under (A:=[oI rb 149 [(str S),(vN (ia+1)),(.slice lb n lc),vI 0]]) (B:=[oI z2 129 [(v8 (0|||(1*2^k))),(.int .u8 0)],oI z1 129 [(.int .u8 0),(.int .u8 0)]]) (O:=[oI rb 149 [(str S),(vN (ia+1)),(.slice lb n lc),vI 0],oI z2 129 [(v8 (0|||(1*2^k))),(.int .u8 0)],oI z1 129 [(.int .u8 0),(.int .u8 0)]]) (tn base rb S qt (ia+1) 93 n lc lb h2) (by exact Sub.rf))
 refine ao F (bl k_ qv F ?_)
 clear qv
 rintro vr O' ⟨A9,rfl,rfl,rfl⟩
 refine aj F (ae (aM (ai (ah F (ad (aB (bJ F F) (ay (by decide))) (ah F (aG F F (aN F) (aG F F (jh F) (ad (cA F F) (ah F (aG F F (aN F) (aG F F (aB (lB F F) (ay (by omega))) ?_))))))))))))
 refine ad (cA F F) (ae ?_)
 refine bO F ?_
 refine ai (ah F (ad (a8 F) (ad (a_ f_ F bj F F) (ad (bi 0 dP F F F F) (ad (dy (a:=(ia+1)) (b:=1) F F (by omega)) (ad (a8 F) (ad (a_ f_ F bj F F) (ao F (bN (vs:=[(vN ((ia+1)+1))]) 0 bj F F F F ?_)))))))))
 refine ae (ai (ad (eu 1 ld F gj F F F) (ao F (bN (vs:=[(v8 (0|||(1*2^k))),(.int .u8 0)]) 2 gj F F F F ?_))))
 refine ae (aK (aA ?_))
 refine cM (i:=2) Tryz.results134 ld F gj F F F ?_
 exact⟨[oI rb 149 [(str S),(vN ((ia+1)+1)),(.slice lb n lc),vI 0]],(by exact Sub.k .z),F,F⟩
def uc (f:FuncId) (S:List UInt8) (ia:Nat) (l:List dK) (i ib:Nat) (m:List dK):Prop:= ∀(base:World) [dE Tryz.prog base] (rb:Nat) (lb:Option Addr) (lc:Nat),bW Tryz.prog base f [(.pointer (aD rb))] [dF rb (.cells (List.toArray [(str S),vN ia,(.slice lb l.length lc),vI 0]) 149 (0,0)),aq lb lc 72 5 (bt l)] (fun v O'=> ∃ua ub,v=vN i∧O'=[dF rb (.cells (List.toArray [(str S),vN ib,(.slice ua m.length ub),vI 0]) 149 (0,0)),aq ua ub 72 5 (bt m)])
theorem P5 {S:List UInt8} (qt:S.length≤4096) {ia pp:Nat} {l:List dK} (hl:l.length≤1000) (h1:Ch S ia 91) (ZE: ∀(base:World) [dE Tryz.prog base] (rb:Nat) (lb:Option Addr) (n lc:Nat),bW Tryz.prog base 134 [(.pointer (aD rb))] [oI rb 149 [(str S),vN (ia+1),(.slice lb n lc),vI 0]] (fun v O'=>v=.agg #[v8 pp,v8 0]∧O'=[oI rb 149 [(str S),vN (ia+3),(.slice lb n lc),vI 0]])):uc 96 S ia l l.length (ia+3) (l++[(⟨3,pp,0,0,0⟩:dK)]):=by
 intro base _ rb lb lc
 refine aF func96 F ntmps96 F ?_
 have gn:=h1.lt
 refine ai (aj F (ae (ai (ah F ?_))))
 let eP:Lx.Item:=aq lb lc 72 5 (bt l)
 let gC:Value:=(.slice lb l.length lc)
 have JS:=(bW.under (A:=[oI rb 149 [(str S),vN ia,gC,vI 0]]) (B:=[eP]) (O:=[oI rb 149 [(str S),vN ia,gC,vI 0],eP]) (tn base rb S qt ia 91 l.length lc lb h1) (by exact Sub.rf))
 refine ao F (bl k_ JS F ?_)
 clear JS
 rintro vr O' ⟨A9,rfl,rfl,rfl⟩
 refine aj F (ae (aM (ai (ah F (ad (a8 F) (ad (a_ f_ F iZ F F) (ad (bi 0 oD F F F F) (ad (aB (dQ F F) (ak (by decide))) (ae (a6 F (aE (ai (ah F (ad (a8 F) (ad (a_ f_ F bj F F) (ad (bi 0 dP F F F F) ?_))))))))))))))))
 refine ad (dy (a:=ia) (b:=1) F F (by omega)) (ad (a8 F) (ad (a_ f_ F bj F F) (ao F (bN (vs:=[(vN (ia+1))]) 0 bj F F F F ?_))))
 refine ae (aM (ai (ah F (ae (aU (ai (ad (aB (bJ F F) (ak (by decide))) (aj F (ae (a6 F (ai (ad (aB (bJ F F) (ak (by decide))) (aj F ?_)))))))))))))
 refine ae (a6 F (ai (ad (aB (bJ F F) (ay (by decide))) (aj F (ae ?_)))))
 refine bO F ?_
 refine ai (ah F ?_)
 have xn:=(bW.under (A:=[oI rb 149 [(str S),(vN (ia+1)),gC,vI 0]]) (B:=[eP]) (O:=[oI rb 149 [(str S),(vN (ia+1)),gC,vI 0],eP]) (ZE base rb lb l.length lc) (by exact Sub.rf))
 refine ao F (bl RU xn F ?_)
 clear xn
 rintro vr O' ⟨A9,rfl,rfl,rfl⟩
 refine ao F (bs gj F (fun z1=>?_))
 refine ao F (bN (vs:=[v8 pp,v8 0]) 0 gj F F F F ?_)
 refine ae (ai (ah F (ad (a_ ld F du F F) (ad (bi 0 fA F F F F) (ad (a_ ld F du F F) (ad (bi 0 fA F F F F) (ad (cE (cs:=[.int .u8 3,v8 pp,v8 0,(vI 0),(vI 0)]) nh cm (by kernel_rfl)) ?_)))))))
 let gu:Lx.Item:=oI z1 129 [v8 pp,v8 0]
 have oE:=(bW.under (A:=[oI rb 149 [(str S),vN (ia+3),gC,vI 0],eP]) (B:=[gu]) (O:=[gu,oI rb 149 [(str S),vN (ia+3),gC,vI 0],eP]) (FJ base rb S (ia+3) lc lb l (⟨3,pp,0,0,0⟩:dK) hl) (by exact Sub.ew [gu] _ (.ew [gu] _ (.k .z))))
 refine ao F (bl AI oE F ?_)
 clear oE
 rintro vr O' ⟨A9,rfl,tq,tv,rfl,rfl⟩
 refine aj F (ae (aK (aA ?_)))
 refine aS (vN l.length) Tryz.results96 F ?_
 exact⟨[oI rb 149 [(str S),vN (ia+3),(.slice tq ((l++[(⟨3,pp,0,0,0⟩:dK)]).length) tv),vI 0],aq tq tv 72 5 (bt (l++[(⟨3,pp,0,0,0⟩:dK)]))],(by exact Sub.k (.k .z)),_,_,F,F⟩
theorem xo {S:List UInt8} (qt:S.length≤4096) {ia i ib:Nat} {l m:List dK} (h1:Ch S ia 40) (D5:uc 135 S (ia+1) l i ib m):uc 96 S ia l i ib m:=by
 intro base _ rb lb lc
 refine aF func96 F ntmps96 F ?_
 have gn:=h1.lt
 refine ai (aj F (ae (ai (ah F ?_))))
 have JS:=(bW.under (A:=[oI rb 149 [(str S),vN ia,(.slice lb l.length lc),vI 0]]) (B:=[aq lb lc 72 5 (bt l)]) (O:=[oI rb 149 [(str S),vN ia,(.slice lb l.length lc),vI 0],aq lb lc 72 5 (bt l)]) (tn base rb S qt ia 40 l.length lc lb h1) (by exact Sub.rf))
 refine ao F (bl k_ JS F ?_)
 clear JS
 rintro vr O' ⟨A9,rfl,rfl,rfl⟩
 refine aj F (ae (aM (ai (ah F (ad (a8 F) (ad (a_ f_ F iZ F F) (ad (bi 0 oD F F F F) (ad (aB (dQ F F) (ak (by decide))) (ae (a6 F (aE (ai (ah F (ad (a8 F) (ad (a_ f_ F bj F F) (ad (bi 0 dP F F F F) ?_))))))))))))))))
 refine ad (dy (a:=ia) (b:=1) F F (by omega)) (ad (a8 F) (ad (a_ f_ F bj F F) (ao F (bN (vs:=[(vN (ia+1))]) 0 bj F F F F ?_))))
 refine ae (aM (ai (ah F (ae (aU (ai (ad (aB (bJ F F) (ak (by decide))) (aj F (ae (a6 F (ai (ad (aB (bJ F F) (ak (by decide))) (aj F ?_)))))))))))))
 refine ae (a6 F (ai (ad (aB (bJ F F) (ak (by decide))) (aj F (ae (a6 F (ai (ad (aB (bJ F F) (ay (by decide))) (aj F ?_)))))))))
 refine ae ?_
 refine bO F ?_
 refine ai (ah F ?_)
 let gK:List Lx.Item:=[oI rb 149 [(str S),(vN (ia+1)),(.slice lb l.length lc),vI 0],aq lb lc 72 5 (bt l)]
 have Cj:=(bW.under (A:=gK) (B:=[]) (O:=gK) (D5 base rb lb lc) (by exact Sub.rf))
 refine ao F (bl RV Cj F ?_)
 clear Cj
 rintro vr O' ⟨A9,rfl,tq,tv,rfl,rfl⟩
 refine aj F (ae (aK (aA ?_)))
 refine aS (vN i) Tryz.results96 F ?_
 exact⟨[oI rb 149 [(str S),vN ib,(.slice tq m.length tv),vI 0],aq tq tv 72 5 (bt m)],(by exact Sub.rf),_,_,F,F⟩
theorem NO {S:List UInt8} (qt:S.length≤4096) {ia i ib:Nat} {l m:List dK} (hm:m.length≤1000) (h1:Ch S ia 62) (hE:uc 96 S (ia+1) l i ib m) (h2:Ch S ib 41):uc 135 S ia l m.length (ib+1) (m++[(⟨9,0,0,(i:Int),0⟩:dK)]):=by
 intro base _ rb lb lc
 refine aF func135 F ntmps135 F ?_
 have gn:=h1.lt;have lO:=h2.lt
 refine ai (aj F (ae (ai (ah F ?_))))
 have u_:=(bW.under (A:=[oI rb 149 [(str S),vN ia,(.slice lb l.length lc),vI 0]]) (B:=[aq lb lc 72 5 (bt l)]) (O:=[oI rb 149 [(str S),vN ia,(.slice lb l.length lc),vI 0],aq lb lc 72 5 (bt l)]) (tn base rb S qt ia 62 l.length lc lb h1) (by exact Sub.rf))
 refine ao F (bl k_ u_ F ?_)
 clear u_
 rintro vr O' ⟨A9,rfl,rfl,rfl⟩
 refine aj F (ae (ai (aj F (ae (aM (ai (ah F (ae (aU (ai (ad (aB (bJ F F) (ak (by omega))) (aj F (ae ?_)))))))))))))
 refine a6 F (ai (ad (aB (bJ F F) (ay (by omega))) (aj F (ae ?_))))
 refine bO F ?_
 refine a7 (aj F (ae (aM (ai (ah F (ad (aB (dQ F F) (ay (by decide))) (ae ?_)))))))
 refine bO F ?_
 refine ai (ah F (ad (a8 F) (ad (a_ f_ F bj F F) (ad (bi 0 dP F F F F) (ad (dy (a:=ia) (b:=1) F F (by omega)) (ad (a8 F) (ad (a_ f_ F bj F F) (ao F (bN (vs:=[(vN (ia+1))]) 0 bj F F F F ?_)))))))))
 refine ae (ai (ah F ?_))
 let iG:List Lx.Item:=[oI rb 149 [(str S),(vN (ia+1)),(.slice lb l.length lc),vI 0],aq lb lc 72 5 (bt l)]
 have tp:=(bW.under (A:=iG) (B:=[]) (O:=iG) (hE base rb lb lc) (by exact Sub.rf))
 refine ao F (bl Ck tp F ?_)
 clear tp
 rintro vr O' ⟨A9,rfl,tq,tv,rfl,rfl⟩
 refine aj F (ae (ai (ah F ?_)))
 have tw:=(bW.under (A:=[oI rb 149 [(str S),vN ib,(.slice tq m.length tv),vI 0]]) (B:=[aq tq tv 72 5 (bt m)]) (O:=[oI rb 149 [(str S),vN ib,(.slice tq m.length tv),vI 0],aq tq tv 72 5 (bt m)]) (NN base rb S qt ib 41 m.length tv tq h2) (by exact Sub.rf))
 refine ao F (bl AH tw F ?_)
 clear tw
 rintro vr O' ⟨A9,rfl,rfl,rfl⟩
 refine ae (ai (ah F (ah F (ah F (ad (cE (cs:=[.int .u8 9,(.int .u8 0),(.int .u8 0),vN i,(vI 0)]) nh cm (by kernel_rfl)) ?_)))))
 let lw:List Lx.Item:=[oI rb 149 [(str S),vN (ib+1),(.slice tq m.length tv),vI 0],aq tq tv 72 5 (bt m)]
 have JT:=(bW.under (A:=lw) (B:=[]) (O:=lw) (FJ base rb S (ib+1) tv tq m (⟨9,0,0,(i:Int),0⟩:dK) hm) (by exact Sub.rf))
 refine ao F (bl AI JT F ?_)
 clear JT
 rintro vr O' ⟨A9,rfl,P6,P7,rfl,rfl⟩
 refine aj F (ae (aK (aA ?_)))
 refine aS (vN m.length) Tryz.results135 F ?_
 exact⟨[oI rb 149 [(str S),vN (ib+1),(.slice P6 ((m++[(⟨9,0,0,(i:Int),0⟩:dK)]).length) P7),vI 0],aq P6 P7 72 5 (bt (m++[(⟨9,0,0,(i:Int),0⟩:dK)]))],(by exact Sub.rf),_,_,F,F⟩
theorem JU {S:List UInt8} (qt:S.length≤4096) {ia i ib c0:Nat} {l m:List dK} (hm:m.length≤1000) (h1:Ch S ia c0) (yo:c0=40∨c0=91) (hE:uc 96 S ia l i ib m) (h2:Ch S ib 42) (h3:Ch S (ib+1) 41):uc 135 S ia l m.length (ib+1+1) (m++[(⟨8,0,0,(i:Int),0⟩:dK)]):=by
 intro base _ rb lb lc
 refine aF func135 F ntmps135 F ?_
 have gn:=h1.lt;have lO:=h2.lt;have ZF:=h3.lt
 refine ai (aj F (ae (ai (ah F ?_))))
 let jD:List Lx.Item:=[oI rb 149 [(str S),vN ia,(.slice lb l.length lc),vI 0],aq lb lc 72 5 (bt l)]
 have u_:=(bW.under (A:=[oI rb 149 [(str S),vN ia,(.slice lb l.length lc),vI 0]]) (B:=[aq lb lc 72 5 (bt l)]) (O:=jD) (tn base rb S qt ia c0 l.length lc lb h1) (by exact Sub.rf))
 refine ao F (bl k_ u_ F ?_)
 clear u_
 rintro vr O' ⟨A9,rfl,rfl,rfl⟩
 refine aj F (ae (ai (aj F (ae (aM (ai (ah F (ae (aU (ai (ad (aB (bJ F F) (ak (by omega))) (aj F (ae ?_)))))))))))))
 refine a6 F (ai (ad (aB (bJ F F) (ak (by omega))) (aj F (ae (a6 F (ai (ad (aB (bJ F F) (ak (by omega))) (aj F (ae ?_)))))))))
 refine a6 F (aE (aM (ai (ah F (ad (aB (dQ F F) (ak (by decide))) (ae (a6 F (aE (ai (ah F ?_))))))))))
 have Cl:=(bW.under (A:=jD) (B:=[]) (O:=jD) (hE base rb lb lc) (by exact Sub.rf))
 refine ao F (bl Ck Cl F ?_)
 clear Cl
 rintro vr O' ⟨A9,rfl,tq,tv,rfl,rfl⟩
 refine aj F (ae (aM (ai (ah F ?_))))
 let tk:Lx.Item:=aq tq tv 72 5 (bt m)
 let ut:Value:=(.slice tq m.length tv)
 have JV:=(bW.under (A:=[oI rb 149 [(str S),vN ib,ut,vI 0]]) (B:=[tk]) (O:=[oI rb 149 [(str S),vN ib,ut,vI 0],tk]) (tn base rb S qt ib 42 m.length tv tq h2) (by exact Sub.rf))
 refine ao F (bl k_ JV F ?_)
 clear JV
 rintro vr O' ⟨A9,rfl,rfl,rfl⟩
 refine ae (aU (ai (ad (aB (bJ F F) (ay (by decide))) (aj F (ae ?_)))))
 refine bO F ?_
 refine ai (ah F (ad (a8 F) (ad (a_ f_ F bj F F) (ad (bi 0 dP F F F F) (ad (dy (a:=ib) (b:=1) F F (by omega)) (ad (a8 F) (ad (a_ f_ F bj F F) (ao F (bN (vs:=[(vN (ib+1))]) 0 bj F F F F ?_)))))))))
 refine ae (ai (ah F ?_))
 have Cm:=(bW.under (A:=[oI rb 149 [(str S),(vN (ib+1)),ut,vI 0]]) (B:=[tk]) (O:=[oI rb 149 [(str S),(vN (ib+1)),ut,vI 0],tk]) (NN base rb S qt (ib+1) 41 m.length tv tq h3) (by exact Sub.rf))
 refine ao F (bl AH Cm F ?_)
 clear Cm
 rintro vr O' ⟨A9,rfl,rfl,rfl⟩
 refine ae (ai (ah F (ah F (ad (cE (cs:=[.int .u8 8,(.int .u8 0),(.int .u8 0),vN i,(vI 0)]) nh cm (by kernel_rfl)) ?_))))
 have Cn:=(bW.under (A:=[oI rb 149 [(str S),vN (ib+1+1),ut,vI 0],tk]) (B:=[]) (O:=[oI rb 149 [(str S),vN (ib+1+1),ut,vI 0],tk]) (FJ base rb S (ib+1+1) tv tq m (⟨8,0,0,(i:Int),0⟩:dK) hm) (by exact Sub.rf))
 refine ao F (bl AI Cn F ?_)
 clear Cn
 rintro vr O' ⟨A9,rfl,P6,P7,rfl,rfl⟩
 refine aj F (ae (aK (aA ?_)))
 refine aS (vN m.length) Tryz.results135 F ?_
 exact⟨[oI rb 149 [(str S),vN (ib+1+1),(.slice P6 ((m++[(⟨8,0,0,(i:Int),0⟩:dK)]).length) P7),vI 0],aq P6 P7 72 5 (bt (m++[(⟨8,0,0,(i:Int),0⟩:dK)]))],(by exact Sub.rf),_,_,F,F⟩
theorem FK {S:List UInt8} (qt:S.length≤4096) {ia i ib j ic c0:Nat} {l m m2:List dK} (hm:m2.length≤1000) (h1:Ch S ia c0) (yo:c0=40∨c0=91) (hE:uc 96 S ia l i ib m) (h2:Ch S ib 46) (RW:uc 96 S (ib+1) m j ic m2) (h3:Ch S ic 41):uc 135 S ia l m2.length (ic+1) (m2++[(⟨4,0,0,(i:Int),(j:Int)⟩:dK)]):=by
 intro base _ rb lb lc
 refine aF func135 F ntmps135 F ?_
 have gn:=h1.lt;have lO:=h2.lt;have ZF:=h3.lt
 refine ai (aj F (ae (ai (ah F ?_))))
 let oV:List Lx.Item:=[oI rb 149 [(str S),vN ia,(.slice lb l.length lc),vI 0],aq lb lc 72 5 (bt l)]
 have u_:=(bW.under (A:=[oI rb 149 [(str S),vN ia,(.slice lb l.length lc),vI 0]]) (B:=[aq lb lc 72 5 (bt l)]) (O:=oV) (tn base rb S qt ia c0 l.length lc lb h1) (by exact Sub.rf))
 refine ao F (bl k_ u_ F ?_)
 clear u_
 rintro vr O' ⟨A9,rfl,rfl,rfl⟩
 refine aj F (ae (ai (aj F (ae (aM (ai (ah F (ae (aU (ai (ad (aB (bJ F F) (ak (by omega))) (aj F (ae ?_)))))))))))))
 refine a6 F (ai (ad (aB (bJ F F) (ak (by omega))) (aj F (ae (a6 F (ai (ad (aB (bJ F F) (ak (by omega))) (aj F (ae ?_)))))))))
 refine a6 F (aE (aM (ai (ah F (ad (aB (dQ F F) (ak (by decide))) (ae (a6 F (aE (ai (ah F ?_))))))))))
 have Cl:=(bW.under (A:=oV) (B:=[]) (O:=oV) (hE base rb lb lc) (by exact Sub.rf))
 refine ao F (bl Ck Cl F ?_)
 clear Cl
 rintro vr O' ⟨A9,rfl,tq,tv,rfl,rfl⟩
 refine aj F (ae (aM (ai (ah F ?_))))
 have JV:=(bW.under (A:=[oI rb 149 [(str S),vN ib,(.slice tq m.length tv),vI 0]]) (B:=[aq tq tv 72 5 (bt m)]) (O:=[oI rb 149 [(str S),vN ib,(.slice tq m.length tv),vI 0],aq tq tv 72 5 (bt m)]) (tn base rb S qt ib 46 m.length tv tq h2) (by exact Sub.rf))
 refine ao F (bl k_ JV F ?_)
 clear JV
 rintro vr O' ⟨A9,rfl,rfl,rfl⟩
 refine ae (aU (ai (ad (aB (bJ F F) (ak (by decide))) (aj F (ae (a6 F (ai (ad (aB (bJ F F) (ay (by decide))) (aj F (ae ?_))))))))))
 refine bO F ?_
 refine a7 (aj F (ae (ai (ah F (ad (a8 F) (ad (a_ f_ F bj F F) (ad (bi 0 dP F F F F) (ad (dy (a:=ib) (b:=1) F F (by omega)) (ad (a8 F) (ad (a_ f_ F bj F F) (ao F (bN (vs:=[(vN (ib+1))]) 0 bj F F F F ?_))))))))))))
 refine ae (ai (ah F ?_))
 let lu:List Lx.Item:=[oI rb 149 [(str S),(vN (ib+1)),(.slice tq m.length tv),vI 0],aq tq tv 72 5 (bt m)]
 have VA:=(bW.under (A:=lu) (B:=[]) (O:=lu) (RW base rb tq tv) (by exact Sub.rf))
 refine ao F (bl Ck VA F ?_)
 clear VA
 rintro vr O' ⟨A9,rfl,RX,RY,rfl,rfl⟩
 refine aj F (ae (ai (ah F ?_)))
 let mF:Lx.Item:=oI rb 149 [(str S),vN ic,(.slice RX m2.length RY),vI 0]
 have JW:=(bW.under (A:=[mF]) (B:=[aq RX RY 72 5 (bt m2)]) (O:=[mF,aq RX RY 72 5 (bt m2)]) (NN base rb S qt ic 41 m2.length RY RX h3) (by exact Sub.rf))
 refine ao F (bl AH JW F ?_)
 clear JW
 rintro vr O' ⟨A9,rfl,rfl,rfl⟩
 refine ae (ai (ah F (ah F (ah F (ah F (ad (cE (cs:=[.int .u8 4,(.int .u8 0),(.int .u8 0),vN i,vN j]) nh cm (by kernel_rfl)) ?_))))))
 let mn:List Lx.Item:=[oI rb 149 [(str S),vN (ic+1),(.slice RX m2.length RY),vI 0],aq RX RY 72 5 (bt m2)]
 have VB:=(bW.under (A:=mn) (B:=[]) (O:=mn) (FJ base rb S (ic+1) RY RX m2 (⟨4,0,0,(i:Int),(j:Int)⟩:dK) hm) (by exact Sub.rf))
 refine ao F (bl AI VB F ?_)
 clear VB
 rintro vr O' ⟨A9,rfl,P6,P7,rfl,rfl⟩
 refine aj F (ae (aK (aA ?_)))
 refine aS (vN m2.length) Tryz.results135 F ?_
 exact⟨[oI rb 149 [(str S),vN (ic+1),(.slice P6 ((m2++[(⟨4,0,0,(i:Int),(j:Int)⟩:dK)]).length) P7),vI 0],aq P6 P7 72 5 (bt (m2++[(⟨4,0,0,(i:Int),(j:Int)⟩:dK)]))],(by exact Sub.rf),_,_,F,F⟩
end Go.Proofs.YtgdbfideeeegmaaGreatDoor

namespace Go.Proofs.YtgdbfideeeegmaaGreatDoor
open Go.Lx Go.RowKit _root_.Go.Proofs.Tryz
theorem AJ (w:World) [dE Tryz.prog w] (o:Nat) (h1:1≤o) (h2:o≤10):
  cH Tryz.prog 48 [v8 o] w fun v N=>v=vI (dH o:Int)∧N=[]:=by
 refine aF func48 F ntmps48 F ?_
 refine ai (aj F (ae (aM (ai (ah F (ae (aU ?_)))))))
 refine gz (fun ρ O=>Sub [] O∧dv [(0,v8 o),(2,vI 0),(3,v8 o),(4,.bool (decide (o=1∨o=2∨o=3)))] ρ) ?_ ?_
 ·refine aM ?_
  refine a7 (ad (bJ F F) (aj F (ae (aP F (fun hc=>?_) (fun hc=>?_)))))
  ·have ZG:o=1:=by omega
   refine aE ?_
   exact⟨(by exact Sub.rf),⟨F,F,F,(ax Value.bool (decide_eq_decide.2 (by omega))),trivial⟩⟩
  have ZH: ¬o=1:=by omega
  refine ai (ad (bJ F F) (aj F (ae (aP F (fun hc=>?_) (fun hc=>?_)))))
  ·have ZG:o=2:=by omega
   refine aE ?_
   exact⟨(by exact Sub.rf),⟨F,F,F,(ax Value.bool (decide_eq_decide.2 (by omega))),trivial⟩⟩
  have ZH: ¬o=2:=by omega
  refine a7 (ad (bJ F F) (aj F (ae ?_)))
  exact⟨(by exact Sub.rf),⟨F,F,F,(ax Value.bool (decide_eq_decide.2 (by omega))),trivial⟩⟩
 rintro ρ O ⟨hS,hH⟩
 obtain⟨gF,rfl⟩:=hH.elim
 clear hH
 refine dx hS ?_
 refine aP F (fun hc=>?_) (fun hc=>?_)
 ·refine aM ?_
  refine a7 (aj F (ae (aK ?_)))
  refine aS (vI 0) Tryz.results48 F ?_
  exact⟨ax (fun n:Nat=>Value.int .i64 (n:Int)) (show 0=dH o by unfold dH;rw[az (by omega),az (by omega)]),F⟩
 refine gz (fun ρ O=>Sub [] O∧dv [(0,v8 o),(2,vI 0),(3,v8 o),(4,.bool (decide (o=1∨o=2∨o=3))),(8,.bool (decide (o=7∨o=8∨o=9∨o=10)))] ρ) ?_ ?_
 ·refine aM ?_
  refine a7 (ad (bJ F F) (aj F (ae (aP F (fun hc=>?_) (fun hc=>?_)))))
  ·have VC:o=7:=by omega
   refine aE ?_
   exact⟨(by exact Sub.rf),⟨F,F,F,F,(ax Value.bool (decide_eq_decide.2 (by omega))),trivial⟩⟩
  have VD: ¬o=7:=by omega
  refine ai (ad (bJ F F) (aj F (ae (aP F (fun hc=>?_) (fun hc=>?_)))))
  ·have VC:o=8:=by omega
   refine aE ?_
   exact⟨(by exact Sub.rf),⟨F,F,F,F,(ax Value.bool (decide_eq_decide.2 (by omega))),trivial⟩⟩
  have VD: ¬o=8:=by omega
  refine ai (ad (bJ F F) (aj F (ae (aP F (fun hc=>?_) (fun hc=>?_)))))
  ·have VC:o=9:=by omega
   refine aE ?_
   exact⟨(by exact Sub.rf),⟨F,F,F,F,(ax Value.bool (decide_eq_decide.2 (by omega))),trivial⟩⟩
  have VD: ¬o=9:=by omega
  refine a7 (ad (bJ F F) (aj F (ae ?_)))
  exact⟨(by exact Sub.rf),⟨F,F,F,F,(ax Value.bool (decide_eq_decide.2 (by omega))),trivial⟩⟩
 rintro ρ O ⟨hS,hH⟩
 obtain⟨gF,rfl⟩:=hH.elim
 clear hH
 refine dx hS ?_
 refine aP F (fun hc=>?_) (fun hc=>?_)
 ·refine aM ?_
  refine a7 (aj F (ae (aK ?_)))
  refine aS (vI 1) Tryz.results48 F ?_
  exact⟨ax (fun n:Nat=>Value.int .i64 (n:Int)) (show 1=dH o by unfold dH;rw[az (by omega),aO (by omega)]),F⟩
 refine gz (fun ρ O=>Sub [] O∧dv [(0,v8 o),(2,vI 0),(3,v8 o),(4,.bool (decide (o=1∨o=2∨o=3))),(8,.bool (decide (o=7∨o=8∨o=9∨o=10))),(13,.bool (decide (o=4∨o=5∨o=6)))] ρ) ?_ ?_
 ·refine aM ?_
  refine a7 (ad (bJ F F) (aj F (ae (aP F (fun hc=>?_) (fun hc=>?_)))))
  ·have lE:o=4:=by omega
   refine aE ?_
   exact⟨(by exact Sub.rf),⟨F,F,F,F,F,(ax Value.bool (decide_eq_decide.2 (by omega))),trivial⟩⟩
  have JX: ¬o=4:=by omega
  refine ai (ad (bJ F F) (aj F (ae (aP F (fun hc=>?_) (fun hc=>?_)))))
  ·have lE:o=5:=by omega
   refine aE ?_
   exact⟨(by exact Sub.rf),⟨F,F,F,F,F,(ax Value.bool (decide_eq_decide.2 (by omega))),trivial⟩⟩
  have JX: ¬o=5:=by omega
  refine a7 (ad (bJ F F) (aj F (ae ?_)))
  exact⟨(by exact Sub.rf),⟨F,F,F,F,F,(ax Value.bool (decide_eq_decide.2 (by omega))),trivial⟩⟩
 rintro ρ O ⟨hS,hH⟩
 obtain⟨gF,rfl⟩:=hH.elim
 clear hH
 refine dx hS ?_
 refine aP F (fun hc=>?_) (fun hc=>?_)
 ·refine aM ?_
  refine a7 (aj F (ae (aK ?_)))
  refine aS (vI 2) Tryz.results48 F ?_
  exact⟨ax (fun n:Nat=>Value.int .i64 (n:Int)) (show 2=dH o by unfold dH;rw[aO (by omega)]),F⟩
 refine aE (ai (aj F (ae (aK ?_))))
 refine aS (vI (-1)) Tryz.results48 F ?_
 exact absurd h1 (by omega)
theorem RZ (w:World) [dE Tryz.prog w] (p n v:Nat) (hp:p<256) (hn:n<256) (hv:v≤6) (h0:pj v p n=0):
  cH Tryz.prog 79 [.agg #[v8 p,v8 n],vN v] w fun r N=>r=vI 0∧N=[]:=by
 refine aF func79 F ntmps79 F ?_
 have hb:(p|||n)<2^v∧p&&&n=0:=by
  unfold pj at h0;split at h0<;>(try split at h0)<;>omega
 have hvt:(2:Nat)^((v:Int)).toNat=2^v:=by simp
 have Hr:p≤p|||n:=Nat.left_le_or
 have D8:n≤p|||n:=Nat.right_le_or
 refine ai (ao F (dG (cs:=[v8 p,v8 n]) F F (fun nY=>?_)))
 refine aj F (ae (aM (ai (ah F (ad (aB (cT F F) (ak (by omega))) (ah F (aG F F (aN F) (aG F F (aB (iy F F) (ak (by omega))) (ad (cg F F) (ae (a6 F ?_)))))))))))
 refine aE (ai (ah F ?_))
 have Co:=fun(w1:World) (hI:Inv w [oI nY 129 [v8 p,v8 n]] w1)=>(haveI:=et hI;Jd w1 (v:Int) (by omega) (by omega))
 refine ao F (bl VE (aX Co) F ?_)
 clear Co
 rintro vr O' ⟨N,rfl,rfl,rfl⟩
 refine aj F (ae (aM (ai (ad (a_ ld F du F F) (ad (bi 0 fA F F F F) (ad (fX fA dP F (by first|rfl|exact gS ⟨by omega,by omega⟩|exact qi (by omega)|exact nI (by omega))) (ah F (ad (aB (lB F F) (ak (by omega))) (ah F (aG F F (a_ ld F du F F) (aG F F (bi 0 fA F F F F) (aG F F (fX fA dP F (by first|rfl|exact gS ⟨by omega,by omega⟩|exact qi (by omega)|exact nI (by omega))) (aG F F (aN F) ?_)))))))))))))
 refine aG F F (aB (lB F F) (ak (by omega))) (ad (cg F F) (ae (a6 F (aE (aM (ai (ad (a_ ld F du F F) (ad (bi 0 fA F F F F) (ad (a_ ld F du F F) (ad (bi 0 fA F F F F) (ad (FD (a:=p) (b:=n) .u8 F F (by show _<256;omega) (by show _<256;omega)) (ad (aB (dQ F F) (ak (by simp only[hb.2];decide))) (ae ?_)))))))))))))
 refine a6 F (aE (ai (aj F (ae (aK (aA ?_))))))
 refine aS (vI 0) Tryz.results79 F ?_
 exact⟨[],Sub.z,F,F⟩
theorem NP (w:World) [dE Tryz.prog w] (x:dK) (v:Nat) (hp:x.p<256) (hn:x.n<256) (hv:v≤6) (h0:gf v x=0):
  cH Tryz.prog 47 [x.ag,vN v] w fun r N=>r=vI 0∧N=[]:=by
 refine aF func47 F ntmps47 F ?_
 obtain⟨vO,rG,q1,q2,q3⟩:=lP h0
 have hp0:x.op=3∨(x.p=0∧x.n=0):=by
  by_cases h:x.op=3
  ·exact .inl h
  ·exact .inr (q1 h)
 have ZI: ¬dH x.op<1∨x.a=0:=by
  by_cases h:dH x.op<1
  ·exact .inr (q2 h)
  ·exact .inl h
 have IM: ¬dH x.op<2∨x.b=0:=by
  by_cases h:dH x.op<2
  ·exact .inr (q3 h)
  ·exact .inl h
 have ZE:x.op=3→pj v x.p x.n=0:=fun h=>by unfold gf at h0;rw[az (by omega),aO h]at h0;split at h0<;>first|exact h0|omega
 clear q1 q2 q3
 refine ai (ao F (dG (cs:=x.cl) F F (fun nY=>?_)))
 refine aj F (ae (ai (ad (a_ bU F du F F) (ad (bi 0 fA F F F F) ?_))))
 have FL:=fun(w1:World) (hI:Inv w [oI nY 72 x.cl] w1)=>(haveI:=et hI;AJ w1 x.op vO rG)
 refine ao F (bl FM (aX FL) F ?_)
 clear FL
 rintro vr O' ⟨N,rfl,rfl,rfl⟩
 refine aj F (ae (aM (ai (ah F (ad (aB (cT F F) (ak (by omega))) (ae (a6 F (aE ?_))))))))
 refine gz (fun ρ O=>Sub [oI nY 72 x.cl] O∧dv [(0,x.ag),(1,vN v),(2,(.pointer (aD nY))),(5,vI (dH x.op:Int)),(41,.bool false)] ρ) ?_ ?_
 ·refine aM ?_
  refine a7 (ad (a_ bU F du F F) (ad (bi 0 fA F F F F) ?_))
  by_cases h3:((x.op:Nat):Int)≠3
  ·refine ad (aB (dQ F F) (ay h3)) ?_
   refine ah F (aG F F (a_ bU F du F F) (aG F F (bi 0 fA F F F F) (aG F F (aB (dQ F F) (ak (by omega))) (aG F F (aN F) (aG F F (a_ bU F du F F) (aG F F (bi 0 fA F F F F) (aG F F (aB (dQ F F) (ak (by omega))) ?_)))))))
   refine aG F F (cg F F) (ad (cA F F) (ah F (aG F F (aN F) ?_)))
   by_cases yo:((dH x.op:Nat):Int)<1
   ·refine aG F F (aB (cT F F) (ay yo)) ?_
    refine aG F F (aN F) (aG F F (a_ bU F bj F F) (aG F F (bi 0 dP F F F F) (aG F F (aB (dQ F F) (ak (by omega))) (aG F F (cA F F) (ad (cg F F) (ah F (aG F F (aN F) ?_)))))))
    by_cases n6:((dH x.op:Nat):Int)<2
    ·refine aG F F (aB (cT F F) (ay n6)) ?_
     refine aG F F (aN F) (aG F F (a_ bU F bj F F) (aG F F (bi 0 dP F F F F) (aG F F (aB (dQ F F) (ak (by omega))) (aG F F (cA F F) (ad (cg F F) (ae (a6 F ?_)))))))
     refine aE ?_
     exact⟨(by exact Sub.rf),(.of F)⟩
    refine aG F F (aB (cT F F) (ak n6)) (aG F F (aN F) (aV F F (aV F F (aV F F (aG F F (cg F F) (ad (cg F F) (ae ?_)))))))
    refine a6 F (aE ?_)
    exact⟨(by exact Sub.rf),(.of F)⟩
   refine aG F F (aB (cT F F) (ak yo)) (aG F F (aN F) (aV F F (aV F F (aV F F (aG F F (cg F F) (ad (cg F F) (ah F (aG F F (aN F) ?_))))))))
   by_cases n6:((dH x.op:Nat):Int)<2
   ·refine aG F F (aB (cT F F) (ay n6)) ?_
    refine aG F F (aN F) (aG F F (a_ bU F bj F F) (aG F F (bi 0 dP F F F F) (aG F F (aB (dQ F F) (ak (by omega))) (aG F F (cA F F) (ad (cg F F) (ae (a6 F ?_)))))))
    refine aE ?_
    exact⟨(by exact Sub.rf),(.of F)⟩
   refine aG F F (aB (cT F F) (ak n6)) (aG F F (aN F) (aV F F (aV F F (aV F F (aG F F (cg F F) (ad (cg F F) (ae ?_)))))))
   refine a6 F (aE ?_)
   exact⟨(by exact Sub.rf),(.of F)⟩
  refine ad (aB (dQ F F) (ak h3)) (ah F (aV F F (aV F F (aV F F (aV F F (aV F F (aV F F (aV F F ?_))))))))
  refine aV F F (ad (cg F F) (ah F (aG F F (aN F) ?_)))
  by_cases yo:((dH x.op:Nat):Int)<1
  ·refine aG F F (aB (cT F F) (ay yo)) ?_
   refine aG F F (aN F) (aG F F (a_ bU F bj F F) (aG F F (bi 0 dP F F F F) (aG F F (aB (dQ F F) (ak (by omega))) (aG F F (cA F F) (ad (cg F F) (ah F (aG F F (aN F) ?_)))))))
   by_cases n6:((dH x.op:Nat):Int)<2
   ·refine aG F F (aB (cT F F) (ay n6)) ?_
    refine aG F F (aN F) (aG F F (a_ bU F bj F F) (aG F F (bi 0 dP F F F F) (aG F F (aB (dQ F F) (ak (by omega))) (aG F F (cA F F) (ad (cg F F) (ae (a6 F ?_)))))))
    refine aE ?_
    exact⟨(by exact Sub.rf),(.of F)⟩
   refine aG F F (aB (cT F F) (ak n6)) (aG F F (aN F) (aV F F (aV F F (aV F F (aG F F (cg F F) (ad (cg F F) (ae ?_)))))))
   refine a6 F (aE ?_)
   exact⟨(by exact Sub.rf),(.of F)⟩
  refine aG F F (aB (cT F F) (ak yo)) (aG F F (aN F) (aV F F (aV F F (aV F F (aG F F (cg F F) (ad (cg F F) (ah F (aG F F (aN F) ?_))))))))
  by_cases n6:((dH x.op:Nat):Int)<2
  ·refine aG F F (aB (cT F F) (ay n6)) ?_
   refine aG F F (aN F) (aG F F (a_ bU F bj F F) (aG F F (bi 0 dP F F F F) (aG F F (aB (dQ F F) (ak (by omega))) (aG F F (cA F F) (ad (cg F F) (ae (a6 F ?_)))))))
   refine aE ?_
   exact⟨(by exact Sub.rf),(.of F)⟩
  refine aG F F (aB (cT F F) (ak n6)) (aG F F (aN F) (aV F F (aV F F (aV F F (aG F F (cg F F) (ad (cg F F) (ae ?_)))))))
  refine a6 F (aE ?_)
  exact⟨(by exact Sub.rf),(.of F)⟩
 rintro ρ O ⟨hS,hH⟩
 obtain⟨gF,rfl⟩:=hH.elim
 clear hH
 refine dx hS ?_
 refine aM (ai (ad (a_ bU F du F F) (ad (bi 0 fA F F F F) (ad (bJ F F) (ae (aP F (fun hc=>?_) (fun hc=>?_)))))))
 ·have l7:x.op=3:=by omega
  refine ai (ad (a_ bU F du F F) (ad (bi 0 fA F F F F) (ad (a_ bU F du F F) (ad (bi 0 fA F F F F) (ad (cE (cs:=[v8 x.p,v8 x.n]) jn gj (by kernel_rfl)) (ah F ?_))))))
  have JY:=fun(w1:World) (hI:Inv w [oI nY 72 x.cl] w1)=>(haveI:=et hI;RZ w1 x.p x.n v hp hn hv (ZE l7))
  refine ao F (bl VF (aX JY) F ?_)
  clear JY
  rintro vr O' ⟨N,rfl,rfl,rfl⟩
  refine aj F (ae (aK (aA ?_)))
  refine aS (vI 0) Tryz.results47 F ?_
  exact⟨[],Sub.z,F,F⟩
 have PJ: ¬x.op=3:=by omega
 refine aE (ai (aj F (ae (aK (aA ?_)))))
 refine aS (vI 0) Tryz.results47 F ?_
 exact⟨[],Sub.z,F,F⟩
theorem VG (w:World) [dE Tryz.prog w] (o:Nat):
  cH Tryz.prog 80 [v8 o] w fun v N=>v=.bool (decide (o=9)||decide (o=10))∧N=[]:=by
 refine aF func80 F ntmps80 F ?_
 refine ai (aj F (ae (ai (ah F ?_))))
 by_cases h9:((o:Nat):Int)=9
 ·refine ad (aB (bJ F F) (ay h9)) ?_
  refine ah F (aV F F (aV F F (ad (cA F F) (aj F (ae (aK ?_))))))
  refine aS (.bool true) Tryz.results80 F ?_
  exact⟨ax Value.bool (by rw[ay (show o=9 by omega)];rfl),F⟩
 refine ad (aB (bJ F F) (ak h9)) (ah F (aG F F (aN F) (aG F F (bJ F F) (ad (cg F F) (aj F (ae (aK ?_)))))))
 refine aS (.bool (decide (((o:Nat):Int)=10))) Tryz.results80 F ?_
 exact⟨ax Value.bool (by rw[ak (show¬o=9 by omega)];exact decide_eq_decide.2 (by omega)),F⟩
theorem NQ (w:World) [dE Tryz.prog w] (eb:Option Addr) (ec:Nat) (e:List dK) (hE:Sl w eb (bt e)) (i:Nat) (fr:Bool) (hi:i<e.length) (vO:1≤e[i].op) (rG:e[i].op≤10) (ZJ:(decide (e[i].op=9)||decide (e[i].op=10))=true→(!fr)=false) (FN:1≤dH e[i].op→ ∀w1 [dE Tryz.prog w1],Inv w [] w1→cH Tryz.prog 49 [(.slice eb e.length ec),vI e[i].a,.bool (fr&&decide (e[i].op=4∨e[i].op=5))] w1 fun v N=>v=.bool false∧N=[]) (JZ:2≤dH e[i].op→ ∀w1 [dE Tryz.prog w1],Inv w [] w1→cH Tryz.prog 49 [(.slice eb e.length ec),vI e[i].b,.bool (fr&&decide (e[i].op=4∨e[i].op=5))] w1 fun v N=>v=.bool false∧N=[]):
  cH Tryz.prog 49 [(.slice eb e.length ec),vN i,.bool fr] w fun v N=>v=.bool false∧N=[]:=by
 refine aF func49 F ntmps49 F ?_
 refine ai (aj F (ae ?_))
 refine gz (fun ρ O=>Sub [] O∧dv [(0,(.slice eb e.length ec)),(1,vN i),(2,.bool fr)] ρ) ?_ ?_
 ·refine aM ?_
  refine a7 (ah F (ah F (ad (dT (i:=i) cX cm F F (aL hE) hi (by rw[bY];omega)) (ad (cy bU F du F F (aL hE) (by rw[bY];omega)) ?_))))
  refine ad (de fA F F (aL hE) (fy (ap hi) 0 (by show 0<5;decide))) ?_
  have Co:=fun(w1:World) (hI:Inv w [] w1)=>(haveI:=et hI;VG w1 e[i].op)
  refine ao F (bl VH (aX Co) F ?_)
  clear Co
  rintro vr O' ⟨N,rfl,rfl,rfl⟩
  by_cases R0:(decide (e[i].op=9)||decide (e[i].op=10))=true
  ·refine ad (aB (aN F) (R0)) ?_
   refine aG F F (aN F) (aG F F (jh F) (ad (cA F F) (ae (a6 (ax Value.bool (ZJ R0)) (aE ?_)))))
   exact⟨(by exact Sub.rf),⟨F,F,F,trivial⟩⟩
  refine ad (aB (aN F) (Bool.eq_false_iff.2 R0)) (aV F F (aV F F (ad (cg F F) (ae (a6 F (aE ?_))))))
  exact⟨(by exact Sub.rf),⟨F,F,F,trivial⟩⟩
 rintro ρ O ⟨hS,hH⟩
 obtain⟨gF,rfl⟩:=hH.elim
 clear hH
 refine dx hS ?_
 refine gz (fun ρ O=>Sub [] O∧dv [(0,(.slice eb e.length ec)),(1,vN i),(2,.bool fr),(7,.bool (fr&&decide (e[i].op=4∨e[i].op=5)))] ρ) ?_ ?_
 ·refine a7 ?_
  refine ah F ?_
  by_cases J0:fr=true
  ·refine ad (aB (aN F) (J0)) ?_
   refine aG F F (aN F) (aG F F (aN F) (aG F F (dT (i:=i) cX cm F F (aL hE) hi (by rw[bY];omega)) (aG F F (cy bU F du F F (aL hE) (by rw[bY];omega)) ?_)))
   refine aG F F (de fA F F (aL hE) (fy (ap hi) 0 (by show 0<5;decide))) ?_
   refine aG F F (bJ F F) ?_
   by_cases h4:((e[i].op:Nat):Int)=4
   ·refine aG F F (aB (aN F) (ay h4)) ?_
    refine aV F F (aV F F (aV F F (aV F F (aV F F (aV F F (aG F F (cA F F) (ad (cA F F) (aj F ?_))))))))
    refine ae ?_
    exact⟨(by exact Sub.rf),⟨F,F,F,(ax Value.bool (by rw[J0,ay (show e[i].op=4∨e[i].op=5 by omega)];rfl)),trivial⟩⟩
   refine aG F F (aB (aN F) (ak h4)) (aG F F (aN F) (aG F F (aN F) (aG F F (dT (i:=i) cX cm F F (aL hE) hi (by rw[bY];omega)) (aG F F (cy bU F du F F (aL hE) (by rw[bY];omega)) ?_))))
   refine aG F F (de fA F F (aL hE) (fy (ap hi) 0 (by show 0<5;decide))) ?_
   refine aG F F (bJ F F) (aG F F (cg F F) (ad (cA F F) (aj F (ae ?_))))
   exact⟨(by exact Sub.rf),⟨F,F,F,(ax Value.bool (by rw[J0,Bool.true_and];exact decide_eq_decide.2 (by omega))),trivial⟩⟩
  refine ad (aB (aN F) (Bool.eq_false_iff.2 J0)) (aV F F (aV F F (aV F F (aV F F (aV F F (aV F F (aV F F ?_)))))))
  refine aV F F (aV F F (aV F F (aV F F (aV F F (aV F F (aV F F (ad (cg F F) (aj F ?_))))))))
  refine ae ?_
  exact⟨(by exact Sub.rf),⟨F,F,F,(ax Value.bool (by rw[Bool.eq_false_iff.2 J0];rfl)),trivial⟩⟩
 rintro ρ O ⟨hS,hH⟩
 obtain⟨gF,rfl⟩:=hH.elim
 clear hH
 refine dx hS ?_
 refine aM (ai (ah F (ah F (ad (dT (i:=i) cX cm F F (aL hE) hi (by rw[bY];omega)) (ad (cy bU F du F F (aL hE) (by rw[bY];omega)) ?_)))))
 refine ad (de fA F F (aL hE) (fy (ap hi) 0 (by show 0<5;decide))) ?_
 have oE:=fun(w1:World) (hI:Inv w [] w1)=>(haveI:=et hI;AJ w1 e[i].op vO rG)
 refine ao F (bl FM (aX oE) F ?_)
 clear oE
 rintro vr O' ⟨N,rfl,rfl,rfl⟩
 refine ae (aU (ai (ad (bJ F F) (aj F (ae (aP F (fun hc=>?_) (fun hc=>?_)))))))
 ·have xm:dH e[i].op=1:=by omega
  refine ai (ah F (ah F (ah F (ad (dT (i:=i) cX cm F F (aL hE) hi (by rw[bY];omega)) ?_))))
  refine ad (cy bU F bj F F (aL hE) (by rw[bY];omega)) (ad (de dP F F (aL hE) (fy (ap hi) 3 (by show 3<5;decide))) (ah F ?_))
  have VI:=fun(w1:World) (hI:Inv w [] w1)=>(haveI:=et hI;FN (by omega) w1 hI.nD)
  refine ao F (bl FO (aX VI) F ?_)
  clear VI
  rintro vr O' ⟨N,rfl,rfl,rfl⟩
  refine aj F (ae (aK ?_))
  refine aS (.bool false) Tryz.results49 F ?_
  exact⟨F,F⟩
 have Vl: ¬dH e[i].op=1:=by omega
 refine ai (ad (bJ F F) (aj F (ae (aP F (fun hc=>?_) (fun hc=>?_)))))
 ·have ab6:dH e[i].op=2:=by omega
  refine ai (ah F (ah F (ah F (ad (dT (i:=i) cX cm F F (aL hE) hi (by rw[bY];omega)) ?_))))
  refine ad (cy bU F bj F F (aL hE) (by rw[bY];omega)) (ad (de dP F F (aL hE) (fy (ap hi) 3 (by show 3<5;decide))) (ah F ?_))
  have J1:=fun(w1:World) (hI:Inv w [] w1)=>(haveI:=et hI;FN (by omega) w1 hI.nD)
  refine ao F (bl FO (aX J1) F ?_)
  clear J1
  rintro vr O' ⟨N,rfl,rfl,rfl⟩
  refine ah F (aG F F (aN F) (aG F F (aN F) (aG F F (aN F) (aG F F (dT (i:=i) cX cm F F (aL hE) hi (by rw[bY];omega)) (aG F F (cy bU F bj F F (aL hE) (by rw[bY];omega)) ?_)))))
  refine aG F F (de dP F F (aL hE) (fy (ap hi) 4 (by show 4<5;decide))) ?_
  refine aG F F (aN F) ?_
  have J2:=fun(w1:World) (hI:Inv w [] w1)=>(haveI:=et hI;JZ (by omega) w1 hI.nD)
  refine iD F F F (bl FO (aX J2) F ?_)
  clear J2
  rintro vr O' ⟨N,rfl,rfl,rfl⟩
  refine ad (cg F F) (aj F (ae (aK ?_)))
  refine aS (.bool false) Tryz.results49 F ?_
  exact⟨F,F⟩
 have ab7: ¬dH e[i].op=2:=by omega
 refine aE (ai (aj F (ae (aK ?_))))
 refine aS (.bool false) Tryz.results49 F ?_
 exact⟨F,F⟩
theorem R1 (eb:Option Addr) (ec:Nat) (e:List dK) {v:Nat} {fs:List Nat} (hb:jW v e=.ok fs): ∀(f i:Nat) (fr:Bool) (w:World) [dE Tryz.prog w] (hE:Sl w eb (bt e)) (hi:i<e.length),i<f→mq e f i fr=true→cH Tryz.prog 49 [(.slice eb e.length ec),vN i,.bool fr] w fun v N=>v=.bool false∧N=[]
 |0,i,fr,w,_,_,hi,hf,_=>absurd hf (by omega)
 |f+1,i,fr,w,_,hE,hi,hf,hv=>by
  have ht:=qw hb i hi
  obtain⟨vO,rG,_⟩:=lP (pk hb hi)
  rw[iH hi]at hv
  split at hv
  ·cases hv
  ·rename_i hn
   rw[aJ,Bool.or_eq_true,Bool.or_eq_true]at hv
   refine NQ w eb ec e hE i fr hi vO rG (fun h=>?_) (fun h w2 _ pH=>?_) (fun h w2 _ pH=>?_)
   ·cases fr with
    |true=>rfl
    |false=>exact absurd ⟨by simpa using h,F⟩ hn
   ·obtain⟨j,hj,Fv⟩:=ht.1 h
    rw[hj]
    have h2:=hv.1.resolve_left (by rw[cD];omega)
    rw[hj,Int.toNat_natCast]at h2
    exact R1 eb ec e hb f j _ w2 (pH.sl hE) (by omega) (by omega) h2
   ·obtain⟨j,hj,Fv⟩:=ht.2 h
    rw[hj]
    have h2:=hv.2.resolve_left (by rw[cD];omega)
    rw[hj,Int.toNat_natCast]at h2
    exact R1 eb ec e hb f j _ w2 (pH.sl hE) (by omega) (by omega) h2
theorem zE {fs:List Nat} {i k:Nat} (h1:k<i) (h2:k<fs.length):(bS (fs.take i))[k]? =some (vN (fs.getD k 0)):=by
 show((fs.take i).map _)[k]? =_
 rw[bq,List.getElem?_take,aO h1,av,ap h2];rfl
theorem VJ (w:World) [dE Tryz.prog w] (eb:Option Addr) (ec:Nat) (e:List dK) (hE:Sl w eb (bt e)) (lF: ∀x∈e,x.p<256∧x.n<256) (v:Nat) (h0:gw (v:Int) e=0):
  cH Tryz.prog 22 [(.slice eb e.length ec),vN v] w fun r N=>r=vI 0∧N=[]:=by
 refine aF func22 F ntmps22 F ?_
 obtain⟨_,Re,Hp,Ej,fs,nF,R3,ZK⟩:=pm h0
 rw[Int.toNat_natCast]at nF
 have rL:fs.length=e.length:=by
  obtain⟨gs,g1,g2,_⟩:=pq nF e.length (bF _)
  rw[List.take_length,nF]at g1
  injection g1 with g1;rw[g1];exact g2
 refine ai (aj F (ae (aM (ai (ah F (ad (aB (cT F F) (ak (by omega))) (ah F (aG F F (aN F) (aG F F (aB (iy F F) (ak (by omega))) (ad (cg F F) (ae ?_)))))))))))
 refine a6 F (aE (aM (ai (ah F (ad (cQ cX F) (ad (aB (bJ F F) (ak (by omega))) (ae (a6 F (aE (aM (ai (ah F (ad (cQ cX F) (ad (aB (iy F F) (ak (by omega))) (ae ?_)))))))))))))))
 refine a6 F (aE (ai (aj F (ae (aM (ai (aj F (ae (aU (T.eX 3 1 ?_))))))))))
 let gC:Value:=(.slice eb e.length ec)
 refine dO (fun(i:Nat) ρ O=> ∃(b:Option Addr) (c:Nat),O=[aq b c 3 1 (bS (fs.take i))]∧i≤e.length∧dv [(0,gC),(1,vN v),(5,(.slice b i c)),(6,vN i)] ρ) (fun i=>e.length-i) 0 ?_ ?_
 ·exact⟨none,0,F,bn _,⟨F,F,F,F,trivial⟩⟩
 rintro i ρ O ⟨b,c,rfl,hi,hH⟩
 obtain⟨gF,rfl⟩:=hH.elim
 clear hH
 refine aM (ai (ah F (ah F (ad (cQ cX F) (ad (cT F F) (ae (aP F (fun hc=>?_) (fun hc=>?_))))))))
 ·have lA:i<e.length:=by omega
  have MV:=lF _ (aQ lA)
  have vd:=pk nF lA
  obtain⟨vO,rG,_⟩:=lP vd
  obtain⟨g0,g1,g2,g3⟩:=AK nF lA
  have Yz:dH e[i].op=0∨dH e[i].op=1∨dH e[i].op=2:=P8 _
  refine aE (aM (aU (ai (ah F (ah F (ad (dT (i:=i) cX cm F F (aL hE) lA (by rw[bY];omega)) (ad (eO (vs:=e[i].cl) bU F cm F F (br _) (aL hE) (lK lA)) (ah F ?_))))))))
  let eP:List Lx.Item:=[aq b c 3 1 (bS (fs.take i))]
  have J3:=fun(w1:World) (hI:Inv w eP w1)=>(haveI:=et hI;NP w1 e[i] v MV.1 MV.2 (by omega) vd)
  refine ao F (bl VK (aX J3) F ?_)
  clear J3
  rintro vr O' ⟨N,rfl,rfl,rfl⟩
  refine aj F (ae (aM (ai (ah F (ad (aB (dQ F F) (ak (by decide))) (ae (a6 F (aE (ai (ah F (aj F (ae ?_))))))))))))
  refine gz (fun ρ O=>Sub eP O∧dv [(0,gC),(1,vN v),(5,(.slice b i c)),(6,vN i),(7,vI 0),(8,vN (if dH e[i].op=1 then fs.getD i 0 else i))] ρ) ?_ ?_
  ·refine aM ?_
   refine a7 (ah F (ah F (ad (dT (i:=i) cX cm F F (aL hE) lA (by rw[bY];omega)) (ad (cy bU F du F F (aL hE) (by rw[bY];omega)) ?_))))
   refine ad (de fA F F (aL hE) (fy (ap lA) 0 (by show 0<5;decide))) ?_
   have qv:=fun(w1:World) (hI:Inv w eP w1)=>(haveI:=et hI;AJ w1 e[i].op vO rG)
   refine ao F (bl FM (aX qv) F ?_)
   clear qv
   rintro vr O' ⟨N,rfl,rfl,rfl⟩
   refine ad (bJ F F) (ae (aP F (fun hc=>?_) (fun hc=>?_)))
   ·have h_:dH e[i].op=1:=by omega
    obtain⟨k1,k2,k3⟩:=g1 h_
    refine aM (ai (ah F (ah F (ad (dT (i:=i) cX cm F F (aL hE) lA (by rw[bY];omega)) (ad (cy bU F bj F F (aL hE) (by rw[bY];omega)) ?_)))))
    refine ad (de dP F F (aL hE) (fy (ap lA) 3 (by show 3<5;decide))) (ah F (ad (bK (fH F F (by omega)) (v':=vN (i-1)) (ax (Value.int .i64) (by omega))) (ad (aB (dQ F F) (ak (by omega))) ?_)))
    refine ah F (aG F F (aN F) (aG F F (aB (bJ F F) (ak (by omega))) (ad (cg F F) (ae (a6 F (aE (a7 (ah F (ah F (ad (bK (fH F F (by omega)) (v':=vN (i-1)) (ax (Value.int .i64) (by omega))) (ad (dU (i:=(i-1)) cL bj F F (dR (mG 0 F)) (by omega) (by rw[ar,ck];omega)) ?_)))))))))))
    refine ad (de dP F F (dR (mG 0 F)) (show(bS (fs.take i))[i-1]? =some (vN (fs.getD (i-1) 0))from zE (by omega) (by omega))) (aj F (ae ?_))
    exact⟨(by exact Sub.rf),⟨F,F,F,F,F,(ax (fun n9:Nat=>Value.int .i64 ((n9:Nat):Int)) (by rw[aO h_];exact k3.symm)),trivial⟩⟩
   have ik: ¬dH e[i].op=1:=by omega
   refine aE ?_
   exact⟨(by exact Sub.rf),⟨F,F,F,F,F,(ax (fun n9:Nat=>Value.int .i64 ((n9:Nat):Int)) (by rw[az ik])),trivial⟩⟩
  rintro ρ O ⟨hS,hH⟩
  obtain⟨gF,rfl⟩:=hH.elim
  clear hH
  refine dx hS ?_
  refine gz (fun ρ O=>Sub eP O∧dv [(0,gC),(1,vN v),(5,(.slice b i c)),(6,vN i),(7,vI 0),(8,vN (fs.getD i 0))] ρ) ?_ ?_
  ·refine aM ?_
   refine a7 (ah F (ah F (ad (dT (i:=i) cX cm F F (aL hE) lA (by rw[bY];omega)) (ad (cy bU F du F F (aL hE) (by rw[bY];omega)) ?_))))
   refine ad (de fA F F (aL hE) (fy (ap lA) 0 (by show 0<5;decide))) ?_
   have VL:=fun(w1:World) (hI:Inv w eP w1)=>(haveI:=et hI;AJ w1 e[i].op vO rG)
   refine ao F (bl FM (aX VL) F ?_)
   clear VL
   rintro vr O' ⟨N,rfl,rfl,rfl⟩
   refine ad (bJ F F) (ae (aP F (fun hc=>?_) (fun hc=>?_)))
   ·have xp:dH e[i].op=2:=by omega
    obtain⟨k1,k2,k3,k4,k5,k6⟩:=g2 xp
    refine aM (aM ?_)
    refine fD [(0,0),(1,0),(2,0),(3,0),(4,0),(5,0),(6,0),(7,0),(8,0),(9,0),(10,0),(11,0),(12,0),(13,0),(14,0),(15,0),(16,0),(17,0),(18,0),(19,0),(20,0),(21,0),(22,0),(23,0),(24,0),(25,0),(26,0),(27,0),(28,0),(29,0),(30,0),(31,0),(32,0),(33,0)] ?_
    refine au F (aN F) (au F (aN F) (au F (dT (i:=i) cX cm F F (aL hE) lA (by rw[bY];omega)) (au F (cy bU F bj F F (aL hE) (by rw[bY];omega)) ?_)))
    refine au F (de dP F F (aL hE) (fy (ap lA) 4 (by show 4<5;decide))) (au F (aN F) (au F (bK (fH F F (by omega)) (v':=vN (i-1)) (ax (Value.int .i64) (by omega))) (au F (aB (dQ F F) (ak (by omega))) ?_)))
    refine au F (aN F) ?_
    refine bu F F F (aN F) ?_
    refine bu F F F (aB (bJ F F) (ak (by omega))) ?_
    refine au F (cg F F) (au F (aN F) ?_)
    refine bu F F F (aN F) ?_
    refine bu F F F (aN F) ?_
    refine bu F F F (bK (fH F F (by omega)) (v':=vN (i-1)) (ax (Value.int .i64) (by omega))) ?_
    refine bu F F F (dU (i:=(i-1)) cL bj F F (dR (mG 0 F)) (by omega) (by rw[ar,ck];omega)) ?_
    refine bu F F F (de dP F F (dR (mG 0 F)) (show(bS (fs.take i))[i-1]? =some (vN (fs.getD (i-1) 0))from zE (by omega) (by omega))) ?_
    refine bu F F F (aB (bJ F F) (ak (by omega))) ?_
    refine au F (cg F F) (au F (aN F) ?_)
    refine bu F F F (aN F) ?_
    refine bu F F F (aN F) ?_
    refine bu F F F (dT (i:=i) cX cm F F (aL hE) lA (by rw[bY];omega)) ?_
    refine bu F F F (cy bU F bj F F (aL hE) (by rw[bY];omega)) ?_
    refine bu F F F (de dP F F (aL hE) (fy (ap lA) 3 (by show 3<5;decide))) ?_
    refine bu F F F (aN F) ?_
    refine bu F F F (aN F) ?_
    refine bu F F F (bK (fH F F (by omega)) (v':=vN (i-1)) (ax (Value.int .i64) (by omega))) ?_
    refine bu F F F (dU (i:=(i-1)) cL bj F F (dR (mG 0 F)) (by omega) (by rw[ar,ck];omega)) ?_
    refine bu F F F (de dP F F (dR (mG 0 F)) (show(bS (fs.take i))[i-1]? =some (vN (fs.getD (i-1) 0))from zE (by omega) (by omega))) ?_
    refine bu F F F (kZ (a:=(fs.getD (i-1) 0)) (b:=1) F F (by omega) (by omega)) ?_
    refine bu F F F (aB (dQ F F) (ak (by omega))) ?_
    refine au F (cg F F) ?_
    refine cw ?_
    refine a6 F (aE (a7 (ah F (ah F (ah F (ad (bK (fH F F (by omega)) (v':=vN (i-1)) (ax (Value.int .i64) (by omega))) (ad (dU (i:=(i-1)) cL bj F F (dR (mG 0 F)) (by omega) (by rw[ar,ck];omega)) (ad (de dP F F (dR (mG 0 F)) (show(bS (fs.take i))[i-1]? =some (vN (fs.getD (i-1) 0))from zE (by omega) (by omega))) (ad (bK (fH F F (by omega)) (v':=vN (fs.getD (i-1) 0-1)) (ax (Value.int .i64) (by omega))) (ad (dU (i:=(fs.getD (i-1) 0-1)) cL bj F F (dR (mG 0 F)) (by omega) (by rw[ar,ck];omega)) (ad (de dP F F (dR (mG 0 F)) (show(bS (fs.take i))[(fs.getD (i-1) 0-1)]? =some (vN (fs.getD (fs.getD (i-1) 0-1) 0))from zE (by omega) (by omega))) (aj F (ae ?_)))))))))))))
    exact⟨(by exact Sub.rf),⟨F,F,F,F,F,(ax (fun n9:Nat=>Value.int .i64 ((n9:Nat):Int)) (by rw[k6,k4];congr 1;omega)),trivial⟩⟩
   have VM: ¬dH e[i].op=2:=by omega
   refine aE ?_
   exact⟨(by exact Sub.rf),⟨F,F,F,F,F,(ax (fun n9:Nat=>Value.int .i64 ((n9:Nat):Int)) (by split;rfl;exact(g3 (by omega)).symm)),trivial⟩⟩
  rintro ρ O ⟨hS,hH⟩
  obtain⟨gF,rfl⟩:=hH.elim
  clear hH
  refine dx hS ?_
  refine a7 (ah F (ah F (ao F (cN (v:=vN (fs.getD i 0)) cL bj F F F (fun z1=>?_)))))
  refine ao F (cW 1 cL cL bj F F F F (by rw[ar,ck];omega) (by decide) (Src.row (j:=0) F (by simp)) (by simp[fa]) (by omega) (by decide) (by decide) (fun z2 tx=>?_))
  refine aj F (ae (a7 (ah F (ad (dy (a:=i) (b:=1) F F (by omega)) (aj F (ae ?_))))))
  exact⟨i+1,by omega,[aq z2 tx 3 1 ((bS (fs.take i))++[vN (fs.getD i 0)])],(by exact Sub.d (.k .z)),z2,tx,by rw[aH (show i<fs.length by omega),show bS (fs.take i++[fs[i]])=bS (fs.take i)++[vN (fs[i])]from bm,show fs.getD i 0=fs[i] by rw[av,ap (by omega)];rfl],by omega,⟨F,F,F,F,trivial⟩⟩
 have BH: ¬i<e.length:=by omega
 have we:i=e.length:=by omega
 refine cK ?_
 refine aM (ai (ah F (ah F (ad (cQ cX F) (ad (bK (fH F F (by omega)) (v':=vN (e.length-1)) (ax (Value.int .i64) (by omega))) (ad (dU (i:=(e.length-1)) cL bj F F (dR (mG 0 F)) (by omega) (by rw[ar,ck];omega)) (ad (de dP F F (dR (mG 0 F)) (show(bS (fs.take i))[e.length-1]? =some (vN (fs.getD (e.length-1) 0))from zE (by omega) (by omega))) (ad (aB (dQ F F) (ak (by omega))) (ae (a6 F (aE (aM (ai (ah F (ah F (ad (cQ cX F) (ad (bK (fH F F (by omega)) (v':=vN (e.length-1)) (ax (Value.int .i64) (by omega))) ?_)))))))))))))))))
 have P9:=fun(w1:World) (hI:Inv w [aq b c 3 1 (bS (fs.take i))] w1)=>(haveI:=et hI;R1 eb ec e nF e.length (e.length-1) true w1 (hI.sl hE) (by omega) (by omega) ZK)
 refine ao F (bl FO (aX P9) F ?_)
 clear P9
 rintro vr O' ⟨N,rfl,rfl,rfl⟩
 refine ae (a6 F (aE (ai (aj F (ae (aK (aA ?_)))))))
 refine aS (vI 0) Tryz.results22 F ?_
 exact⟨[],Sub.z,F,F⟩
end Go.Proofs.YtgdbfideeeegmaaGreatDoor

namespace Go.Proofs.YtgdbfideeeegmaaGreatDoor
open Go.Lx Go.RowKit _root_.Go.Proofs.Tryz
theorem R4 (w:World) [dE Tryz.prog w] (S:List UInt8) (qt:S.length≤4096) (v i:Nat) (hv:v≤6) (m:List dK) (hR:uc 96 S 0 [] i S.length m) (lF: ∀x∈m,x.p<256∧x.n<256) (h0:gw (v:Int) m=0):
  cH Tryz.prog 59 [(str S),vN v] w fun v N=> ∃b c,v=.tuple #[.slice b m.length c,vI 0]∧N=[aq b c 72 5 (bt m)]:=by
 refine aF func59 F ntmps59 F ?_
 refine ai (aj F (aj F (ae (aM (ai (ah F (ad (aB (cT F F) (ak (by omega))) (ah F (aG F F (aN F) (aG F F (aB (iy F F) (ak (by omega))) (ad (cg F F) (ae ?_))))))))))))
 refine a6 F (aE (aM (ai (ah F (ad (wX ve F) (ad (aB (iy F F) (ak (by omega))) (ae (a6 F (aE (ai (ah F (ad (cE (cs:=[(str S),(vI 0),nS,(vI 0)]) NR R5 (by kernel_rfl)) (ao F (dG (cs:=[(str S),(vI 0),nS,(vI 0)]) F F (fun z1=>?_)))))))))))))))
 refine aj F (ae (aM (T.eX 72 5 ?_)))
 refine a7 (ah F ?_)
 have nk:=(bW.under (A:=[oI z1 149 [(str S),vN 0,(.slice none (([]:List dK).length) 0),vI 0],aq none 0 72 5 (bt [])]) (B:=[]) (O:=[aq none 0 72 5 [],oI z1 149 [(str S),(vI 0),nS,(vI 0)]]) (hR w z1 none 0) (by exact Sub.ew [aq none 0 72 5 []] _ (.k .z)))
 refine ao F (bl Ck nk F ?_)
 clear nk
 rintro vr O' ⟨A9,rfl,lb,lc,rfl,rfl⟩
 refine ae (aM (ai (ah F (ad (a8 F) (ad (a_ f_ F iZ F F) (ad (bi 0 oD F F F F) (ad (aB (bJ F F) (ay (by decide))) (ah F (aG F F (aN F) (aG F F (a8 F) (aG F F (a_ f_ F bj F F) (aG F F (bi 0 dP F F F F) (aG F F (aN F) ?_)))))))))))))
 refine aG F F (wX ve F) (aG F F (aB (cT F F) (ak (by omega))) (ad (cA F F) (ae (a6 F (aE (aM (ai (ah F (ad (a8 F) (ad (a_ f_ F iZ F F) (ad (bi 0 oD F F F F) (ad (aB (bJ F F) (ay (by decide))) ?_))))))))))))
 refine ae ?_
 refine bO F ?_
 refine a7 (ah F (ah F (ad (a8 F) (ad (a_ f_ F fT F F) (ad (bi 0 cX F F F F) (ah F ?_))))))
 have VN:=fun(w1:World) (hI:Inv w [oI z1 149 [(str S),vN S.length,(.slice lb m.length lc),vI 0],aq lb lc 72 5 (bt m)] w1)=>(haveI:=et hI;VJ w1 lb lc m (hI.ii (mG 1 F)) lF v h0)
 refine ao F (bl VO (aX VN) F ?_)
 clear VN
 rintro vr O' ⟨N,rfl,rfl,rfl⟩
 refine ad (a8 F) (ad (a_ f_ F iZ F F) (ao F (bN (vs:=[(vI 0)]) 0 iZ F F F F ?_)))
 refine ae (aM (ai (ah F (ad (a8 F) (ad (a_ f_ F iZ F F) (ad (bi 0 oD F F F F) (ad (aB (dQ F F) (ak (by decide))) (ae (a6 F (aE (ai (ah F (ad (a8 F) (ad (a_ f_ F fT F F) (ad (bi 0 cX F F F F) (aj F (aj F ?_)))))))))))))))))
 refine ae (aK (aA ?_))
 refine dl (.slice lb m.length lc) (vI 0) Tryz.results59 F F ?_
 exact⟨[aq lb lc 72 5 (bt m)],(by exact Sub.d (.k .z)),_,_,F,F⟩
theorem J4 (w:World) [dE Tryz.prog w] (S:List UInt8) (qt:S.length≤4096) (v i:Nat) (hv:v≤6) (m:List dK) (hR:uc 96 S 0 [] i S.length m) (lF: ∀x∈m,x.p<256∧x.n<256) (h0:gw (v:Int) m=0):
  cH Tryz.prog 32 [(str S),vN v] w fun v N=> ∃b c,v=.slice b m.length c∧N=[aq b c 72 5 (bt m)]:=by
 refine aF func32 F ntmps32 F ?_
 refine ai (aj F (ae (ai (ah F (ah F ?_)))))
 have qx:=fun(w1:World) (hI:Inv w [] w1)=>(haveI:=et hI;R4 w1 S qt v i hv m hR lF h0)
 refine ao F (bl VP (aX qx) F ?_)
 clear qx
 rintro vr O' ⟨N,rfl,b,c,rfl,rfl⟩
 refine ah F (ad (bE (vs:=_) F F) (ad (bE (vs:=_) F F) (aj F (aj F (ae (ai (ah F (aj F (ae (aK (aA ?_)))))))))))
 refine aS (.slice b m.length c) Tryz.results32 F ?_
 exact⟨[aq b c 72 5 (bt m)],(by exact Sub.rf),_,_,F,F⟩
end Go.Proofs.YtgdbfideeeegmaaGreatDoor

namespace Go.Proofs.YtgdbfideeeegmaaGreatDoor
open Go.Lx Go.RowKit _root_.Go.Proofs.Tryz
def NS:List UInt8:=[40,40,91,42,93,42,41,46,40,91,97,93,46,91,42,93,41,41]
def MW:List UInt8:=[40,40,62,40,91,42,93,46,91,98,93,41,41,46,40,91,42,93,42,41,41]
def ZL:List UInt8:=[91,42,93]
def yF:List dK:=[⟨3,0,0,0,0⟩,⟨8,0,0,0,0⟩,⟨3,1,0,0,0⟩,⟨3,0,0,0,0⟩,⟨4,0,0,2,3⟩,⟨4,0,0,1,4⟩]
def tA:List dK:=[⟨3,0,0,0,0⟩,⟨3,2,0,0,0⟩,⟨4,0,0,0,1⟩,⟨9,0,0,2,0⟩,⟨3,0,0,0,0⟩,⟨8,0,0,4,0⟩,⟨4,0,0,3,5⟩]
def FP:List dK:=[⟨3,0,0,0,0⟩]
theorem Cp {S:List UInt8} (qt:S.length≤4096) {ia:Nat} {l:List dK} (hl:l.length≤1000) (h1:Ch S ia 91) (h2:Ch S (ia+1) 42) (h3:Ch S (ia+1+1) 93):uc 96 S ia l l.length (ia+3) (l++[(⟨3,0,0,0,0⟩:dK)]):=
 P5 qt hl h1 fun base _ rb lb n lc=>Vy base rb S qt (ia+1) n lc lb h2 h3
theorem P_ {S:List UInt8} (qt:S.length≤4096) {ia k:Nat} {l:List dK} (hk:k<6) (hl:l.length≤1000) (h1:Ch S ia 91) (h2:Ch S (ia+1) (97+k)) (h3:Ch S (ia+1+1) 93):uc 96 S ia l l.length (ia+3) (l++[(⟨3,0|||1*2^k,0,0,0⟩:dK)]):=
 P5 qt hl h1 fun base _ rb lb n lc=>Vz base rb S qt (ia+1) k n lc lb hk h2 h3
theorem rd1:uc 96 NS 0 [] 5 18 yF:=by
 have hS:NS.length≤4096:=by decide
 have a:uc 96 NS 2 [] 0 5 (yF.take 1):=Cp hS (by decide) F F F
 have b:uc 96 NS 1 [] 1 7 (yF.take 2):=xo hS F (JU (ia:=2) (c0:=91) hS (by decide) F (.inr F) a F F)
 have c:uc 96 NS 9 (yF.take 2) 2 12 (yF.take 3):=P_ hS (k:=0) (by decide) (by decide) F F F
 have d:uc 96 NS 13 (yF.take 3) 3 16 (yF.take 4):=Cp hS (by decide) F F F
 have f:uc 96 NS 8 (yF.take 2) 4 17 (yF.take 5):=xo hS F (FK (ia:=9) (c0:=91) hS (by decide) F (.inr F) c F d F)
 exact xo hS F (FK (ia:=1) (c0:=40) hS (by decide) F (.inl F) b F f F)
theorem rd2:uc 96 MW 0 [] 6 21 tA:=by
 have hS:MW.length≤4096:=by decide
 have a:uc 96 MW 4 [] 0 7 (tA.take 1):=Cp hS (by decide) F F F
 have b:uc 96 MW 8 (tA.take 1) 1 11 (tA.take 2):=P_ hS (k:=1) (by decide) (by decide) F F F
 have c:uc 96 MW 3 [] 2 12 (tA.take 3):=xo hS F (FK (ia:=4) (c0:=91) hS (by decide) F (.inr F) a F b F)
 have d:uc 96 MW 1 [] 3 13 (tA.take 4):=xo hS F (NO (ia:=2) hS (by decide) F c F)
 have f:uc 96 MW 15 (tA.take 4) 4 18 (tA.take 5):=Cp hS (by decide) F F F
 have g:uc 96 MW 14 (tA.take 4) 5 20 (tA.take 6):=xo hS F (JU (ia:=15) (c0:=91) hS (by decide) F (.inr F) f F F)
 exact xo hS F (FK (ia:=1) (c0:=40) hS (by decide) F (.inl F) d F g F)
theorem rd3:uc 96 ZL 0 [] 0 3 FP:=Cp (by decide) (by decide) F F F
theorem VQ:gw (1:Nat) yF=0:=by kernel_rfl
theorem VR:gw (2:Nat) tA=0:=by kernel_rfl
theorem ZM:gw (0:Nat) FP=0:=by kernel_rfl
section
variable (w:World) [dE Tryz.prog w]
theorem VS:cH Tryz.prog 32 [(str NS),.int .i64 ((1:Nat):Int)] w (fun v N=> ∃b c,v=.slice b yF.length c∧N=[aq b c 72 5 (bt yF)]):=J4 w NS (by decide) 1 5 (by decide) yF rd1 (by decide) VQ
theorem VT:cH Tryz.prog 32 [(str MW),.int .i64 ((2:Nat):Int)] w (fun v N=> ∃b c,v=.slice b tA.length c∧N=[aq b c 72 5 (bt tA)]):=J4 w MW (by decide) 2 6 (by decide) tA rd2 (by decide) VR
theorem VU:cH Tryz.prog 32 [(str ZL),.int .i64 ((0:Nat):Int)] w (fun v N=> ∃b c,v=.slice b FP.length c∧N=[aq b c 72 5 (bt FP)]):=J4 w ZL (by decide) 0 0 (by decide) FP rd3 (by decide) ZM
end
end Go.Proofs.YtgdbfideeeegmaaGreatDoor

namespace Go.Lx
open Go.RowKit Go.Proofs.YtgdbfideeeegmaaGreatDoor
theorem O8 {α:Type} [Nonempty α] {G:α→Prop} {kf:α→Key} {nx:α→Nat→α} {fn:α→Bool} {L:Nat} (h:OS G kf nx fn L) {s:α} (Q:List α) (hG: ∀q∈Q,G q) (h0:s∈Q) (hc: ∀q∈Q,∀x,x<L→nx q x∈Q) {B:Nat} (hB:Q.length≤B):HQ (By G kf nx) L (kf s) B:=by
 refine⟨Q.map kf,⟨List.mem_map.2 ⟨s,h0,F⟩,fun k hk x hx=>?_⟩,by simpa using hB⟩
 obtain⟨q,hq,rfl⟩:=List.mem_map.1 hk
 rw[uy h (hG q hq) hx]
 exact List.mem_map.2 ⟨_,hc q hq x hx,F⟩
section
variable {ls:List Lf}
structure YV (ls:List Lf):Prop where
 len:ls.length=2
 o0:(lf ls 0).op=9
 f0:(lf ls 0).fo=[1]
 l0:(lf ls 0).la=false
 o1:(lf ls 1).op=0
 f1:(lf ls 1).fo=[]
 l1:(lf ls 1).la=true
def M9 (ls:List Lf) (bh:List Nat) (q:Nat) (o:List Ob):St:=⟨bh,⟨1,q,o⟩::(if dr (lf ls 1).d q=true then[⟨-1,0,o⟩]else[])⟩
theorem GJ (c:Cf) (f:Bool) (o:List Ob) (h:c.k≠ -1):((c::(if f=true then[(⟨-1,0,o⟩:Cf)]else[])).foldl add [])=c::(if f=true then[⟨-1,0,o⟩]else[]):=by
 cases f with
 |false=>rfl
 |true=>
  show add (add [] c) ⟨-1,0,o⟩=_
  have e:add [] c=[c]:=by unfold add;rw[az (by simp)];rfl
  rw[e];unfold add
  rw[az (by rw[c_];intro e2;exact h (by rw[←e2]))]
  rfl
theorem Do (h:YV ls) (f:Nat) (bh:List Nat) (o:List Ob):gy ls (f+1) bh 1 o=[⟨-1,0,o⟩]:=by
 unfold gy;rw[h.f1,h.l1];rfl
theorem LZ (h:YV ls):jo ls [0]=M9 ls (ls.map fun l=>l.d.start.toNat) (lf ls 1).d.start.toNat (oH ls [] (0,(lf ls 0).d.start.toNat)):=by
 have e:fK ls (2*ls.length) (ls.map fun l=>l.d.start.toNat) 0 []=⟨1,(lf ls 1).d.start.toNat,oH ls [] (0,(lf ls 0).d.start.toNat)⟩::(if dr (lf ls 1).d (lf ls 1).d.start.toNat=true then[⟨-1,0,oH ls [] (0,(lf ls 0).d.start.toNat)⟩]else[]):=by
  rw[h.len]
  show fK ls (3+1) _ 0 []=_
  unfold fK
  rw[aO h.o0]
  show gy ls (2+1) _ 0 _=_
  unfold gy
  rw[h.f0,h.l0]
  show(fK ls (1+1) _ 1 _++[])++[]=_
  rw[c7,c7]
  unfold fK
  rw[az (by rw[h.o1];decide),az (by rw[h.o1];decide),Do h 0]
  rfl
 unfold jo M9
 rw[show([0]:List Nat).flatMap (fun k=>fK ls (2*ls.length) (ls.map fun l=>l.d.start.toNat) k [])=fK ls (2*ls.length) (ls.map fun l=>l.d.start.toNat) 0 [] by simp,e,GJ _ _ _ (by show(1:Int)≠ -1;decide)]
theorem O9 (h:YV ls) (bh:List Nat) (q:Nat) (o:List Ob) (x:Nat):j9 ls (M9 ls bh q o) x=M9 ls [0,0] (fm (lf ls 1).d q x) (mh ls o x):=by
 have eb:jv ls bh x=[0,0]:=by
  unfold jv
  rw[h.len,show List.range 2=[0,1]from F]
  simp only[cJ,fQ,h.o0,h.o1]
  rfl
 have e1:iQ ls [0,0] x ⟨1,q,o⟩=⟨1,fm (lf ls 1).d q x,mh ls o x⟩::(if dr (lf ls 1).d (fm (lf ls 1).d q x)=true then[⟨-1,0,mh ls o x⟩]else[]):=by
  unfold iQ
  rw[az (by show¬(1:Int)<0;decide)]
  have e2:gy ls (2*ls.length) [0,0] 1 (mh ls o x)=[⟨-1,0,mh ls o x⟩]:=by rw[h.len];exact Do h 3 _ _
  show _::(if _ then gy ls (2*ls.length) [0,0] 1 (mh ls o x)else[])=_
  rw[e2];rfl
 have e3:((M9 ls bh q o).cf.flatMap (iQ ls [0,0] x))=iQ ls [0,0] x ⟨1,q,o⟩:=by
  unfold M9
  rw[List.flatMap_cons]
  have:(if dr (lf ls 1).d q=true then[(⟨-1,0,o⟩:Cf)]else[]).flatMap (iQ ls [0,0] x)=[]:=by
   split
   ·show iQ ls [0,0] x ⟨-1,0,o⟩++[]=[]
    unfold iQ;rw[aO (by show(-1:Int)<0;decide)];rfl
   ·rfl
  rw[this,c7]
 unfold j9
 rw[show(M9 ls bh q o).bh=bh from F,eb,e3,e1]
 unfold M9
 rw[GJ _ _ _ (by show(1:Int)≠ -1;decide)]
theorem R9 {vs:Nat} (hG:iw ls vs) (h:YV ls) {B:Nat} (hB:2*((lf ls 1).d.next.length*((lf ls 0).d.next.length+1))≤B):HQ (By (ln ls) St.key (j9 ls)) (2^vs) (jo ls [0]).key B:=by
 obtain⟨b0,IM⟩: ∃b,b=ls.map fun l=>l.d.start.toNat:=⟨_,F⟩
 have k0:0<ls.length:=by rw[h.len];decide
 have k1:1<ls.length:=by rw[h.len];decide
 obtain⟨os,Io⟩: ∃os:List (List Ob),os=[]::(List.range (lf ls 0).d.next.length).map fun q=>[(0,q)]:=⟨_,F⟩
 have YW: ∀o,o∈os↔o=[]∨ ∃q,q<(lf ls 0).d.next.length∧o=[(0,q)]:=fun o=>by
  rw[Io,dh,iu]
  exact or_congr Iff.rfl ⟨fun⟨q,h1,h2⟩=>⟨q,List.mem_range.1 h1,h2.symm⟩,fun⟨q,h1,h2⟩=>⟨q,List.mem_range.2 h1,h2.symm⟩⟩
 have XM: ∀q,q<(lf ls 0).d.next.length→oH ls [] (0,q)∈os:=fun q hq=>by
  rw[YW];unfold oH;split
  ·exact .inl F
  ·exact .inr ⟨q,hq,F⟩
 have Tg: ∀o∈os,fV ls 1 o:=fun o ho=>by
  rcases(YW o).1 ho with rfl|⟨q,hq,rfl⟩
  ·exact .nil
  ·exact⟨List.pairwise_singleton _ _,fun p hp=>by rw[List.mem_singleton.1 hp];exact⟨Nat.zero_lt_one,hq⟩⟩
 have M2: ∀o∈os,∀x,x<2^vs→mh ls o x∈os:=fun o ho x hx=>by
  rcases(YW o).1 ho with rfl|⟨q,hq,rfl⟩
  ·exact(YW _).2 (.inl F)
  ·exact XM _ ((hG.kg k0).toVal.gY hq (by rw[hG.vars _ (ky k0)];exact hx)).1
 obtain⟨Q,hQ⟩: ∃Q:List St,Q=[b0,[0,0]].flatMap fun b=>(List.range (lf ls 1).d.next.length).flatMap fun q=>os.map fun o=>M9 ls b q o:=⟨_,F⟩
 have hm: ∀s,s∈Q↔ ∃b q o,(b=b0∨b=[0,0])∧q<(lf ls 1).d.next.length∧o∈os∧s=M9 ls b q o:=fun s=>by
  rw[hQ]
  simp only[List.mem_flatMap,iu,eY,dh,List.not_mem_nil,or_false]
  constructor
  ·rintro⟨b,hb,q,hq,o,ho,rfl⟩;exact⟨b,q,o,hb,hq,ho,F⟩
  ·rintro⟨b,q,o,hb,hq,ho,rfl⟩;exact⟨b,hb,q,hq,o,ho,F⟩
 have s0:=eE (hG.kg k0).toVal
 have s1:=eE (hG.kg k1).toVal
 have n0:=(hG.kg k0).n0
 have n1:=(hG.kg k1).n0
 refine O8 (Gb hG) Q (fun s hs=>?_) ?_ (fun s hs x hx=>?_) ?_
 ·obtain⟨b,q,o,hb,hq,ho,rfl⟩:=(hm s).1 hs
  refine⟨?_,?_,fun c hc=>?_⟩
  ·rcases hb with rfl|rfl
   ·rw[IM];exact qM hG
   ·refine⟨by rw[h.len];rfl,fun k hk=>?_⟩
    rw[h.len]at hk
    rcases(show k=0∨k=1 by omega)with rfl|rfl
    ·exact n0
    ·exact n1
  ·show(_::_:List Cf).Nodup
   split
   ·rw[List.nodup_cons]
    exact⟨by rw[c_];intro e;have:=ax Cf.k e;simp at this,by simp⟩
   ·simp
  ·rcases List.mem_cons.1 hc with rfl|hc
   ·exact .inr ⟨1,F,k1,hq,Tg o ho⟩
   ·split at hc
    ·rw[List.mem_singleton.1 hc];exact .inl ⟨F,F,(Tg o ho).mono (by omega)⟩
    ·simp at hc
 ·rw[LZ h,hm]
  exact⟨_,_,_,.inl IM.symm,s1,XM _ s0,F⟩
 ·obtain⟨b,q,o,hb,hq,ho,rfl⟩:=(hm s).1 hs
  rw[O9 h,hm]
  exact⟨_,_,_,.inr F,((hG.kg k1).toVal.gY hq (by rw[hG.vars _ (ky k1)];exact hx)).1,M2 o ho x hx,F⟩
 ·have:Q.length=2*((lf ls 1).d.next.length*((lf ls 0).d.next.length+1)):=by
   rw[hQ]
   have hl:os.length=(lf ls 0).d.next.length+1:=by rw[Io];simp
   simp only[List.flatMap_cons,List.flatMap_nil,c7,aw,List.length_flatMap,ar,hl]
   rw[show(fun _:Nat=>(lf ls 0).d.next.length+1)=Function.const Nat ((lf ls 0).d.next.length+1)from F,List.map_const,List.sum_replicate_nat,List.length_range]
   omega
  omega
end
end Go.Lx

