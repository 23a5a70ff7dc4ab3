/- Contracts of functions of the program, and what they answer. Conditions: those each theorem names. -/
import Derived.Test.YtgdbfideeeegmaaGreatDoorA2
import Derived.Test.YtgdbfideeeegmaaGreatDoorA5
import Derived.Test.YtgdbfideeeegmaaGreatDoorB0
import Derived.Test.YtgdbfideeeegmaaGreatDoorA8
import Derived.Test.YtgdbfideeeegmaaGreatDoorA9
import Derived.Test.YtgdbfideeeegmaaGreatDoorA4
import Derived.Lib.RowBridge
import Derived.Test.YtgdbfideeeegmaaGreatDoorProg
import Derived.Test.YtgdbfideeeegmaaGreatDoorA0
set_option linter.unusedSectionVars false
set_option linter.unusedSimpArgs false
set_option linter.unusedVariables false
set_option linter.unnecessarySimpa false
set_option maxHeartbeats 8000000
set_option maxRecDepth 20000
namespace Go.Proofs.YtgdbfideeeegmaaGreatDoor
open Go.Lx Go.RowKit _root_.Go.Proofs.Tryz
theorem Kz (w:World) [dE Tryz.prog w] (a:cU) (va:Valid a) (g:Bool) (l:List Nat) (sb:Option Addr) (c:Nat) (hS:Sl w sb (ints (jx (g,l)))) (hG:GS a (g,l)):
  cH Tryz.prog 142 [(.slice sb ((jx (g,l)).length) c)] w fun v N=>v=str (Bz (g,l))∧N=[]:=by
 refine aF func142 F ntmps142 F ?_
 have ZX:l.length≤4096:=cn (eT (hG.Ss.imp fun h=>Nat.ne_of_lt h) hG.lt) va.n4
 have YG:(jx (g,l)).length≤4097:=by unfold jx;split<;>simp<;>omega
 refine ai (aj F (ae (ai (ah F (ao F (bl ux (aX fun w1 hI=>(haveI:=et hI;F2 w1 sb c (jx (g,l)) (hI.sl hS) (xz va.n4 hG) (by omega))) F ?_))))))
 rintro vr O' ⟨N,rfl,jb,jc,rfl,rfl⟩
 refine ad (BS (l:=Bz (g,l)) lh ve fA F (mG 0 F) F) (aj F (ae (aK (aA ?_))))
 refine aS (str (Bz (g,l))) Tryz.results142 F ?_
 exact⟨[],Sub.z,F,F⟩
theorem HU (w:World) [dE Tryz.prog w] (a:cU) (ka:DK) (ha:At w a ka) (va:Valid a) (za:Nat) (tE:Sl w (aD za) (dC a ka)) (g:Bool) (l:List Nat) (sb:Option Addr) (c:Nat) (hS:Sl w sb (ints (jx (g,l)))) (hG:GS a (g,l)) (x:Nat) (hx:x<eh a):
  cH Tryz.prog 143 [(.slice sb ((jx (g,l)).length) c),v8 x,(dW (aD za) 0)] w fun v N=> ∃b' c' c2,v=.slice b' (tF a (g,l) x).2.length c'∧N=[aq b' c2 3 1 (bS (tF a (g,l) x).2)]:=by
 refine aF func143 F ntmps143 F ?_
 have ZX:l.length≤4096:=cn (eT (hG.Ss.imp fun h=>Nat.ne_of_lt h) hG.lt) va.n4
 have YG:(jx (g,l)).length≤4097:=by unfold jx;split<;>simp<;>omega
 have M0:=np a l x
 have MT:(fU a l x).length≤4096:=cn (KA _ _) va.n4
 refine ai (aj F (ae (aM ?_)))
 refine T.ds [] [(0,0),(1,0),(4,0),(2,1),(3,1),(5,2),(6,2)] (cj (cq _)) ?_
 refine au F (eO (vs:=(dC a ka)) cZ F bL F F (br _) (aL tE) (fun j hj=>by rw[Nat.zero_add];exact ap hj)) (au F (aN F) (au F (aN F) ?_))
 refine cr F F (bl Ki (aX fun w1 hI=>(haveI:=et hI;Kj w1 sb c (jx (g,l)) (hI.sl hS) (by omega))) F ?_)
 rintro vr O' ⟨N,rfl,nb,nc,rfl,rfl,YB⟩
 refine⟨by exact Sub.z,?_⟩
 refine cr F F (bl SA (na [0] (Ot w nb nc (g,l) (by show l.length≤_;omega))) F ?_)
 rintro vr O' ⟨A1,rfl,rfl,rfl⟩
 refine⟨by exact Sub.z,?_⟩
 refine b_ F F (bl Kt (aX fun w1 hI=>(haveI:=et hI;Qe w1 a ka (hI.pR ha) va nb nc l (hI.ii (mG 0 F)) hG.lt (by omega) x hx)) F ?_)
 rintro vr O' ⟨N,rfl,tb,tc,rfl,rfl⟩
 refine b_ F F (d_ F F (cx F) ?_)
 refine cw ?_
 refine aM (ai ?_)
 refine ad (eO (vs:=(dC a ka)) cZ F bL F F (br _) (aL tE) (fun j hj=>by rw[Nat.zero_add];exact ap hj)) (ah F ?_)
 refine ao F (bl AQ (aX fun w1 hI=>(haveI:=et hI;wj w1 a ka (hI.pR ha) va tb tc (fU a l x) (hI.ii (mG 0 F)) M0.2 (by omega))) F ?_)
 rintro vr O' ⟨N,rfl,rfl,rfl⟩
 refine ae (T.cond F (fun hc=>?_) (fun hc=>?_))
 ·refine a7 ?_
  refine ah F (ad (cy cZ F bj F F (aL tE) (by show _<4;decide)) (ad (de dP F F (aL tE) (show _=some (Value.int .i64 ((a.start.toNat:Nat):Int)) by rw[cR va.s0];rfl)) (ao F (bl Kr (na [0] (Qh w a.next.length tb tc tc (fU a l x) a.start.toNat M0.1 M0.2 (eE va.toVal) (by omega))) F ?_))))
  rintro vr O' ⟨A1,rfl,wb,wc,PD,rfl,rfl⟩
  refine aj F (ae (ai (ah F (aj F (ae (aK (aA ?_)))))))
  refine aS (.slice wb ((AN a.next.length (fU a l x) a.start.toNat).length) wc) Tryz.results143 F ?_
  have e9:(tF a (g,l) x).2=AN a.next.length (fU a l x) a.start.toNat:=by show(if _ then _ else _)=_;rw[aO hc]
  rw[e9]
  exact⟨[aq wb PD 3 1 (bS (AN a.next.length (fU a l x) a.start.toNat))],(by exact Sub.k .z),wb,wc,PD,F,F⟩
 refine aE (ai (ah F (aj F (ae (aK (aA ?_))))))
 refine aS (.slice tb ((fU a l x).length) tc) Tryz.results143 F ?_
 have e9:(tF a (g,l) x).2=fU a l x:=by show(if _ then _ else _)=_;rw[az (by rw[hc];simp)]
 rw[e9]
 exact⟨[aq tb tc 3 1 (bS (fU a l x))],(by exact Sub.k .z),tb,tc,tc,F,F⟩
theorem KB (w:World) [dE Tryz.prog w] (a:cU) (ka:DK) (ha:At w a ka) (va:Valid a) (za:Nat) (tE:Sl w (aD za) (dC a ka)) (l:List Nat) (sb:Option Addr) (c:Nat) (hS:Sl w sb (ints (jx (true,l)))) (hG:GS a (true,l)):
  cH Tryz.prog 150 [(.slice sb (l.length+1) c),(dW (aD za) 0)] w fun v N=>v=.bool (Ou a (true,l))∧N=[]:=by
 refine aF func150 F ntmps150 F ?_
 have ZX:l.length≤4096:=cn (eT (hG.Ss.imp fun h=>Nat.ne_of_lt h) hG.lt) va.n4
 rw[show jx (true,l)= -1::l.map (fun y:Nat=>(y:Int))from F]at hS
 refine ai (aj F (ae (ai (ah F (ad (cQ cL F) (ad (aB (iy F F) (ay (by omega))) (ah F (aG F F (aN F) (aG F F (dU (i:=0) cL bj F F (aL hS) (by omega) (by simp)) (aG F F (de dP F F (aL hS) F) (aG F F (aB (cT F F) (ay (by decide))) ?_)))))))))))
 refine ad (cA F F) (ah F (aV F F (aV F F (aV F F (ad (cA F F) (aj F (ae (aK (aA ?_)))))))))
 refine aS (.bool true) Tryz.results150 F ?_
 exact⟨[],Sub.z,F,F⟩
theorem KC (w:World) [dE Tryz.prog w] (a:cU) (ka:DK) (ha:At w a ka) (va:Valid a) (za:Nat) (tE:Sl w (aD za) (dC a ka)) (l:List Nat) (sb:Option Addr) (c:Nat) (hS:Sl w sb (ints (jx (false,l)))) (hG:GS a (false,l)):
  cH Tryz.prog 150 [(.slice sb l.length c),(dW (aD za) 0)] w fun v N=>v=.bool (Ou a (false,l))∧N=[]:=by
 refine aF func150 F ntmps150 F ?_
 have ZX:l.length≤4096:=cn (eT (hG.Ss.imp fun h=>Nat.ne_of_lt h) hG.lt) va.n4
 rw[show ints (jx (false,l))=bS l by rw[←gl];rfl]at hS
 refine ai (aj F (ae (ai (ah F (ad (cQ cL F) ?_)))))
 by_cases IN:((l.length:Nat):Int)>0
 ·refine ad (aB (iy F F) (ay IN)) ?_
  refine ah F (aG F F (aN F) (aG F F (dU (i:=0) cL bj F F (aL hS) (by omega) (by rw[ar];omega)) (aG F F (de dP F F (aL hS) (ij (show 0<l.length by omega))) (aG F F (aB (cT F F) (ak (by omega))) (ad (cA F F) (ah F ?_))))))
  refine aG F F (eO (vs:=(dC a ka)) cZ F bL F F (br _) (aL tE) (fun j hj=>by rw[Nat.zero_add];exact ap hj)) ?_
  refine aG F F (aN F) ?_
  refine iD F F F (bl AQ (aX fun w1 hI=>(haveI:=et hI;wj w1 a ka (hI.pR ha) va sb c l (hI.sl hS) hG.lt (by omega))) F ?_)
  rintro vr O' ⟨N,rfl,rfl,rfl⟩
  refine ad (cg F F) (aj F (ae (aK (aA ?_))))
  refine aS (.bool (l.any (dr a))) Tryz.results150 F ?_
  exact⟨[],Sub.z,F,F⟩
 refine ad (aB (iy F F) (ak IN)) (ah F (aV F F (aV F F (aV F F (aV F F (ad (cg F F) (ah F ?_)))))))
 refine aG F F (eO (vs:=(dC a ka)) cZ F bL F F (br _) (aL tE) (fun j hj=>by rw[Nat.zero_add];exact ap hj)) ?_
 refine aG F F (aN F) ?_
 refine iD F F F (bl AQ (aX fun w1 hI=>(haveI:=et hI;wj w1 a ka (hI.pR ha) va sb c l (hI.sl hS) hG.lt (by omega))) F ?_)
 rintro vr O' ⟨N,rfl,rfl,rfl⟩
 refine ad (cg F F) (aj F (ae (aK (aA ?_))))
 refine aS (.bool (l.any (dr a))) Tryz.results150 F ?_
 exact⟨[],Sub.z,F,F⟩
theorem KD (w:World) [dE Tryz.prog w] (a:cU) (ka:DK) (ha:At w a ka) (va:Valid a) (za:Nat) (tE:Sl w (aD za) (dC a ka)) (g:Bool) (l:List Nat) (sb:Option Addr) (c:Nat) (hS:Sl w sb (ints (jx (g,l)))) (hG:GS a (g,l)):
  cH Tryz.prog 150 [(.slice sb ((jx (g,l)).length) c),(dW (aD za) 0)] w fun v N=>v=.bool (Ou a (g,l))∧N=[]:=by
 cases g with
 |true=>
  rw[show(jx (true,l)).length=l.length+1 by rw[show jx (true,l)= -1::l.map (fun y:Nat=>(y:Int))from F];simp]
  exact KB w a ka ha va za tE l sb c hS hG
 |false=>
  rw[show(jx (false,l)).length=l.length by rw[show jx (false,l)=l.map (fun y:Nat=>(y:Int))from F];simp]
  exact KC w a ka ha va za tE l sb c hS hG
def KE (a:cU) (w:World) (k:Key) (r:SR):Prop:= ∃g l sb cc,GS a (g,l)∧k=Bz (g,l)∧r.a=.slice sb (jx (g,l)).length cc∧r.b=.bool false∧((∃c2,r.k7=[aq sb c2 3 1 (ints (jx (g,l)))])∨(r.k7=[]∧Sl w sb (ints (jx (g,l)))))
theorem KE.sl {w w1:World} {sb:Option Addr} {cs:List Value} {k7:List Lx.Item} (hI:Inv w [] w1) (h:(∃c2,k7=[aq sb c2 3 1 cs])∨(k7=[]∧Sl w sb cs)) (fI: ∀it∈k7,it.P w1):Sl w1 sb cs:=by
 rcases h with⟨c2,he⟩|⟨_,h⟩
 ·exact rowP.sl (fI (aq sb c2 3 1 cs) (by rw[he];simp))
 ·exact hI.sl h
theorem KE.one {a:cU} {w:World} {k:Key} {r:SR} (h:KE a w k r):fa r.a=true∧fa r.b=true:=by
 obtain⟨g,l,sb,cc,_,_,h1,h2,_⟩:=h
 rw[h1,h2];exact⟨F,F⟩
set_option maxRecDepth 20000 in
theorem SB (w:World) [dE Tryz.prog w] (a:cU) (ka:DK) (ha:At w a ka) (va:Valid a) (za:Nat) (tE:Sl w (aD za) (dC a ka)) (w1:World) [dE Tryz.prog w1] (hI:Inv w [] w1) (k:Key) (r:SR) (hR:KE a w k r) (fI: ∀it∈r.k7,it.P w1):eK Tryz.prog w1 (.func (.func 142) #[] #[]) [r.a] [] (fun v O'=>v=str k∧O'=[]):=by
 obtain⟨g,l,sb,cc,hG,rfl,e1,e2,hm⟩:=hR
 have hS:=KE.sl hI hm fI
 rw[e1]
 exact cP (first:=[]) (args:=[.slice sb (jx (g,l)).length cc]) (gr:=[]) SC (Kz w1 a va g l sb cc hS hG)
set_option maxRecDepth 20000 in
theorem SD (w:World) [dE Tryz.prog w] (a:cU) (ka:DK) (ha:At w a ka) (va:Valid a) (za:Nat) (tE:Sl w (aD za) (dC a ka)) (w1:World) [dE Tryz.prog w1] (hI:Inv w [] w1) (k:Key) (r:SR) (hR:KE a w k r) (fI: ∀it∈r.k7,it.P w1) (x:Nat) (hx:x<eh a):eK Tryz.prog w1 (.func (.func 143) #[] #[(dW (aD za) 0)]) [r.a,.int .u8 (x:Int)] [] (fun v N=> ∃r',v=r'.a∧N=r'.k7∧KE a w (By (GS a) Bz (tF a) k x) r'):=by
 obtain⟨g,l,sb,cc,hG,rfl,e1,e2,hm⟩:=hR
 have hS:=KE.sl hI hm fI
 rw[e1]
 refine(cP (first:=[]) (args:=[.slice sb (jx (g,l)).length cc,.int .u8 (x:Int)]) (gr:=[(dW (aD za) 0)]) SE (HU w1 a ka (hI.pR ha) va za (hI.sl tE) g l sb cc hS hG x hx)).mono ?_
 rintro v O' ⟨b',c',c2,rfl,rfl⟩
 have e3:jx (tF a (g,l) x)=(tF a (g,l) x).2.map fun y:Nat=>(y:Int):=rfl
 exact⟨⟨.slice b' (tF a (g,l) x).2.length c',.bool false,[aq b' c2 3 1 (bS (tF a (g,l) x).2)]⟩,F,F,false,(tF a (g,l) x).2,b',c',GS.next x,uy (AT va) hG hx,by show _=Value.slice b' (jx (tF a (g,l) x)).length c';rw[e3,ar],F,.inl ⟨c2,by show _=[aq b' c2 3 1 (ints (jx (tF a (g,l) x)))];rw[e3,gl]⟩⟩
set_option maxRecDepth 20000 in
theorem SF (w:World) [dE Tryz.prog w] (a:cU) (ka:DK) (ha:At w a ka) (va:Valid a) (za:Nat) (tE:Sl w (aD za) (dC a ka)) (w1:World) [dE Tryz.prog w1] (hI:Inv w [] w1) (k:Key) (r:SR) (hR:KE a w k r) (fI: ∀it∈r.k7,it.P w1):eK Tryz.prog w1 (.func (.func 150) #[] #[(dW (aD za) 0)]) [r.a] [] (fun v O'=>v=.bool (HT (GS a) Bz (Ou a) k)∧O'=[]):=by
 obtain⟨g,l,sb,cc,hG,rfl,e1,e2,hm⟩:=hR
 have hS:=KE.sl hI hm fI
 rw[e1]
 rw[AR (AT va) hG]
 exact cP (first:=[]) (args:=[.slice sb (jx (g,l)).length cc]) (gr:=[(dW (aD za) 0)]) SG (KD w1 a ka (hI.pR ha) va za (hI.sl tE) g l sb cc hS hG)
theorem Ws (w:World) [dE Tryz.prog w] (cb:Nat) (eb:Option Addr) (en ec vs B:Nat) (eV:Sl w (aD cb) [.slice eb en ec,vI (vs:Int),vI (B:Int)]) (gv:vs≤6) (iR:1≤B) (hB:B≤4096) (a:cU) (ka:DK) (ha:At w a ka) (va:Valid a) (Wp:a.vars=(vs:Int)):
  dB Tryz.prog w (.iface 163 (.agg #[])) 105 [(dW (aD cb) 0),dV a ka] [] (fun v N=> ∃M k',v=dV M k'∧N=[dI 56 4 3 M k']∧fM (vs:Int) B M (pK (iM a))∧Ew a (eh a) B) (¬Ew a (eh a) B):=by
 refine dM func105 F ntmps105 F ?_
 refine ai (ao F (dG (cs:=(dC a ka)) F F (fun z1=>?_)))
 refine ao F (bs bL F (fun z2=>?_))
 refine ae (ai (ah F (ad (a_ cZ F bj F F) (ad (bK (bi 1 dP F F F F) (v':=vI ((a.start.toNat:Nat):Int)) (show Value.int .i64 a.start=_ by rw[cR va.s0])) (ao F (cz (m:=2) (parts:=[(0,.const (vI (-1))),(1,.tmp 7)]) (cs:=[vI (-1),vI ((a.start.toNat:Nat):Int)]) cL bj (by decide) (by kernel_rfl) F (fun z3=>?_)))))))
 refine ad (eZ) (ad (eZ) ?_)
 have oG:=fun(w1:World) (hI:Inv w [aq (aD z3) 2 3 1 [vI (-1),vI ((a.start.toNat:Nat):Int)],oI z2 25 [(vI 0),(vI 0),nS,nS],oI z1 25 (dC a ka)] w1)=>(haveI:=et hI;Et w1 cb eb en ec vs B (eh a) (hI.sl eV) gv (by unfold eh;rw[Wp];rfl) iR hB (By (GS a) Bz (tF a)) (HT (GS a) Bz (Ou a)) (Bz (Ex a)) (KE a w1) ⟨.slice (aD z3) 2 2,.bool false,[]⟩ (.func (.func 142) #[] #[]) (.func (.func 143) #[] #[(dW (aD z1) 0)]) (.func (.func 150) #[] #[(dW (aD z1) 0)]) ⟨true,[a.start.toNat],(aD z3),2,GS.start va.toVal,F,F,F,.inr ⟨F,hI.ii (mG 0 F)⟩⟩ F (fun k r h=>h.one) (fun w2 k r pH hR fI=>haveI:=et pH;SB w1 a ka (hI.pR ha) va z1 (hI.j_ (mG 2 F)) w2 pH k r hR fI) (fun w2 k r x pH hR fI hx=>haveI:=et pH;SD w1 a ka (hI.pR ha) va z1 (hI.j_ (mG 2 F)) w2 pH k r hR fI x hx) (fun w2 k r pH hR fI=>haveI:=et pH;SF w1 a ka (hI.pR ha) va z1 (hI.j_ (mG 2 F)) w2 pH k r hR fI))
 refine eG F (eW SH (dB.pure oG) F (fun z _=>⟨F,z⟩) ?_)
 clear oG
 rintro vr O' ⟨N,rfl,M,k9,rfl,rfl,hM,Kx⟩
 refine ao F (bN (vs:=(dC M k9)) 2 bL F F F F ?_)
 refine ae (aK (aA ?_))
 refine cM (i:=2) Tryz.results105 cZ F bL F F F ?_
 exact⟨[dI 56 4 3 M k9],(by exact Sub.k .z),M,k9,F,F,⟨⟨hM.valid,hM.len,hM.vars,fun u hu=>by rw[hM.iM u hu];exact zJ va (fun x hx=>by have:=hu x hx;unfold eh;rw[Wp];exact this)⟩,hM.min⟩,Kx⟩
end Go.Proofs.YtgdbfideeeegmaaGreatDoor

namespace Go.Proofs.YtgdbfideeeegmaaGreatDoor
open Go.Lx Go.RowKit _root_.Go.Proofs.Tryz
def Kv (a b:cU) (w:World) (k:Key) (r:SR):Prop:= ∃s l sb cc,GC a b (s,l)∧k=zI (s,l)∧r.a=vI (s:Int)∧r.b=.slice sb l.length cc∧((∃c2,r.k7=[aq sb c2 3 1 (bS l)])∨(r.k7=[]∧Sl w sb (bS l)))
theorem rowAt {w1:World} {b:Option Addr} {c:Nat} {T:TypeId} {cs:List Value} {k7:List Lx.Item} (he:k7=[aq b c T 1 cs]) (h: ∀it∈k7,it.P w1):Sl w1 b cs:=rowP.sl (h (aq b c T 1 cs) (by rw[he];simp))
theorem Kv.sl {a b:cU} {w w1:World} {sb:Option Addr} {l:List Nat} {k7:List Lx.Item} (hI:Inv w [] w1) (h:(∃c2,k7=[aq sb c2 3 1 (bS l)])∨(k7=[]∧Sl w sb (bS l))) (fI: ∀it∈k7,it.P w1):Sl w1 sb (bS l):=by
 rcases h with⟨c2,he⟩|⟨_,h⟩
 ·exact rowAt he fI
 ·exact hI.sl h
theorem Kv.one {a b:cU} {w:World} {k:Key} {r:SR} (h:Kv a b w k r):fa r.a=true∧fa r.b=true:=by
 obtain⟨s,l,sb,cc,_,_,h1,h2,_⟩:=h
 rw[h1,h2];exact⟨F,F⟩
set_option maxRecDepth 20000 in
theorem Wm (w:World) [dE Tryz.prog w] (a:cU) (ka:DK) (ha:At w a ka) (va:Valid a) (za:Nat) (tE:Sl w (aD za) (dC a ka)) (b:cU) (kb:DK) (hb:At w b kb) (vb:Valid b) (zb:Nat) (F3:Sl w (aD zb) (dC b kb)) (yJ:a.vars=b.vars) (zf:Nat) (Wl:Sl w (aD zf) [(.func (.func 153) #[] #[(dW (aD za) 0),(dW (aD zb) 0)])]) (w1:World) [dE Tryz.prog w1] (hI:Inv w [] w1) (k:Key) (r:SR) (hR:Kv a b w k r) (fI: ∀it∈r.k7,it.P w1):eK Tryz.prog w1 (.func (.func 155) #[] #[]) [.agg #[r.a,r.b]] [] (fun v O'=>v=str k∧O'=[]):=by
 obtain⟨s,l,sb,cc,hG,rfl,e1,e2,hm⟩:=hR
 have hS:=Kv.sl (a:=a) (b:=b) hI hm fI
 have HS:=hG.len vb.n4
 rw[e1,e2]
 exact cP (first:=[]) (args:=[.agg #[vI (s:Int),.slice sb l.length cc]]) (gr:=[]) Sq (Ol w1 s (by have:=hG.s;have:=va.n4;omega) sb cc l hS (fun t ht=>by have:=hG.lt t ht;have:=vb.n4;omega) HS)
set_option maxRecDepth 20000 in
theorem Wn (w:World) [dE Tryz.prog w] (a:cU) (ka:DK) (ha:At w a ka) (va:Valid a) (za:Nat) (tE:Sl w (aD za) (dC a ka)) (b:cU) (kb:DK) (hb:At w b kb) (vb:Valid b) (zb:Nat) (F3:Sl w (aD zb) (dC b kb)) (yJ:a.vars=b.vars) (zf:Nat) (Wl:Sl w (aD zf) [(.func (.func 153) #[] #[(dW (aD za) 0),(dW (aD zb) 0)])]) (w1:World) [dE Tryz.prog w1] (hI:Inv w [] w1) (k:Key) (r:SR) (hR:Kv a b w k r) (fI: ∀it∈r.k7,it.P w1) (x:Nat) (hx:x<eh a):eK Tryz.prog w1 (.func (.func 156) #[] #[(dW (aD zf) 0),(dW (aD za) 0),(dW (aD zb) 0)]) [.agg #[r.a,r.b],.int .u8 (x:Int)] [] (fun v N=> ∃r',v=.agg #[r'.a,r'.b]∧N=r'.k7∧Kv a b w (By (GC a b) zI (IR a b) k x) r'):=by
 obtain⟨s,l,sb,cc,hG,rfl,e1,e2,hm⟩:=hR
 have hS:=Kv.sl (a:=a) (b:=b) hI hm fI
 have HS:=hG.len vb.n4
 rw[e1,e2]
 refine(cP (first:=[]) (args:=[.agg #[vI (s:Int),.slice sb l.length cc],.int .u8 (x:Int)]) (gr:=[(dW (aD zf) 0),(dW (aD za) 0),(dW (aD zb) 0)]) Sr (Ks w1 a ka (hI.pR ha) va za (hI.sl tE) b kb (hI.pR hb) vb zb (hI.sl F3) yJ zf (hI.sl Wl) s hG.s sb cc l hS hG.Ss hG.lt x hx)).mono ?_
 rintro v O' ⟨b',c',c2,rfl,rfl⟩
 exact⟨⟨vI ((fm a s x:Nat):Int),.slice b' (vj a b (fm a s x) (fU b l x)).length c',[aq b' c2 3 1 (bS (vj a b (fm a s x) (fU b l x)))]⟩,F,F,fm a s x,_,b',c',hG.next va.toVal vb.toVal hx,uy (F5 va vb) hG hx,F,F,.inl ⟨c2,F⟩⟩
set_option maxRecDepth 20000 in
theorem Wo (w:World) [dE Tryz.prog w] (a:cU) (ka:DK) (ha:At w a ka) (va:Valid a) (za:Nat) (tE:Sl w (aD za) (dC a ka)) (b:cU) (kb:DK) (hb:At w b kb) (vb:Valid b) (zb:Nat) (F3:Sl w (aD zb) (dC b kb)) (yJ:a.vars=b.vars) (zf:Nat) (Wl:Sl w (aD zf) [(.func (.func 153) #[] #[(dW (aD za) 0),(dW (aD zb) 0)])]) (w1:World) [dE Tryz.prog w1] (hI:Inv w [] w1) (k:Key) (r:SR) (hR:Kv a b w k r) (fI: ∀it∈r.k7,it.P w1):eK Tryz.prog w1 (.func (.func 157) #[] #[(dW (aD zb) 0)]) [.agg #[r.a,r.b]] [] (fun v O'=>v=.bool (HT (GC a b) zI (Sp b) k)∧O'=[]):=by
 obtain⟨s,l,sb,cc,hG,rfl,e1,e2,hm⟩:=hR
 have hS:=Kv.sl (a:=a) (b:=b) hI hm fI
 have HS:=hG.len vb.n4
 rw[e1,e2]
 rw[AR (F5 va vb) hG]
 exact cP (first:=[]) (args:=[.agg #[vI (s:Int),.slice sb l.length cc]]) (gr:=[(dW (aD zb) 0)]) Su (Om w1 b kb (hI.pR hb) vb zb (hI.sl F3) s sb cc l hS hG.lt HS)
set_option maxRecDepth 20000 in
theorem Sv (w:World) [dE Tryz.prog w] (a:cU) (ka:DK) (ha:At w a ka) (va:Valid a) (za:Nat) (tE:Sl w (aD za) (dC a ka)) (b:cU) (kb:DK) (hb:At w b kb) (vb:Valid b) (zb:Nat) (F3:Sl w (aD zb) (dC b kb)):eK Tryz.prog w (.func (.func 153) #[] #[(dW (aD za) 0),(dW (aD zb) 0)]) [.agg #[vI a.start,nS]] [] (fun v N=> ∃sb sc M1,v=.agg #[vI a.start,.slice sb (vj a b a.start.toNat []).length sc]∧N=[aq sb M1 3 1 (bS (vj a b a.start.toNat []))]):=by
 refine cP (first:=[]) (args:=[.agg #[vI a.start,nS]]) (gr:=[(dW (aD za) 0),(dW (aD zb) 0)]) Ku (bW.eX 3 1 ?_)
 have h9:=Kq w a ka ha va za tE b kb hb vb zb F3 a.start.toNat (eE va.toVal) none 0 0 [] List.Pairwise.nil (by simp)
 rw[cR va.s0]at h9
 exact h9
theorem Sw (w:World) [dE Tryz.prog w] (cb:Nat) (eb:Option Addr) (en ec vs B:Nat) (eV:Sl w (aD cb) [.slice eb en ec,vI (vs:Int),vI (B:Int)]) (gv:vs≤6) (iR:1≤B) (hB:B≤4096) (a:cU) (ka:DK) (ha:At w a ka) (va:Valid a) (Wp:a.vars=(vs:Int)) (b:cU) (kb:DK) (hb:At w b kb) (vb:Valid b) (yJ:a.vars=b.vars):
  dB Tryz.prog w (.iface 163 (.agg #[])) 108 [(dW (aD cb) 0),dV a ka,dV b kb] [] (fun v N=> ∃M k',v=dV M k'∧N=[dI 56 4 3 M k']∧fM (vs:Int) B M (je (iM a) (iM b))∧AS a b (eh a) B) (¬AS a b (eh a) B):=by
 refine dM func108 F ntmps108 F ?_
 refine ai (ao F (dG (cs:=(dC a ka)) F F (fun z1=>?_)))
 refine ao F (dG (cs:=(dC b kb)) F F (fun z2=>?_))
 refine ao F (bs bL F (fun z3=>?_))
 refine ae (ai (ad (eZ) (ao F (bs Kw F (fun z4=>?_)))))
 let eP:Value:=(.func (.func 153) #[] #[(.pointer (aD z1)),(.pointer (aD z2))])
 refine ao F (bN (vs:=[eP]) 0 Kw F F F F ?_)
 refine ae (ai (ah F (ad (bi 0 Qm F F F F) (ad (a_ cZ F bj F F) (ad (bi 3 dP F F F F) (ad (cE (cs:=[(vI a.start),nS]) F4 lQ (by kernel_rfl)) ?_))))))
 have CG:=(ep (O:=[oI z4 209 [eP],oI z3 25 [(vI 0),(vI 0),nS,nS],oI z2 25 (dC b kb),oI z1 25 (dC a ka)]) fun w1 hI=>haveI:=et hI;(haveI:=et hI;Sv w1 a ka (hI.pR ha) va z1 (hI.j_ (mG 3 F)) b kb (hI.pR hb) vb z2 (hI.j_ (mG 2 F))))
 refine ao F (eN CG F F ?_)
 clear CG
 rintro vr O' ⟨N,rfl,sb,sc,M1,rfl,rfl⟩
 refine ad (eZ) (ad (eZ) ?_)
 have Wq:=fun(w1:World) (hI:Inv w [aq sb M1 3 1 (bS (vj a b a.start.toNat [])),oI z4 209 [eP],oI z3 25 [(vI 0),(vI 0),nS,nS],oI z2 25 (dC b kb),oI z1 25 (dC a ka)] w1)=>(haveI:=et hI;CF w1 cb eb en ec vs B (eh a) (hI.sl eV) gv (by unfold eh;rw[Wp];rfl) iR hB (By (GC a b) zI (IR a b)) (HT (GC a b) zI (Sp b)) (zI (On a b)) (Kv a b w1) ⟨vI a.start,.slice sb (vj a b a.start.toNat []).length sc,[]⟩ (.func (.func 155) #[] #[]) (.func (.func 156) #[] #[(dW (aD z4) 0),(dW (aD z1) 0),(dW (aD z2) 0)]) (.func (.func 157) #[] #[(dW (aD z2) 0)]) ⟨a.start.toNat,vj a b a.start.toNat [],sb,sc,GC.start va.toVal vb.toVal,F,(show Value.int .i64 a.start=_ by rw[cR va.s0]),F,.inr ⟨F,hI.ii (mG 0 F)⟩⟩ F (fun k r h=>h.one) (fun w2 k r pH hR fI=>haveI:=et pH;Wm w1 a ka (hI.pR ha) va z1 (hI.j_ (mG 4 F)) b kb (hI.pR hb) vb z2 (hI.j_ (mG 3 F)) yJ z4 (hI.j_ (mG 1 F)) w2 pH k r hR fI) (fun w2 k r x pH hR fI hx=>haveI:=et pH;Wn w1 a ka (hI.pR ha) va z1 (hI.j_ (mG 4 F)) b kb (hI.pR hb) vb z2 (hI.j_ (mG 3 F)) yJ z4 (hI.j_ (mG 1 F)) w2 pH k r hR fI x hx) (fun w2 k r pH hR fI=>haveI:=et pH;Wo w1 a ka (hI.pR ha) va z1 (hI.j_ (mG 4 F)) b kb (hI.pR hb) vb z2 (hI.j_ (mG 3 F)) yJ z4 (hI.j_ (mG 1 F)) w2 pH k r hR fI))
 refine eG F (eW Sx (dB.pure Wq) F (fun z _=>⟨F,z⟩) ?_)
 clear Wq
 rintro vr O' ⟨N,rfl,M,k9,rfl,rfl,hM,Kx⟩
 refine ao F (bN (vs:=(dC M k9)) 3 bL F F F F ?_)
 refine ae (aK (aA ?_))
 refine cM (i:=3) Tryz.results108 cZ F bL F F F ?_
 exact⟨[dI 56 4 3 M k9],(by exact Sub.k .z),M,k9,F,F,⟨⟨hM.valid,hM.len,hM.vars,fun u hu=>by rw[hM.iM u hu];exact CH va vb yJ (fun x hx=>by have:=hu x hx;unfold eh;rw[Wp];exact this)⟩,hM.min⟩,Kx⟩
end Go.Proofs.YtgdbfideeeegmaaGreatDoor

namespace Go.Proofs.YtgdbfideeeegmaaGreatDoor
open Go.Lx Go.RowKit _root_.Go.Proofs.Tryz
abbrev sN (vs B:Nat) (t:Rx) (v:Value) (N:List Lx.Item):Prop:= ∃M k',v=dV M k'∧N=[dI 56 4 3 M k']∧fM (vs:Int) B M (gB t)∧kQ vs t B
theorem Ez (w:World) [dE Tryz.prog w] (cb:Nat) (eb:Option Addr) (en ec vs B:Nat) (eV:Sl w (aD cb) [.slice eb en ec,vI (vs:Int),vI (B:Int)]) (gv:vs≤6) (iR:1≤B) (hB:B≤4096) (e:List dK) (hE:Sl w eb (bt e)) (j6:en=e.length) (i:Nat) (hp:e[i]? =some ⟨2,0,0,0,0⟩):
  dB Tryz.prog w (.iface 163 (.agg #[])) 72 [(dW (aD cb) 0),vN i] [] (sN vs B Rx.empty) (¬kQ vs Rx.empty B):=by
 refine dM func72 F ntmps72 F ?_
 obtain⟨hi,_⟩:=iK hp
 refine ai (ao F (bs bL F (fun z1=>?_)))
 refine ae (ai (ah F (ad (a8 F) (ad (cy lx F fT F F (aL eV) (by first|omega|(simp;done)|(simp;omega)|(simp_all;done)|(simp_all;omega))) (ad (de cX F F (aL eV) F) (ah F (ad (dT (i:=i) cX cm F F (aL hE) (by omega) (by rw[bY];omega)) (ad (eO (vs:=[v8 2,v8 0,v8 0,vI 0,vI 0]) bU F cm F F (br _) (aL hE) (fy hp)) (ao F (bs cm F (fun z2=>?_)))))))))))
 refine ao F (bN (vs:=[v8 2,v8 0,v8 0,vI 0,vI 0]) 0 cm F F F F ?_)
 refine ae (aM (ai (ad (a_ bU F du F F) (ad (bi 0 fA F F F F) (ae (aU (ai (ad (bJ F F) (ad (aB (cx F) (ak (by decide))) (ae (a6 F (ai (ad (bJ F F) (ad (aB (cx F) (ay (by decide))) ?_))))))))))))))
 refine ae ?_
 refine bO F ?_
 refine ai (ah F (ad (eu 0 bU F cm F F F) ?_))
 have CI:=fun(w1:World) (hI:Inv w [oI z2 72 [v8 2,v8 0,v8 0,vI 0,vI 0],oI z1 25 [(vI 0),(vI 0),nS,nS]] w1)=>(haveI:=et hI;KF w1 cb eb en ec vs B (hI.sl eV) gv iR hB 0 2 0 0 0 0 (by omega) (by omega) (by omega))
 refine eG F (eW KG (dB.pure CI) F (fun z _=>⟨F,z⟩) ?_)
 clear CI
 rintro vr O' ⟨N,rfl,M,kr,rfl,rfl,EA,DP⟩
 refine ao F (bN (vs:=(dC M kr)) 2 bL F F F F ?_)
 refine ae (aK (aA ?_))
 refine cM (i:=2) Tryz.results72 cZ F bL F F F ?_
 exact⟨[dI 56 4 3 M kr],(by exact Sub.k .z),M,kr,F,F,EA,DP⟩
theorem CK (w:World) [dE Tryz.prog w] (cb:Nat) (eb:Option Addr) (en ec vs B:Nat) (eV:Sl w (aD cb) [.slice eb en ec,vI (vs:Int),vI (B:Int)]) (gv:vs≤6) (iR:1≤B) (hB:B≤4096) (e:List dK) (hE:Sl w eb (bt e)) (j6:en=e.length) (i:Nat) (p n:Nat) (NF:p<256) (lF:n<256) (hp:e[i]? =some ⟨3,p,n,0,0⟩):
  dB Tryz.prog w (.iface 163 (.agg #[])) 72 [(dW (aD cb) 0),vN i] [] (sN vs B (.letter p n)) (¬kQ vs (.letter p n) B):=by
 refine dM func72 F ntmps72 F ?_
 obtain⟨hi,_⟩:=iK hp
 refine ai (ao F (bs bL F (fun z1=>?_)))
 refine ae (ai (ah F (ad (a8 F) (ad (cy lx F fT F F (aL eV) (by first|omega|(simp;done)|(simp;omega)|(simp_all;done)|(simp_all;omega))) (ad (de cX F F (aL eV) F) (ah F (ad (dT (i:=i) cX cm F F (aL hE) (by omega) (by rw[bY];omega)) (ad (eO (vs:=[v8 3,v8 p,v8 n,vI 0,vI 0]) bU F cm F F (br _) (aL hE) (fy hp)) (ao F (bs cm F (fun z2=>?_)))))))))))
 refine ao F (bN (vs:=[v8 3,v8 p,v8 n,vI 0,vI 0]) 0 cm F F F F ?_)
 refine ae (aM (ai (ad (a_ bU F du F F) (ad (bi 0 fA F F F F) (ae (aU (ai (ad (bJ F F) (ad (aB (cx F) (ak (by decide))) (ae (a6 F (ai (ad (bJ F F) (ad (aB (cx F) (ak (by decide))) ?_))))))))))))))
 refine ae (a6 F (ai (ad (bJ F F) (ad (aB (cx F) (ay (by decide))) (ae ?_)))))
 refine bO F ?_
 refine ai (ah F (ad (eu 0 bU F cm F F F) ?_))
 have xn:=fun(w1:World) (hI:Inv w [oI z2 72 [v8 3,v8 p,v8 n,vI 0,vI 0],oI z1 25 [(vI 0),(vI 0),nS,nS]] w1)=>(haveI:=et hI;KF w1 cb eb en ec vs B (hI.sl eV) gv iR hB 1 3 p n 0 0 (by omega) (by omega) (by omega))
 refine eG F (eW KG (dB.pure xn) F (fun z _=>⟨F,z⟩) ?_)
 clear xn
 rintro vr O' ⟨N,rfl,M,kr,rfl,rfl,EA,DP⟩
 refine ao F (bN (vs:=(dC M kr)) 2 bL F F F F ?_)
 refine ae (aK (aA ?_))
 refine cM (i:=2) Tryz.results72 cZ F bL F F F ?_
 exact⟨[dI 56 4 3 M kr],(by exact Sub.k .z),M,kr,F,F,EA,DP⟩
theorem HV (w:World) [dE Tryz.prog w] (cb:Nat) (eb:Option Addr) (en ec vs B:Nat) (eV:Sl w (aD cb) [.slice eb en ec,vI (vs:Int),vI (B:Int)]) (gv:vs≤6) (iR:1≤B) (hB:B≤4096) (e:List dK) (hE:Sl w eb (bt e)) (j6:en=e.length) (i:Nat) (a:Rx) (j:Nat) (hp:e[i]? =some ⟨8,0,0,(j:Int),0⟩) (Ov: ∀(w1:World) [dE Tryz.prog w1],Inv w [] w1→dB Tryz.prog w1 (.iface 163 (.agg #[])) 72 [(dW (aD cb) 0),vN j] [] (sN vs B a) (¬kQ vs a B)):
  dB Tryz.prog w (.iface 163 (.agg #[])) 72 [(dW (aD cb) 0),vN i] [] (sN vs B (.star a)) (¬kQ vs (.star a) B):=by
 refine dM func72 F ntmps72 F ?_
 obtain⟨hi,_⟩:=iK hp
 refine ai (ao F (bs bL F (fun z1=>?_)))
 refine ae (ai (ah F (ad (a8 F) (ad (cy lx F fT F F (aL eV) (by first|omega|(simp;done)|(simp;omega)|(simp_all;done)|(simp_all;omega))) (ad (de cX F F (aL eV) F) (ah F (ad (dT (i:=i) cX cm F F (aL hE) (by omega) (by rw[bY];omega)) (ad (eO (vs:=[v8 8,v8 0,v8 0,vN j,vI 0]) bU F cm F F (br _) (aL hE) (fy hp)) (ao F (bs cm F (fun z2=>?_)))))))))))
 refine ao F (bN (vs:=[v8 8,v8 0,v8 0,vN j,vI 0]) 0 cm F F F F ?_)
 refine ae (aM (ai (ad (a_ bU F du F F) (ad (bi 0 fA F F F F) (ae (aU (ai (ad (bJ F F) (ad (aB (cx F) (ak (by decide))) (ae (a6 F (ai (ad (bJ F F) (ad (aB (cx F) (ak (by decide))) ?_))))))))))))))
 refine ae (a6 F (ai (ad (bJ F F) (ad (aB (cx F) (ak (by decide))) (ae (a6 F (ai (ad (bJ F F) (ad (aB (cx F) (ak (by decide))) ?_)))))))))
 refine ae (a6 F (ai (ad (bJ F F) (ad (aB (cx F) (ay (by decide))) (ae ?_)))))
 refine bO F ?_
 refine ai (ah F (ah F (ad (a_ bU F bj F F) (ad (bi 0 dP F F F F) ?_))))
 have JY:=fun(w1:World) (hI:Inv w [oI z2 72 [v8 8,v8 0,v8 0,vN j,vI 0],oI z1 25 [(vI 0),(vI 0),nS,nS]] w1)=>(haveI:=et hI;Ov w1 hI.nD)
 refine eG F (eW pL (dB.pure JY) F (fun z _=>⟨F,fun h9=>z h9.1⟩) ?_)
 clear JY
 rintro vr O' ⟨N,rfl,MA,kA,rfl,rfl,qF,HW⟩
 have zK:=gX qF hB
 have KH:=fun(w1:World) (hI:Inv w [dI 56 4 3 MA kA,oI z2 72 [v8 8,v8 0,v8 0,vN j,vI 0],oI z1 25 [(vI 0),(vI 0),nS,nS]] w1)=>(haveI:=et hI;Ws w1 cb eb en ec vs B (hI.sl eV) gv iR hB MA kA (hI.at (k:=kA) (mG 0 F)) qF.valid qF.vars)
 refine eG F (eW SJ (dB.pure KH) F (fun z _=>⟨F,fun h9=>z (by rw[zK];exact h9.2)⟩) ?_)
 clear KH
 rintro vr O' ⟨N,rfl,M,kr,rfl,rfl,SK,SL⟩
 have EA:fM (vs:Int) B M (gB (.star a)):=SK.to fun w9 h9=>vl (fun u hu=>qF.iM u hu) h9
 have DP:kQ vs (.star a) B:=⟨HW,by rw[←zK];exact SL⟩
 refine ao F (bN (vs:=(dC M kr)) 3 bL F F F F ?_)
 refine ae (aK (aA ?_))
 refine cM (i:=3) Tryz.results72 cZ F bL F F F ?_
 exact⟨[dI 56 4 3 M kr],(by exact Sub.k .z),M,kr,F,F,EA,DP⟩
theorem KI (w:World) [dE Tryz.prog w] (cb:Nat) (eb:Option Addr) (en ec vs B:Nat) (eV:Sl w (aD cb) [.slice eb en ec,vI (vs:Int),vI (B:Int)]) (gv:vs≤6) (iR:1≤B) (hB:B≤4096) (e:List dK) (hE:Sl w eb (bt e)) (j6:en=e.length) (i:Nat) (a b:Rx) (j k:Nat) (hp:e[i]? =some ⟨4,0,0,(j:Int),(k:Int)⟩) (Ov: ∀(w1:World) [dE Tryz.prog w1],Inv w [] w1→dB Tryz.prog w1 (.iface 163 (.agg #[])) 72 [(dW (aD cb) 0),vN j] [] (sN vs B a) (¬kQ vs a B)) (Wy: ∀(w1:World) [dE Tryz.prog w1],Inv w [] w1→dB Tryz.prog w1 (.iface 163 (.agg #[])) 72 [(dW (aD cb) 0),vN k] [] (sN vs B b) (¬kQ vs b B)):
  dB Tryz.prog w (.iface 163 (.agg #[])) 72 [(dW (aD cb) 0),vN i] [] (sN vs B (.gZ a b)) (¬kQ vs (.gZ a b) B):=by
 refine dM func72 F ntmps72 F ?_
 obtain⟨hi,_⟩:=iK hp
 refine ai (ao F (bs bL F (fun z1=>?_)))
 refine ae (ai (ah F (ad (a8 F) (ad (cy lx F fT F F (aL eV) (by first|omega|(simp;done)|(simp;omega)|(simp_all;done)|(simp_all;omega))) (ad (de cX F F (aL eV) F) (ah F (ad (dT (i:=i) cX cm F F (aL hE) (by omega) (by rw[bY];omega)) (ad (eO (vs:=[v8 4,v8 0,v8 0,vN j,vN k]) bU F cm F F (br _) (aL hE) (fy hp)) (ao F (bs cm F (fun z2=>?_)))))))))))
 refine ao F (bN (vs:=[v8 4,v8 0,v8 0,vN j,vN k]) 0 cm F F F F ?_)
 refine ae (aM (ai (ad (a_ bU F du F F) (ad (bi 0 fA F F F F) (ae (aU (ai (ad (bJ F F) (ad (aB (cx F) (ak (by decide))) (ae (a6 F (ai (ad (bJ F F) (ad (aB (cx F) (ak (by decide))) ?_))))))))))))))
 refine ae (a6 F (ai (ad (bJ F F) (ad (aB (cx F) (ak (by decide))) (ae (a6 F (ai (ad (bJ F F) (ad (aB (cx F) (ak (by decide))) ?_)))))))))
 refine ae (a6 F (ai (ad (bJ F F) (ad (aB (cx F) (ak (by decide))) (ae (a6 F (ai (ad (bJ F F) (ad (aB (cx F) (ak (by decide))) ?_)))))))))
 refine ae (a6 F (ai (ad (bJ F F) (ad (aB (cx F) (ak (by decide))) (ae (a6 F (aE (aM ?_))))))))
 refine fD [(0,0),(1,0),(2,0),(3,0),(5,0),(6,0),(7,0),(4,1),(8,1),(9,2),(10,2)] ?_
 refine au F (aN F) (au F (aN F) (au F (a_ bU F bj F F) (au F (bi 0 dP F F F F) (au F (aN F) (au F (a_ bU F bj F F) (au F (bi 0 dP F F F F) ?_))))))
 have Wz:=fun(w1:World) (hI:Inv w [oI z2 72 [v8 4,v8 0,v8 0,vN j,vN k],oI z1 25 [(vI 0),(vI 0),nS,nS]] w1)=>(haveI:=et hI;Ov w1 hI.nD)
 refine io F F (eW pL (dB.pure Wz) F (fun z _=>⟨F,fun h9=>z h9.1⟩) ?_)
 clear Wz
 rintro vr O' ⟨N,rfl,MA,kA,rfl,rfl,qF,HW⟩
 refine⟨by exact Sub.d (.k (.k .z)),?_⟩
 have zK:=gX qF hB
 have WA:=fun(w1:World) (hI:Inv w [dI 56 4 3 MA kA,oI z2 72 [v8 4,v8 0,v8 0,vN j,vN k],oI z1 25 [(vI 0),(vI 0),nS,nS]] w1)=>(haveI:=et hI;Wy w1 hI.nD)
 refine io F F (eW pL (dB.pure WA) F (fun z _=>⟨F,fun h9=>z h9.2.1⟩) ?_)
 clear WA
 rintro vr O' ⟨N,rfl,MB,kB,rfl,rfl,yI,HX⟩
 refine⟨by exact Sub.d (.d (.k (.k .z))),?_⟩
 have Qs:=gX yI hB
 have KJ:=fun(w1:World) (hI:Inv w [dI 56 4 3 MB kB,dI 56 4 3 MA kA,oI z2 72 [v8 4,v8 0,v8 0,vN j,vN k],oI z1 25 [(vI 0),(vI 0),nS,nS]] w1)=>(haveI:=et hI;Sw w1 cb eb en ec vs B (hI.sl eV) gv iR hB MA kA (hI.at (k:=kA) (mG 1 F)) qF.valid qF.vars MB kB (hI.at (k:=kB) (mG 0 F)) yI.valid (by rw[qF.vars,yI.vars]))
 refine sr F F (eW EB (dB.pure KJ) F (fun z _=>⟨F,fun h9=>z (by rw[zK,Qs];exact h9.2.2)⟩) ?_)
 clear KJ
 rintro vr O' ⟨N,rfl,M,kr,rfl,rfl,SK,SL⟩
 have EA:fM (vs:Int) B M (gB (.gZ a b)):=SK.to fun w9 h9=>pv (fun u hu=>qF.iM u hu) (fun u hu=>yI.iM u hu) h9
 have DP:kQ vs (.gZ a b) B:=⟨HW,HX,by rw[←zK,←Qs];exact SL⟩
 refine b_ F F (bN (vs:=(dC M kr)) 4 bL F F F F ?_)
 refine cw ?_
 refine aK (aA ?_)
 refine cM (i:=4) Tryz.results72 cZ F bL F F F ?_
 exact⟨[dI 56 4 3 M kr],(by exact Sub.k .z),M,kr,F,F,EA,DP⟩
structure SM (cb:Nat) (eb:Option Addr) (en ec vs B:Nat) (e:List dK):Prop where
 nn: ∀(w:World) [dE Tryz.prog w],vs≤6→1≤B→B≤4096→Sl w (aD cb) [.slice eb en ec,vI (vs:Int),vI (B:Int)]→Sl w eb (bt e)→ ∀(i:Nat),e[i]? =some ⟨1,0,0,0,0⟩→dB Tryz.prog w (.iface 163 (.agg #[])) 72 [(dW (aD cb) 0),vN i] [] (sN vs B Rx.none) (¬kQ vs Rx.none B)
 nt: ∀(w:World) [dE Tryz.prog w],vs≤6→1≤B→B≤4096→Sl w (aD cb) [.slice eb en ec,vI (vs:Int),vI (B:Int)]→Sl w eb (bt e)→ ∀(i:Nat) (a:Rx) (j:Nat),e[i]? =some ⟨7,0,0,(j:Int),0⟩→(∀(w1:World) [dE Tryz.prog w1],Inv w [] w1→dB Tryz.prog w1 (.iface 163 (.agg #[])) 72 [(dW (aD cb) 0),vN j] [] (sN vs B a) (¬kQ vs a B))→dB Tryz.prog w (.iface 163 (.agg #[])) 72 [(dW (aD cb) 0),vN i] [] (sN vs B (.not a)) (¬kQ vs (.not a) B)
 al: ∀(w:World) [dE Tryz.prog w],vs≤6→1≤B→B≤4096→Sl w (aD cb) [.slice eb en ec,vI (vs:Int),vI (B:Int)]→Sl w eb (bt e)→ ∀(i:Nat) (a b:Rx) (j k:Nat),e[i]? =some ⟨5,0,0,(j:Int),(k:Int)⟩→(∀(w1:World) [dE Tryz.prog w1],Inv w [] w1→dB Tryz.prog w1 (.iface 163 (.agg #[])) 72 [(dW (aD cb) 0),vN j] [] (sN vs B a) (¬kQ vs a B))→(∀(w1:World) [dE Tryz.prog w1],Inv w [] w1→dB Tryz.prog w1 (.iface 163 (.agg #[])) 72 [(dW (aD cb) 0),vN k] [] (sN vs B b) (¬kQ vs b B))→dB Tryz.prog w (.iface 163 (.agg #[])) 72 [(dW (aD cb) 0),vN i] [] (sN vs B (.iv a b)) (¬kQ vs (.iv a b) B)
 an: ∀(w:World) [dE Tryz.prog w],vs≤6→1≤B→B≤4096→Sl w (aD cb) [.slice eb en ec,vI (vs:Int),vI (B:Int)]→Sl w eb (bt e)→ ∀(i:Nat) (a b:Rx) (j k:Nat),e[i]? =some ⟨6,0,0,(j:Int),(k:Int)⟩→(∀(w1:World) [dE Tryz.prog w1],Inv w [] w1→dB Tryz.prog w1 (.iface 163 (.agg #[])) 72 [(dW (aD cb) 0),vN j] [] (sN vs B a) (¬kQ vs a B))→(∀(w1:World) [dE Tryz.prog w1],Inv w [] w1→dB Tryz.prog w1 (.iface 163 (.agg #[])) 72 [(dW (aD cb) 0),vN k] [] (sN vs B b) (¬kQ vs b B))→dB Tryz.prog w (.iface 163 (.agg #[])) 72 [(dW (aD cb) 0),vN i] [] (sN vs B (.and a b)) (¬kQ vs (.and a b) B)
def EC (e:List dK):Bool:=e.all fun x=>!(x.op==1||x.op==5||x.op==6||x.op==7||x.op==10)
theorem mR {e:List dK} (h:EC e=true) {i:Nat} {x:dK} (hx:e[i]? =some x):x.op≠1∧x.op≠5∧x.op≠6∧x.op≠7∧x.op≠10:=by
 have:=List.all_eq_true.1 h _ (bQ hx)
 simpa[and_assoc]using this
theorem AU {cb:Nat} {eb:Option Addr} {en ec vs B:Nat} {e:List dK} (h:EC e=true):SM cb eb en ec vs B e:=
 ⟨fun _ _ _ _ _ _ _ i hp=>absurd F (mR h hp).1,fun _ _ _ _ _ _ _ i _ _ hp=>absurd F (mR h hp).2.2.2.1,fun _ _ _ _ _ _ _ i _ _ _ _ hp=>absurd F (mR h hp).2.1,fun _ _ _ _ _ _ _ i _ _ _ _ hp=>absurd F (mR h hp).2.2.1⟩
theorem jN {cb:Nat} {eb:Option Addr} {en ec vs B:Nat} {e:List dK} (F6:SM cb eb en ec vs B e) (gv:vs≤6) (iR:1≤B) (hB:B≤4096) (j6:en=e.length): ∀(t:Rx) (hp:t.plain=true) (i:Nat),re e t i→ ∀(w:World) [dE Tryz.prog w],Sl w (aD cb) [.slice eb en ec,vI (vs:Int),vI (B:Int)]→Sl w eb (bt e)→dB Tryz.prog w (.iface 163 (.agg #[])) 72 [(dW (aD cb) 0),vN i] [] (sN vs B t) (¬kQ vs t B)
 | .none,hp,i,h,w,_,eV,hE=>F6.nn w gv iR hB eV hE i h
 | .empty,hp,i,h,w,_,eV,hE=>Ez w cb eb en ec vs B eV gv iR hB e hE j6 i h
 | .letter p n,hp,i,⟨h,h1,h2⟩,w,_,eV,hE=>CK w cb eb en ec vs B eV gv iR hB e hE j6 i p n h1 h2 h
 | .not a,hp,i,⟨j,h,ha⟩,w,_,eV,hE=>F6.nt w gv iR hB eV hE i a j h (fun w1 _ hI=>jN F6 gv iR hB j6 a (by simp only[Rx.plain,aJ]at hp;exact hp) _ ha w1 (hI.sl eV) (hI.sl hE))
 | .star a,hp,i,⟨j,h,ha⟩,w,_,eV,hE=>HV w cb eb en ec vs B eV gv iR hB e hE j6 i a j h (fun w1 _ hI=>jN F6 gv iR hB j6 a (by simp only[Rx.plain,aJ]at hp;exact hp) _ ha w1 (hI.sl eV) (hI.sl hE))
 | .gZ a b,hp,i,⟨j,k,h,ha,hb⟩,w,_,eV,hE=>KI w cb eb en ec vs B eV gv iR hB e hE j6 i a b j k h (fun w1 _ hI=>jN F6 gv iR hB j6 a (by simp only[Rx.plain,aJ]at hp;exact hp.1) _ ha w1 (hI.sl eV) (hI.sl hE)) (fun w1 _ hI=>jN F6 gv iR hB j6 b (by simp only[Rx.plain,aJ]at hp;exact hp.2) _ hb w1 (hI.sl eV) (hI.sl hE))
 | .iv a b,hp,i,⟨j,k,h,ha,hb⟩,w,_,eV,hE=>F6.al w gv iR hB eV hE i a b j k h (fun w1 _ hI=>jN F6 gv iR hB j6 a (by simp only[Rx.plain,aJ]at hp;exact hp.1) _ ha w1 (hI.sl eV) (hI.sl hE)) (fun w1 _ hI=>jN F6 gv iR hB j6 b (by simp only[Rx.plain,aJ]at hp;exact hp.2) _ hb w1 (hI.sl eV) (hI.sl hE))
 | .and a b,hp,i,⟨j,k,h,ha,hb⟩,w,_,eV,hE=>F6.an w gv iR hB eV hE i a b j k h (fun w1 _ hI=>jN F6 gv iR hB j6 a (by simp only[Rx.plain,aJ]at hp;exact hp.1) _ ha w1 (hI.sl eV) (hI.sl hE)) (fun w1 _ hI=>jN F6 gv iR hB j6 b (by simp only[Rx.plain,aJ]at hp;exact hp.2) _ hb w1 (hI.sl eV) (hI.sl hE))
 | .ahead a,hp,_,_,_,_,_,_=>absurd hp (by simp[Rx.plain])
 | .behind a,hp,_,_,_,_,_,_=>absurd hp (by simp[Rx.plain])
end Go.Proofs.YtgdbfideeeegmaaGreatDoor

namespace Go.Proofs.YtgdbfideeeegmaaGreatDoor
open Go.Lx Go.RowKit _root_.Go.Proofs.Tryz
theorem qJ.frame {base:World} {f:FuncId} {args:List Value} {zs:Nat} {bb:Option Addr} {bc mm:Nat} {bh:List Nat} {ls:List Lf} {r:OB} {E:List Cf} (h:qJ base f args zs bb bc mm bh ls r E) (B:List Lx.Item) {O:List Lx.Item} (cb:Option Addr) (cc:Nat) (l:List CR) (p:List OB) (hS:ly ls l p) (hp:mg p r) (hs:Sub ([dF zs (.cells (List.toArray [(.slice bb bh.length bc),(.slice cb l.length cc)]) 122 (0,0)),aq cb cc 169 3 (dt l),aq bb mm 3 1 (bS bh)]++B) O):
  bW Tryz.prog base f args (O++gg 173 p) (fun v O'=> ∃uz uA l' p',v=.tuple #[]∧O'=([dF zs (.cells (List.toArray [(.slice bb bh.length bc),(.slice uz l'.length uA)]) 122 (0,0)),aq uz uA 169 3 (dt l'),aq bb mm 3 1 (bS bh)]++B)++gg 173 p'∧l'.map CR.cf=E.foldl add (l.map CR.cf)∧ly ls l' p'∧(∀x∈p,x∈p')):=by
 refine((h cb cc l p hS hp).under (B:=B) (qK _ _ _ _ hs)).post ?_
 rintro v O' ⟨A',rfl,uz,uA,l',p',rfl,rfl,h1,h2,h3⟩
 exact⟨_,qL _ _ _,uz,uA,l',p',F,F,h1,h2,h3⟩
def tG (nb:List Nat) (k:Nat):List Nat:=nb.take k++List.replicate (nb.length-k) 0
theorem rh {nb:List Nat} {k:Nat} (h:k≤nb.length):(tG nb k).length=nb.length:=by unfold tG;rw[aw,ck,iU];omega
theorem CX (nb:List Nat):tG nb 0=List.replicate nb.length 0:=by simp[tG]
theorem F_ (nb:List Nat):tG nb nb.length=nb:=by simp[tG]
theorem A0 {nb:List Nat} {k:Nat} (h:k<nb.length):(tG nb k).set k nb[k]=tG nb (k+1):=by
 unfold tG
 rw[aH h,show nb.length-k=(nb.length-(k+1))+1 by omega,List.replicate_succ,List.set_append_right _ _ (by simp;omega),aI]
 simp[Nat.min_eq_left (Nat.le_of_lt h)]
theorem K5 {nb:List Nat} {k:Nat} (h:k<nb.length) (h0:nb[k]=0):tG nb (k+1)=tG nb k:=by
 rw[←A0 h,h0]
 unfold tG
 rw[show nb.length-k=(nb.length-(k+1))+1 by omega,List.replicate_succ,List.set_append_right _ _ (by simp;omega)]
 simp[Nat.min_eq_left (Nat.le_of_lt h)]
theorem OE (w:World) [dE Tryz.prog w] (ob:Nat) (lb:Option Addr) (lc:Nat) (cv fv:Value) (ls:List Lf) (ks:List LK) (ho:ll w ob lb lc cv fv ls ks) (vs:Nat) (hG:iw ls vs) {K:Nat} (hK:qy ls K) (xE:K<1099511627776) (first:List Nat) (fb:Option Addr) (fc:Nat) (hfv:fv=.slice fb first.length fc) (nF:Sl w fb (bS first)) (hf: ∀k∈first,k<ls.length) (rL:first.length≤1000000):
  cH Tryz.prog 75 [(dW (aD ob) 0)] w fun v N=> ∃bb bc mm cb cc l p,v=.agg #[.slice bb (ls.map fun l=>l.d.start.toNat).length bc,.slice cb l.length cc]∧N=[aq bb mm 3 1 (bS (ls.map fun l=>l.d.start.toNat)),aq cb cc 169 3 (dt l)]++gg 173 p∧l.map CR.cf=(first.flatMap fun k=>fK ls (2*ls.length) (ls.map fun l=>l.d.start.toNat) k []).foldl add []∧ly ls l p:=by
 refine aF func75 F ntmps75 F ?_
 have iA:=hG.len
 obtain⟨nb,B5⟩: ∃l:List Nat,l=(ls.map fun l=>l.d.start.toNat):=⟨_,F⟩
 have MS:nb.length=ls.length:=by rw[B5];simp
 refine ai (ao F (bs kv F (fun z1=>?_)))
 refine ae (ai (ah F (ad (a8 F) (ad (cy gA F gD F F (aL ho.bx) (by first|omega|(simp;done)|(simp;omega)|(simp_all;done)|(simp_all;omega))) (ad (de fB F F (aL ho.bx) F) (ad (cQ fB F) (ao F (cY (m:=ls.length) cL bj F F (by omega) (by omega) (fun z2=>?_)))))))))
 refine ad (cE (cs:=[(.slice (aD z2) ls.length ls.length),nS]) Ga kv (by kernel_rfl)) (ao F (bs kv F (fun z3=>?_)))
 refine ao F (bN (vs:=[(.slice (aD z2) ls.length ls.length),nS]) 0 kv F F F F ?_)
 refine ae (aM (ai (ah F (ad (a8 F) (ad (cy gA F gD F F (aL ho.bx) (by first|omega|(simp;done)|(simp;omega)|(simp_all;done)|(simp_all;omega))) (ad (de fB F F (aL ho.bx) F) (ad (cQ fB F) (ah F (ae (aU ?_))))))))))
 refine dO (fun(k:Nat) ρ O=>O=[oI z3 122 [(.slice (aD z2) ls.length ls.length),nS],aq (aD z2) ls.length 3 1 (bS (tG nb k)),oI z1 122 [nS,nS]]∧k≤ls.length∧dv [(0,(dW (aD ob) 0)),(2,(.pointer (aD z1))),(3,(.pointer (aD z3))),(18,(.slice lb ls.length lc)),(19,vI (ls.length:Int)),(20,vI ((k:Nat):Int))] ρ) (fun k=>ls.length-k) 0 ?_ ?_
 ·exact⟨by rw[CX,MS,show bS (List.replicate ls.length 0)=List.replicate ls.length (vI 0) by simp];rfl,bn _,(.of F)⟩
 rintro k ρ O ⟨rfl,hk,hH⟩
 obtain⟨gF,rfl⟩:=hH.elim
 clear hH
 refine ai (ad (cT F F) (ae (aM (aP F (fun hc=>?_) (fun hc=>?_)))))
 ·have uY:k<ls.length:=by omega
  refine aE (aM (aU (ai (ah F (ad (dT (i:=k) fB fe F F (aL ho.rw) uY (by rw[dS ho.kl];omega)) (ad (eO (vs:=[v8 ((lf ls k).op),vI (lf ls k).d.vars,vI (((lf ls k).d.start.toNat:Nat):Int),(.slice (lk ks k).k.nb ((lf ls k).d.next.length) ((lk ks k).k.nc)),(.slice (lk ks k).k.fb ((lf ls k).d.aY.length) ((lk ks k).k.fc)),(.slice (lk ks k).b ((lf ls k).fo.length) ((lk ks k).c)),.bool (lf ls k).la]) iz F fe F F (br _) (aL ho.rw) (oJ ho.kl uY (hG.kg uY).s0)) (ao F (bs fe F (fun z4=>?_)))))))))
  refine aj F (ao F (bN (vs:=[v8 ((lf ls k).op),vI (lf ls k).d.vars,vI (((lf ls k).d.start.toNat:Nat):Int),(.slice (lk ks k).k.nb ((lf ls k).d.next.length) ((lk ks k).k.nc)),(.slice (lk ks k).k.fb ((lf ls k).d.aY.length) ((lk ks k).k.fc)),(.slice (lk ks k).b ((lf ls k).fo.length) ((lk ks k).c)),.bool (lf ls k).la]) 0 fe F F F F ?_))
  refine ae (a7 (ad (a_ mb F cV F F) (ad (bi 1 cL F F F F) (ah F (ad (a_ iz F bL F F) (ad (a_ cZ F bj F F) (ad (bi 0 dP F F F F) (ad (dU (i:=k) cL bj F F (dR (mG 2 F)) (by first|omega|(rw[rh (by omega)];omega)) (by first|omega|(rw[ar,rh (by omega)];omega))) (ao F (ol (j:=k) (v:=vI (((lf ls k).d.start.toNat:Nat):Int)) (vs:=[(vI (((lf ls k).d.start.toNat:Nat):Int))]) (cs:=bS (tG nb k)) 2 bj F F F F F (by simp) F (by rw[ar,rh (by omega)];simp;omega) ?_))))))))))
  refine dX (O':=[oI z4 118 [v8 ((lf ls k).op),vI (lf ls k).d.vars,vI (((lf ls k).d.start.toNat:Nat):Int),(.slice (lk ks k).k.nb ((lf ls k).d.next.length) ((lk ks k).k.nc)),(.slice (lk ks k).k.fb ((lf ls k).d.aY.length) ((lk ks k).k.fc)),(.slice (lk ks k).b ((lf ls k).fo.length) ((lk ks k).c)),.bool (lf ls k).la],oI z3 122 [(.slice (aD z2) ls.length ls.length),nS],aq (aD z2) ls.length 3 1 (bS (tG nb (k+1))),oI z1 122 [nS,nS]]) (by rw[show fh (bS (tG nb k)) k [(vI (((lf ls k).d.start.toNat:Nat):Int))]=bS (tG nb (k+1))from(by rw[←A0 (by omega),show nb[k]=(lf ls k).d.start.toNat by simp only[B5,List.getElem_map,uC uY]];simp[fh])];exact cj (aZ _)) ?_
  refine ae (a7 (ad (dy (a:=k) (b:=1) F F (by omega)) (ah F (ae ?_))))
  exact⟨k+1,by omega,[oI z3 122 [(.slice (aD z2) ls.length ls.length),nS],aq (aD z2) ls.length 3 1 (bS (tG nb (k+1))),oI z1 122 [nS,nS]],(by exact Sub.d (.k (.k (.k .z)))),F,by omega,(.of F)⟩
 have wK: ¬k<ls.length:=by omega
 refine cK ?_
 refine aM (ai (ah F (ad (a8 F) (ad (cy gA F cV F F (aL ho.bx) (by first|omega|(simp;done)|(simp;omega)|(simp_all;done)|(simp_all;omega))) (ad (de cL F F (aL ho.bx) (by rw[hfv];rfl)) (ad (cQ cL F) (ah F (ae (aU ?_)))))))))
 have RR:k=ls.length:=by omega
 subst RR
 refine T.eX 169 3 ?_
 refine dx (O':=[oI z3 122 [(.slice (aD z2) nb.length ls.length),(.slice none (([]:List CR).length) 0)],aq none 0 169 3 (dt ([]:List CR)),aq (aD z2) ls.length 3 1 (bS nb),oI z1 122 [nS,nS]]++gg 173 []) (by
  rw[show tG nb ls.length=nb by rw[←MS,F_],MS]
  exact(aC [1,0,0,0] F)) ?_
 refine dO (fun(i:Nat) ρ O=> ∃(cb:Option Addr) (cc:Nat) (l:List CR) (p:List OB),O=([oI z3 122 [(.slice (aD z2) nb.length ls.length),(.slice cb l.length cc)],aq cb cc 169 3 (dt l),aq (aD z2) ls.length 3 1 (bS nb),oI z1 122 [nS,nS]]++(gg 173 p))∧i≤first.length∧l.map CR.cf=((first.take i).flatMap fun k=>fK ls (2*ls.length) nb k []).foldl add []∧ly ls l p∧dv [(0,(dW (aD ob) 0)),(2,(.pointer (aD z1))),(3,(.pointer (aD z3))),(36,(.slice fb first.length fc)),(37,vI (first.length:Int)),(38,vI ((i:Nat):Int))] ρ) (fun i=>first.length-i) 0 ?_ ?_
 ·exact⟨none,0,[],[],F,bn _,F,⟨by simp,List.nodup_nil,by simp⟩,(.of F)⟩
 rintro i ρ O ⟨cb,cc,l,p,rfl,hi,hm,hS,hH⟩
 obtain⟨gF,rfl⟩:=hH.elim
 clear hH
 refine ai (ad (cT F F) (ae (aM (aP F (fun hc=>?_) (fun hc=>?_)))))
 ·have zL:i<first.length:=by omega
  refine aE (aM (aU (ai (ad (dU (i:=i) cL bj F F (aL nF) zL (by rw[ar];exact zL)) (ad (de dP F F (aL nF) (ij zL)) (aj F (ae (a7 (ah F (ah F ?_))))))))))
  have Cj:=(qJ.frame ((EL w ob lb lc cv fv ls ks ho vs hG hK xE z3 (aD z2) ls.length ls.length nb (by rw[B5];exact qM hG) (2*ls.length)).1 first[i] ⟨none,0,[]⟩ (hf _ (aQ zL)) (by omega) .nil) [oI z1 122 [nS,nS]] (O:=[oI z3 122 [(.slice (aD z2) nb.length ls.length),(.slice cb l.length cc)],aq cb cc 169 3 (dt l),aq (aD z2) ls.length 3 1 (bS nb),oI z1 122 [nS,nS]]) cb cc l p hS (.inr F) (by exact Sub.rf))
  refine ao F (bl K3 Cj F ?_)
  clear Cj
  rintro vr O' ⟨Oy,Oz,l3,p3,rfl,rfl,OA,IT,DL⟩
  refine ae (a7 (ad (dy (a:=i) (b:=1) F F (by omega)) (ah F (ae ?_))))
  exact⟨i+1,by omega,_,cj (aZ _),Oy,Oz,l3,p3,F,by omega,by rw[aH zL,List.flatMap_append,cO,←hm,OA];simp,IT,(.of F)⟩
 have WV: ¬i<first.length:=by omega
 refine cK ?_
 refine ai (ad (eu 0 mb F kv F F F) (ao F (bN (vs:=[(.slice (aD z2) nb.length ls.length),(.slice cb l.length cc)]) 3 kv F F F F ?_)))
 refine ae (aK (aA ?_))
 refine cM (i:=3) Tryz.results75 mb F kv F F F ?_
 have we:i=first.length:=by omega
 subst we
 rw[List.take_length]at hm
 exact⟨[aq (aD z2) ls.length 3 1 (bS nb),aq cb cc 169 3 (dt l)]++gg 173 p,(by exact Sub.d (.ew [aq cb cc 169 3 (dt l)] _ (.k (.d .rf)))),(aD z2),ls.length,ls.length,cb,cc,l,p,by rw[←B5];rfl,by rw[←B5],by rw[hm,←B5],hS⟩
end Go.Proofs.YtgdbfideeeegmaaGreatDoor

namespace Go.Proofs.YtgdbfideeeegmaaGreatDoor
open Go.Lx Go.RowKit _root_.Go.Proofs.Tryz
theorem EM {ls:List Lf} {vs:Nat} (hG:iw ls vs) {x:Nat} (hx:x<2^vs) {m:Nat} {o:List Ob} (hm:m≤ls.length) (h:fV ls m o) {j:Nat} (hj:j<o.length):fV ls o[j].1 (mh ls (o.take j) x):=by
 have h1:=h.2 _ (aQ hj)
 refine uD hG hx (by omega) (m:=0) .nil (h.1.sublist (List.take_sublist j o)) (fun p hp=>?_) (bn _)
 obtain⟨i,hi,rfl⟩:=List.mem_iff_getElem.1 hp
 rw[ck]at hi
 rw[List.getElem_take]
 exact⟨bn _,(List.pairwise_iff_getElem.1 h.1) i j (by omega) hj (by omega),(h.2 _ (aQ _)).2⟩
theorem EN {ls:List Lf} {x:Nat} {o:List Ob} {j:Nat} (hj:j<o.length):mh ls (o.take (j+1)) x=oH ls (mh ls (o.take j) x) (o[j].1,fm (lf ls o[j].1).d o[j].2 x):=by
 unfold mh;rw[aH hj,cO];rfl
theorem Te (w:World) [dE Tryz.prog w] (ob:Nat) (lb:Option Addr) (lc:Nat) (cv fv:Value) (ls:List Lf) (ks:List LK) (ho:ll w ob lb lc cv fv ls ks) (vs:Nat) (hG:iw ls vs) {K:Nat} (hK:qy ls K) (xE:K<1099511627776) (x:Nat) (hx:x<2^vs) (gv:vs≤6) (b0:List Nat) (sb:Option Addr) (sc:Nat) (hsb:Sl w sb (bS b0)) (IM:pO ls b0) (l0:List CR) (tb:Option Addr) (tc:Nat) (htb:Sl w tb (dt l0)) (hg: ∀y∈l0,jk ls y.cf) (lJ:(l0.map CR.cf).Nodup) (CV: ∀y∈l0,Sl w y.r.b (fE y.r.o)):
  cH Tryz.prog 77 [(dW (aD ob) 0),.agg #[.slice sb b0.length sc,.slice tb l0.length tc],v8 x] w fun v N=> ∃bb bc mm cb cc l p,v=.agg #[.slice bb (jv ls b0 x).length bc,.slice cb l.length cc]∧N=[aq bb mm 3 1 (bS (jv ls b0 x)),aq cb cc 169 3 (dt l)]++gg 173 p∧l.map CR.cf=((l0.map CR.cf).flatMap (iQ ls (jv ls b0 x) x)).foldl add []∧ly ls l p:=by
 refine aF func77 F ntmps77 F ?_
 have iA:=hG.len
 obtain⟨nb,B5⟩: ∃l:List Nat,l=jv ls b0 x:=⟨_,F⟩
 have Z6:=xH hG IM hx
 rw[←B5]at Z6
 have MS:nb.length=ls.length:=Z6.len
 have Tf:=IM.len
 have Hp:l0.length≤K:=by
  have:=hK (l0.map CR.cf) lJ fun c hc=>by obtain⟨y,hy,rfl⟩:=List.mem_map.1 hc;exact hg y hy
  simpa using this
 have ach:x<256:=eQ hx (cF (by decide) (show vs≤8 by omega))
 refine ai (ao F (dG (cs:=[(.slice sb b0.length sc),(.slice tb l0.length tc)]) F F (fun z1=>?_)))
 refine ao F (bs kv F (fun z2=>?_))
 refine ae (ai (ad (a_ mb F cV F F) (ad (bi 1 cL F F F F) (ad (cQ cL F) (ao F (cY (m:=b0.length) cL bj F F (by omega) (by omega) (fun z3=>?_)))))))
 refine ad (cE (cs:=[(.slice (aD z3) b0.length b0.length),nS]) Ga kv (by kernel_rfl)) (ao F (bs kv F (fun z4=>?_)))
 refine ao F (bN (vs:=[(.slice (aD z3) b0.length b0.length),nS]) 0 kv F F F F ?_)
 refine ae (aM (ai (ah F (ad (a8 F) (ad (cy gA F gD F F (aL ho.bx) (by first|omega|(simp;done)|(simp;omega)|(simp_all;done)|(simp_all;omega))) (ad (de fB F F (aL ho.bx) F) (ad (cQ fB F) (ah F (ae (aU ?_))))))))))
 refine dO (fun(k:Nat) ρ O=>O=[oI z4 122 [(.slice (aD z3) b0.length b0.length),nS],aq (aD z3) b0.length 3 1 (bS (tG nb k)),oI z2 122 [nS,nS],oI z1 122 [(.slice sb b0.length sc),(.slice tb l0.length tc)]]∧k≤ls.length∧dv [(0,(dW (aD ob) 0)),(1,(.agg #[(.slice sb b0.length sc),(.slice tb l0.length tc)])),(2,v8 x),(4,(.pointer (aD z1))),(6,(.pointer (aD z2))),(7,(.pointer (aD z4))),(25,(.slice lb ls.length lc)),(26,vI (ls.length:Int)),(27,vN k)] ρ) (fun k=>ls.length-k) 0 ?_ ?_
 ·exact⟨by rw[CX,MS,←Tf,show bS (List.replicate b0.length 0)=List.replicate b0.length (vI 0) by simp];rfl,bn _,(.of F)⟩
 rintro k ρ O ⟨rfl,hk,hH⟩
 obtain⟨gF,rfl⟩:=hH.elim
 clear hH
 refine ai (ad (cT F F) (ae (aM (aP F (fun hc=>?_) (fun hc=>?_)))))
 ·have qN:k<ls.length:=by omega
  refine aE (aM (aU (ai (ah F (ad (dT (i:=k) fB fe F F (aL ho.rw) qN (by rw[dS ho.kl];omega)) (ad (eO (vs:=[v8 ((lf ls k).op),vI (lf ls k).d.vars,vN ((lf ls k).d.start.toNat),(.slice (lk ks k).k.nb ((lf ls k).d.next.length) ((lk ks k).k.nc)),(.slice (lk ks k).k.fb ((lf ls k).d.aY.length) ((lk ks k).k.fc)),(.slice (lk ks k).b ((lf ls k).fo.length) ((lk ks k).c)),.bool (lf ls k).la]) iz F fe F F (br _) (aL ho.rw) (oJ ho.kl qN (hG.kg qN).s0)) (ao F (bs fe F (fun z5=>?_)))))))))
  refine aj F (ao F (bN (vs:=[v8 ((lf ls k).op),vI (lf ls k).d.vars,vN ((lf ls k).d.start.toNat),(.slice (lk ks k).k.nb ((lf ls k).d.next.length) ((lk ks k).k.nc)),(.slice (lk ks k).k.fb ((lf ls k).d.aY.length) ((lk ks k).k.fc)),(.slice (lk ks k).b ((lf ls k).fo.length) ((lk ks k).c)),.bool (lf ls k).la]) 0 fe F F F F ?_))
  refine ae (ai (ad (a_ iz F du F F) (ad (bi 0 fA F F F F) (ad (bJ F F) (ae (aP F (fun hc=>?_) (fun hc=>?_)))))))
  ·have aci:(lf ls k).op=10:=by omega
   have H2:(lf ls k).op=10:=by omega
   have rM:b0.getD k 0<(lf ls k).d.next.length:=IM.lt k qN
   obtain⟨v1,c1,g1,s1⟩:=(ho.dk _ qN).rows.get rM
   have Kg:(lf ls k).d.next[b0.getD k 0].length=eh (lf ls k).d:=(hG.kg qN).len _ (aQ rM)
   have OF:x<eh (lf ls k).d:=by unfold eh;rw[hG.vars _ (ky qN)];exact hx
   have WW:x<(lf ls k).d.next[b0.getD k 0].length:=by rw[Kg];exact OF
   refine fD [(0,0),(1,0),(2,0),(3,0),(4,0),(5,0),(6,0),(7,0),(8,0),(9,0),(10,0),(11,0),(12,0),(13,0),(14,0),(15,0),(16,0),(17,2)] ?_
   refine au F (a_ mb F cV F F) (au F (bi 1 cL F F F F) (au F (aN F) (au F (a_ iz F bL F F) (au F (a_ cZ F fz F F) (au F (bi 0 e_ F F F F) (au F (a_ mb F cV F F) (au F (bi 4 cL F F F F) (au F (aN F) (au F (dU (i:=k) cL bj F F (aL hsb) (by omega) (by rw[ar];omega)) (au F (de dP F F (aL hsb) (lR (by omega))) (au F (dU (i:=(b0.getD k 0)) e_ cV F F (aL (ho.dk _ qN).outer) rM ((ho.dk _ qN).rows.1▸rM)) (au F (de cL F F (aL (ho.dk _ qN).outer) g1) (au F (aN F) (au F (dU (i:=x) cL bj F F (aL s1) WW (by rw[ar];exact WW)) (au F (de dP F F (aL s1) (wH (hG.kg qN) rM OF)) (au F (dU (i:=k) cL bj F F (dR (mG 2 F)) (by first|omega|(rw[rh (by omega)];omega)) (by first|omega|(rw[ar,rh (by omega)];omega))) ?_))))))))))))))))
   refine b_ F F (ol (j:=k) (v:=vN (fm (lf ls k).d (b0.getD k 0) x)) (vs:=[(vN (fm (lf ls k).d (b0.getD k 0) x))]) (cs:=bS (tG nb k)) 2 bj F F F F F (by simp) F (by rw[ar,rh (by omega)];simp;omega) ?_)
   refine e7 (O':=[oI z5 118 [v8 ((lf ls k).op),vI (lf ls k).d.vars,vN ((lf ls k).d.start.toNat),(.slice (lk ks k).k.nb ((lf ls k).d.next.length) ((lk ks k).k.nc)),(.slice (lk ks k).k.fb ((lf ls k).d.aY.length) ((lk ks k).k.fc)),(.slice (lk ks k).b ((lf ls k).fo.length) ((lk ks k).c)),.bool (lf ls k).la],oI z4 122 [(.slice (aD z3) b0.length b0.length),nS],aq (aD z3) b0.length 3 1 (bS (tG nb (k+1))),oI z2 122 [nS,nS],oI z1 122 [(.slice sb b0.length sc),(.slice tb l0.length tc)]]) (by rw[show fh (bS (tG nb k)) k [(vN (fm (lf ls k).d (b0.getD k 0) x))]=bS (tG nb (k+1))from(by rw[←A0 (by omega),show nb[k]=fm (lf ls k).d (b0.getD k 0) x by simp only[B5,jv,List.getElem_map,List.getElem_range];rw[aO H2]];simp[fh])];exact cj (aZ _)) ?_
   refine cw ?_
   refine a7 (ad (dy (a:=k) (b:=1) F F (by omega)) (ah F (ae ?_)))
   exact⟨k+1,by omega,[oI z4 122 [(.slice (aD z3) b0.length b0.length),nS],aq (aD z3) b0.length 3 1 (bS (tG nb (k+1))),oI z2 122 [nS,nS],oI z1 122 [(.slice sb b0.length sc),(.slice tb l0.length tc)]],(by exact Sub.d (.k (.k (.k (.k .z))))),F,by omega,(.of F)⟩
  have acj: ¬(lf ls k).op=10:=by omega
  have H2: ¬(lf ls k).op=10:=by omega
  refine aE (a7 (ad (dy (a:=k) (b:=1) F F (by omega)) (ah F (ae ?_))))
  have Sk:tG nb (k+1)=tG nb k:=K5 (by omega) (by simp only[B5,jv,List.getElem_map,List.getElem_range];rw[az H2])
  exact⟨k+1,by omega,[oI z4 122 [(.slice (aD z3) b0.length b0.length),nS],aq (aD z3) b0.length 3 1 (bS (tG nb k)),oI z2 122 [nS,nS],oI z1 122 [(.slice sb b0.length sc),(.slice tb l0.length tc)]],(by exact Sub.d (.k (.k (.k (.k .z))))),by rw[Sk],by omega,(.of F)⟩
 have ack: ¬k<ls.length:=by omega
 refine cK ?_
 refine aM (ai (ad (a_ mb F qH F F) (ad (bi 3 nP F F F F) (ad (cQ nP F) (ah F (ae (aU ?_)))))))
 have RR:k=ls.length:=by omega
 subst RR
 refine T.eX 169 3 ?_
 refine dx (O':=[oI z4 122 [(.slice (aD z3) nb.length b0.length),(.slice none (([]:List CR).length) 0)],aq none 0 169 3 (dt ([]:List CR)),aq (aD z3) b0.length 3 1 (bS nb),oI z2 122 [nS,nS],oI z1 122 [(.slice sb b0.length sc),(.slice tb l0.length tc)]]++gg 173 []) (by
  rw[show tG nb ls.length=nb by rw[←MS,F_],MS,←Tf]
  exact(aC [1,0,0,0,0] F)) ?_
 refine dO (fun(i:Nat) ρ O=> ∃(cb:Option Addr) (cc:Nat) (l:List CR) (p:List OB),O=([oI z4 122 [(.slice (aD z3) nb.length b0.length),(.slice cb l.length cc)],aq cb cc 169 3 (dt l),aq (aD z3) b0.length 3 1 (bS nb),oI z2 122 [nS,nS],oI z1 122 [(.slice sb b0.length sc),(.slice tb l0.length tc)]]++(gg 173 p))∧i≤l0.length∧l.map CR.cf=(((l0.take i).map CR.cf).flatMap (iQ ls nb x)).foldl add []∧ly ls l p∧dv [(0,(dW (aD ob) 0)),(1,(.agg #[(.slice sb b0.length sc),(.slice tb l0.length tc)])),(2,v8 x),(4,(.pointer (aD z1))),(6,(.pointer (aD z2))),(7,(.pointer (aD z4))),(54,(.slice tb l0.length tc)),(55,vI (l0.length:Int)),(56,vN i)] ρ) (fun i=>l0.length-i) 0 ?_ ?_
 ·exact⟨none,0,[],[],F,bn _,F,⟨by simp,List.nodup_nil,by simp⟩,(.of F)⟩
 rintro i ρ O ⟨cb,cc,l,p,rfl,hi,hm,hS,hH⟩
 obtain⟨gF,rfl⟩:=hH.elim
 clear hH
 refine ai (ad (cT F F) (ae (aM (aP F (fun hc=>?_) (fun hc=>?_)))))
 ·have zM:i<l0.length:=by omega
  have YM:=hg _ (aQ zM)
  have K6:((l0.take (i+1)).map CR.cf).flatMap (iQ ls nb x)=((l0.take i).map CR.cf).flatMap (iQ ls nb x)++iQ ls nb x l0[i].cf:=by rw[aH zM,bm,List.flatMap_append];simp only[cJ,fQ,List.flatMap_cons,List.flatMap_nil,c7]
  refine aE (aM (aU (ai (ad (dT (i:=i) nP jq F F (aL htb) zM (by rw[pw];omega)) (ad (eO (vs:=[vI l0[i].k,vN (l0[i].s),(.slice l0[i].r.b l0[i].r.o.length l0[i].r.c)]) lH F jq F F (br _) (aL htb) (su zM)) (ao F (bs jq F (fun z6=>?_))))))))
  refine ao F (bN (vs:=[vI l0[i].k,vN (l0[i].s),(.slice l0[i].r.b l0[i].r.o.length l0[i].r.c)]) 0 jq F F F F ?_)
  refine ae (aM (ai (ad (a_ lH F bj F F) (ad (bi 0 dP F F F F) (ad (cT F F) (ae (aP F (fun hc=>?_) (fun hc=>?_))))))))
  ·have WX:l0[i].k<0:=hc
   refine cK ?_
   refine a7 (ad (dy (a:=i) (b:=1) F F (by omega)) (ah F (ae ?_)))
   have e9:iQ ls nb x l0[i].cf=[]:=by unfold iQ;rw[aO (show l0[i].cf.k<0 from WX)]
   exact⟨i+1,by omega,[oI z4 122 [(.slice (aD z3) nb.length b0.length),(.slice cb l.length cc)],aq cb cc 169 3 (dt l),aq (aD z3) b0.length 3 1 (bS nb),oI z2 122 [nS,nS],oI z1 122 [(.slice sb b0.length sc),(.slice tb l0.length tc)]]++gg 173 p,(by exact Sub.d (.k (.k (.k (.k (.k .rf)))))),cb,cc,l,p,F,by omega,by rw[K6,e9,c7];exact hm,hS,(.of F)⟩
  obtain⟨kk,zN,nE,om,Tg⟩: ∃k:Nat,l0[i].k=(k:Int)∧k<ls.length∧l0[i].s<(lf ls k).d.next.length∧fV ls k l0[i].r.o:=YM.elim (fun h=>absurd h.1 (by show¬l0[i].k= -1;omega)) id
  have SS:l0[i].r.o.length≤12:=by have:=Tg.len;omega
  refine aE (ai (aj F (ae (aM (ai (ad (a_ lH F AW F F) (ad (bi 0 jC F F F F) (ad (cQ jC F) (ah F (ae (aU ?_)))))))))))
  refine dO (fun(j:Nat) ρ O=> ∃(r3:OB) (p3:List OB),O=([oI z6 169 [vI l0[i].k,vN (l0[i].s),(.slice l0[i].r.b l0[i].r.o.length l0[i].r.c)],oI z4 122 [(.slice (aD z3) nb.length b0.length),(.slice cb l.length cc)],aq cb cc 169 3 (dt l),aq (aD z3) b0.length 3 1 (bS nb),oI z2 122 [nS,nS],oI z1 122 [(.slice sb b0.length sc),(.slice tb l0.length tc)]]++(gg 173 p3))∧j≤l0[i].r.o.length∧r3.o=mh ls (l0[i].r.o.take j) x∧mg p3 r3∧ly ls l p3∧dv [(0,(dW (aD ob) 0)),(1,(.agg #[(.slice sb b0.length sc),(.slice tb l0.length tc)])),(2,v8 x),(4,(.pointer (aD z1))),(6,(.pointer (aD z2))),(7,(.pointer (aD z4))),(11,(.pointer (aD z6))),(12,(.slice r3.b r3.o.length r3.c)),(54,(.slice tb l0.length tc)),(55,vI (l0.length:Int)),(56,vN i),(64,(.slice l0[i].r.b l0[i].r.o.length l0[i].r.c)),(65,vI (l0[i].r.o.length:Int)),(66,vN j)] ρ) (fun j=>l0[i].r.o.length-j) 0 ?_ ?_
  ·exact⟨⟨none,0,[]⟩,p,F,bn _,F,.inr F,hS,(.of F)⟩
  rintro j ρ O ⟨r3,p3,rfl,hj,Uy,DL,IT,hH⟩
  obtain⟨gF,rfl⟩:=hH.elim
  clear hH
  refine ai (ad (cT F F) (ae (aM (aP F (fun hc=>?_) (fun hc=>?_)))))
  ·have xp:j<l0[i].r.o.length:=by omega
   have NK:=Tg.2 _ (aQ xp)
   have K7:l0[i].r.o[j].1<ls.length:=by omega
   have Jt:l0[i].r.o[j].2<(lf ls l0[i].r.o[j].1).d.next.length:=NK.2
   obtain⟨v2,c2,g2,s2⟩:=(ho.dk _ K7).rows.get Jt
   have YN:(lf ls l0[i].r.o[j].1).d.next[l0[i].r.o[j].2].length=eh (lf ls l0[i].r.o[j].1).d:=(hG.kg K7).len _ (aQ Jt)
   have NM:x<eh (lf ls l0[i].r.o[j].1).d:=by unfold eh;rw[hG.vars _ (ky K7)];exact hx
   have WY:x<(lf ls l0[i].r.o[j].1).d.next[l0[i].r.o[j].2].length:=by rw[YN];exact NM
   have Z7:=((hG.kg K7).toVal.gY Jt NM).1
   refine aE (aM (aU (ai (ad (dT (i:=j) jC gP F F (aL (CV _ (aQ zM))) xp (by rw[jO];omega)) (ad (eO (vs:=[vN (l0[i].r.o[j].1),vN (l0[i].r.o[j].2)]) ke F gP F F (br _) (aL (CV _ (aQ zM))) (nq xp)) (ao F (bs gP F (fun z7=>?_))))))))
   refine ao F (bN (vs:=[vN (l0[i].r.o[j].1),vN (l0[i].r.o[j].2)]) 0 gP F F F F ?_)
   refine ae ?_
   refine fD [(0,0),(1,0),(2,0),(3,0),(4,0),(5,0),(6,0),(7,0),(8,0),(9,0),(10,0),(11,0),(12,0),(13,0),(14,0),(15,0),(16,0),(17,0),(18,0),(19,0),(20,0),(21,0),(22,2),(23,2)] ?_
   refine au F (aN F) (au F (aN F) (au F (jA (i:=0) ke bj F F (by decide)) (au F (bi 0 dP F F F F) (au F (aN F) (au F (a8 F) (au F (cy gA F gD F F (aL ho.bx) (by first|omega|(simp;done)|(simp;omega)|(simp_all;done)|(simp_all;omega))) (au F (de fB F F (aL ho.bx) F) (au F (jA (i:=0) ke bj F F (by decide)) (au F (bi 0 dP F F F F) (au F (dT (i:=l0[i].r.o[j].1) fB fe F F (aL ho.rw) K7 (by rw[dS ho.kl];omega)) (au F (cy iz F bL F F (aL ho.rw) (by rw[dS ho.kl];omega)) (au F (cy cZ F fz F F (aL ho.rw) (by rw[dS ho.kl];show _*7+1<_;omega)) (au F (de e_ F F (aL ho.rw) (qI ho.kl K7 3 F F)) (au F (jA (i:=1) ke bj F F (by decide)) (au F (bi 0 dP F F F F) (au F (dU (i:=l0[i].r.o[j].2) e_ cV F F (aL (ho.dk _ K7).outer) Jt ((ho.dk _ K7).rows.1▸Jt)) (au F (de cL F F (aL (ho.dk _ K7).outer) g2) (au F (aN F) (au F (dU (i:=x) cL bj F F (aL s2) WY (by rw[ar];exact WY)) (au F (de dP F F (aL s2) (wH (hG.kg K7) Jt NM)) (au F (s7 (cs:=[vN (l0[i].r.o[j].1),vN (fm (lf ls l0[i].r.o[j].1).d l0[i].r.o[j].2 x)]) ke bj gP (by kernel_rfl)) ?_)))))))))))))))))))))
   have KJ:=fun(w1:World) (hI:Inv w ([oI z7 173 [vN (l0[i].r.o[j].1),vN (l0[i].r.o[j].2)],oI z6 169 [vI l0[i].k,vN (l0[i].s),(.slice l0[i].r.b l0[i].r.o.length l0[i].r.c)],oI z4 122 [(.slice (aD z3) nb.length b0.length),(.slice cb l.length cc)],aq cb cc 169 3 (dt l),aq (aD z3) b0.length 3 1 (bS nb),oI z2 122 [nS,nS],oI z1 122 [(.slice sb b0.length sc),(.slice tb l0.length tc)]]++(gg 173 p3)) w1)=>(haveI:=et hI;WR w1 ob lb lc cv fv ls ks (hI.out ho) vs hG r3 (mg.sl hI (fun it fI=>am _ fI) DL) (l0[i].r.o[j].1,fm (lf ls l0[i].r.o[j].1).d l0[i].r.o[j].2 x) l0[i].r.o[j].1 (by rw[Uy];exact EM hG hx (Nat.le_of_lt nE) Tg xp) (bF _) K7 Z7)
   refine b_ F F (bl K4 (aX KJ) F ?_)
   clear KJ
   rintro vr O' ⟨N,rfl,pl,r4,rfl,rfl,hr4,Z8⟩
   have Yv:mg (pl++p3) r4:=by
    rcases Z8 with⟨rfl,rfl⟩|rfl
    ·exact DL.mono fun x hx=>by simpa using hx
    ·exact .inl (by simp)
   refine e7 (O':=([oI z7 173 [vN (l0[i].r.o[j].1),vN (l0[i].r.o[j].2)],oI z6 169 [vI l0[i].k,vN (l0[i].s),(.slice l0[i].r.b l0[i].r.o.length l0[i].r.c)],oI z4 122 [(.slice (aD z3) nb.length b0.length),(.slice cb l.length cc)],aq cb cc 169 3 (dt l),aq (aD z3) b0.length 3 1 (bS nb),oI z2 122 [nS,nS],oI z1 122 [(.slice sb b0.length sc),(.slice tb l0.length tc)]]++((gg 173 pl)++(gg 173 p3)))) (by exact fL [] _ (gg 173 pl) (gg 173 p3)) ?_
   refine b_ F F (d_ F F (cx F) ?_)
   refine cw ?_
   refine a7 (ad (dy (a:=j) (b:=1) F F (by omega)) (ah F (ae ?_)))
   exact⟨j+1,by omega,_,(by rw[CW];exact(by exact Sub.d (.k (.k (.k (.k (.k (.k .rf)))))))),r4,pl++p3,F,by omega,by rw[EN xp,←Uy,hr4],Yv,IT.mono fun x hx=>am _ hx,(.of F)⟩
  have VM: ¬j<l0[i].r.o.length:=by omega
  refine cK ?_
  refine aM ?_
  have hje:j=l0[i].r.o.length:=by omega
  subst hje
  rw[List.take_length]at Uy
  have WZ:fV ls kk r3.o:=by rw[Uy];exact xI hG hx (Nat.le_of_lt nE) Tg
  obtain⟨v3,c3,g3,s3⟩:=(ho.dk _ nE).rows.get om
  have M3:(lf ls kk).d.next[l0[i].s].length=eh (lf ls kk).d:=(hG.kg nE).len _ (aQ om)
  have Z9:x<eh (lf ls kk).d:=by unfold eh;rw[hG.vars _ (ky nE)];exact hx
  have W0:x<(lf ls kk).d.next[l0[i].s].length:=by rw[M3];exact Z9
  have tH:=((hG.kg nE).toVal.gY om Z9).1
  refine fD [(0,0),(1,0),(2,0),(3,0),(4,0),(5,0),(6,0),(7,0),(8,1),(9,2)] ?_
  refine au F (aN F) (au F (a8 F) (au F (cy gA F gD F F (aL ho.bx) (by first|omega|(simp;done)|(simp;omega)|(simp_all;done)|(simp_all;omega))) (au F (de fB F F (aL ho.bx) F) (au F (a_ lH F bj F F) (au F (bK (bi 0 dP F F F F) (v':=vN kk) (by show Value.int _ _=_;rw[zN])) (au F (dT (i:=kk) fB fe F F (aL ho.rw) nE (by rw[dS ho.kl];omega)) (au F (eO (vs:=[v8 ((lf ls kk).op),vI (lf ls kk).d.vars,vN ((lf ls kk).d.start.toNat),(.slice (lk ks kk).k.nb ((lf ls kk).d.next.length) ((lk ks kk).k.nc)),(.slice (lk ks kk).k.fb ((lf ls kk).d.aY.length) ((lk ks kk).k.fc)),(.slice (lk ks kk).b ((lf ls kk).fo.length) ((lk ks kk).c)),.bool (lf ls kk).la]) iz F fe F F (br _) (aL ho.rw) (oJ ho.kl nE (hG.kg nE).s0)) ?_)))))))
  refine cr F F (bs fe F (fun z8=>⟨by exact Sub.d (.k (.k (.k (.k (.k (.k .rf)))))),?_⟩))
  refine b_ F F (bN (vs:=[v8 ((lf ls kk).op),vI (lf ls kk).d.vars,vN ((lf ls kk).d.start.toNat),(.slice (lk ks kk).k.nb ((lf ls kk).d.next.length) ((lk ks kk).k.nc)),(.slice (lk ks kk).k.fb ((lf ls kk).d.aY.length) ((lk ks kk).k.fc)),(.slice (lk ks kk).b ((lf ls kk).fo.length) ((lk ks kk).c)),.bool (lf ls kk).la]) 0 fe F F F F ?_)
  refine cw ?_
  refine ai (ad (a_ iz F bL F F) (ad (a_ cZ F fz F F) (ad (bi 0 e_ F F F F) (ad (a_ lH F bj F F) (ad (bi 1 dP F F F F) (ad (dU (i:=l0[i].s) e_ cV F F (aL (ho.dk _ nE).outer) om ((ho.dk _ nE).rows.1▸om)) (ad (de cL F F (aL (ho.dk _ nE).outer) g3) (ah F (ad (dU (i:=x) cL bj F F (aL s3) W0 (by rw[ar];exact W0)) (ad (de dP F F (aL s3) (wH (hG.kg nE) om Z9)) (aj F (ae (ai (ah F (ad (a_ lH F bj F F) (ad (bK (bi 1 dP F F F F) (v':=vN kk) (by show Value.int _ _=_;rw[zN])) (ah F (ah F (ad (cE (cs:=[vN kk,vN (fm (lf ls kk).d l0[i].s x),(.slice r3.b r3.o.length r3.c)]) AY jq (by kernel_rfl)) ?_)))))))))))))))))))
  have Qz:=S8 w hG hK xE (dW (aD ob) 0) z4 (aD z3) b0.length nb [oI z8 118 [v8 ((lf ls kk).op),vI (lf ls kk).d.vars,vN ((lf ls kk).d.start.toNat),(.slice (lk ks kk).k.nb ((lf ls kk).d.next.length) ((lk ks kk).k.nc)),(.slice (lk ks kk).k.fb ((lf ls kk).d.aY.length) ((lk ks kk).k.fc)),(.slice (lk ks kk).b ((lf ls kk).fo.length) ((lk ks kk).c)),.bool (lf ls kk).la],oI z6 169 [vI l0[i].k,vN (l0[i].s),(.slice l0[i].r.b l0[i].r.o.length l0[i].r.c)],aq (aD z3) b0.length 3 1 (bS nb),oI z2 122 [nS,nS],oI z1 122 [(.slice sb b0.length sc),(.slice tb l0.length tc)]] cb cc l p3 ⟨(kk:Int),fm (lf ls kk).d l0[i].s x,r3⟩ IT (.inr ⟨kk,F,nE,tH,WZ⟩) DL (O:=[oI z8 118 [v8 ((lf ls kk).op),vI (lf ls kk).d.vars,vN ((lf ls kk).d.start.toNat),(.slice (lk ks kk).k.nb ((lf ls kk).d.next.length) ((lk ks kk).k.nc)),(.slice (lk ks kk).k.fb ((lf ls kk).d.aY.length) ((lk ks kk).k.fc)),(.slice (lk ks kk).b ((lf ls kk).fo.length) ((lk ks kk).c)),.bool (lf ls kk).la],oI z6 169 [vI l0[i].k,vN (l0[i].s),(.slice l0[i].r.b l0[i].r.o.length l0[i].r.c)],oI z4 122 [(.slice (aD z3) nb.length b0.length),(.slice cb l.length cc)],aq cb cc 169 3 (dt l),aq (aD z3) b0.length 3 1 (bS nb),oI z2 122 [nS,nS],oI z1 122 [(.slice sb b0.length sc),(.slice tb l0.length tc)]]) (by exact Sub.ew [oI z8 118 [v8 ((lf ls kk).op),vI (lf ls kk).d.vars,vN ((lf ls kk).d.start.toNat),(.slice (lk ks kk).k.nb ((lf ls kk).d.next.length) ((lk ks kk).k.nc)),(.slice (lk ks kk).k.fb ((lf ls kk).d.aY.length) ((lk ks kk).k.fc)),(.slice (lk ks kk).b ((lf ls kk).fo.length) ((lk ks kk).c)),.bool (lf ls kk).la],oI z6 169 [vI l0[i].k,vN (l0[i].s),(.slice l0[i].r.b l0[i].r.o.length l0[i].r.c)]] _ (.ew [oI z8 118 [v8 ((lf ls kk).op),vI (lf ls kk).d.vars,vN ((lf ls kk).d.start.toNat),(.slice (lk ks kk).k.nb ((lf ls kk).d.next.length) ((lk ks kk).k.nc)),(.slice (lk ks kk).k.fb ((lf ls kk).d.aY.length) ((lk ks kk).k.fc)),(.slice (lk ks kk).b ((lf ls kk).fo.length) ((lk ks kk).c)),.bool (lf ls kk).la],oI z6 169 [vI l0[i].k,vN (l0[i].s),(.slice l0[i].r.b l0[i].r.o.length l0[i].r.c)]] _ (.k (.k (.k (.k (.k .z)))))))
  refine ao F (bl EK Qz F ?_)
  clear Qz
  rintro vr O' ⟨CT,CU,l4,rfl,rfl,S_,Ta⟩
  refine ae (ai (ad (a_ iz F bL F F) (ad (a_ cZ F dA F F) (ad (bi 2 eB F F F F) (ah F (ad (dU (i:=(fm (lf ls kk).d l0[i].s x)) eB fx F F (aL (ho.dk _ nE).aY) (by rw[(hG.kg nE).fin];exact tH) (by rw[ar,(hG.kg nE).fin];exact tH)) (ad (de AG F F (aL (ho.dk _ nE).aY) (o5 (hG.kg nE) tH)) (ae (T.cond F (fun hc=>?_) (fun hc=>?_))))))))))
  ·have xG:dr (lf ls kk).d (fm (lf ls kk).d l0[i].s x)=true:=hc
   refine a7 (ah F (ad (a_ lH F bj F F) (ad (bK (bi 3 dP F F F F) (v':=vN kk) (by show Value.int _ _=_;rw[zN])) (ah F ?_))))
   have CY:=(qJ.frame ((EL w ob lb lc cv fv ls ks ho vs hG hK xE z4 (aD z3) b0.length b0.length nb Z6 (2*ls.length)).2 kk r3 nE (by omega) (WZ.mono (Nat.le_succ _))) [oI z8 118 [v8 ((lf ls kk).op),vI (lf ls kk).d.vars,vN ((lf ls kk).d.start.toNat),(.slice (lk ks kk).k.nb ((lf ls kk).d.next.length) ((lk ks kk).k.nc)),(.slice (lk ks kk).k.fb ((lf ls kk).d.aY.length) ((lk ks kk).k.fc)),(.slice (lk ks kk).b ((lf ls kk).fo.length) ((lk ks kk).c)),.bool (lf ls kk).la],oI z6 169 [vI l0[i].k,vN (l0[i].s),(.slice l0[i].r.b l0[i].r.o.length l0[i].r.c)],oI z2 122 [nS,nS],oI z1 122 [(.slice sb b0.length sc),(.slice tb l0.length tc)]] (O:=[oI z4 122 [(.slice (aD z3) nb.length b0.length),(.slice CT l4.length CU)],aq CT CU 169 3 (dt l4),oI z8 118 [v8 ((lf ls kk).op),vI (lf ls kk).d.vars,vN ((lf ls kk).d.start.toNat),(.slice (lk ks kk).k.nb ((lf ls kk).d.next.length) ((lk ks kk).k.nc)),(.slice (lk ks kk).k.fb ((lf ls kk).d.aY.length) ((lk ks kk).k.fc)),(.slice (lk ks kk).b ((lf ls kk).fo.length) ((lk ks kk).c)),.bool (lf ls kk).la],oI z6 169 [vI l0[i].k,vN (l0[i].s),(.slice l0[i].r.b l0[i].r.o.length l0[i].r.c)],aq (aD z3) b0.length 3 1 (bS nb),oI z2 122 [nS,nS],oI z1 122 [(.slice sb b0.length sc),(.slice tb l0.length tc)]]) CT CU l4 p3 Ta DL (by exact Sub.k (.k (.ew [oI z8 118 [v8 ((lf ls kk).op),vI (lf ls kk).d.vars,vN ((lf ls kk).d.start.toNat),(.slice (lk ks kk).k.nb ((lf ls kk).d.next.length) ((lk ks kk).k.nc)),(.slice (lk ks kk).k.fb ((lf ls kk).d.aY.length) ((lk ks kk).k.fc)),(.slice (lk ks kk).b ((lf ls kk).fo.length) ((lk ks kk).c)),.bool (lf ls kk).la],oI z6 169 [vI l0[i].k,vN (l0[i].s),(.slice l0[i].r.b l0[i].r.o.length l0[i].r.c)]] _ (.k (.k (.k (.k .z))))))))
   refine ao F (bl AZ CY F ?_)
   clear CY
   rintro vr O' ⟨Z_,cc5,l5,p5,rfl,rfl,hm5,hS5,Zn⟩
   refine ae (a7 (ad (dy (a:=i) (b:=1) F F (by omega)) (ah F (ae ?_))))
   have e9:iQ ls nb x l0[i].cf=⟨(kk:Int),fm (lf ls kk).d l0[i].s x,r3.o⟩::gy ls (2*ls.length) nb kk r3.o:=by
    unfold iQ
    rw[az (show¬l0[i].cf.k<0 from by show¬l0[i].k<0;omega),Uy]
    simp only[CR.cf,zN,Int.toNat_natCast]
    rw[aO xG]
   exact⟨i+1,by omega,[oI z4 122 [(.slice (aD z3) nb.length b0.length),(.slice Z_ l5.length cc5)],aq Z_ cc5 169 3 (dt l5),aq (aD z3) b0.length 3 1 (bS nb),oI z2 122 [nS,nS],oI z1 122 [(.slice sb b0.length sc),(.slice tb l0.length tc)]]++gg 173 p5,(by exact Sub.k (.k (.k (.d (.d (.k (.k .rf))))))),Z_,cc5,l5,p5,F,by omega,by rw[K6,cO,←hm,e9,hm5,S_];rfl,hS5,(.of F)⟩
  have xG: ¬dr (lf ls kk).d (fm (lf ls kk).d l0[i].s x)=true:=by rw[hc];simp
  refine aE (a7 (ad (dy (a:=i) (b:=1) F F (by omega)) (ah F (ae ?_))))
  have e9:iQ ls nb x l0[i].cf=⟨(kk:Int),fm (lf ls kk).d l0[i].s x,r3.o⟩::[]:=by
   unfold iQ
   rw[az (show¬l0[i].cf.k<0 from by show¬l0[i].k<0;omega),Uy]
   simp only[CR.cf,zN,Int.toNat_natCast]
   rw[az xG]
  exact⟨i+1,by omega,[oI z4 122 [(.slice (aD z3) nb.length b0.length),(.slice CT l4.length CU)],aq CT CU 169 3 (dt l4),aq (aD z3) b0.length 3 1 (bS nb),oI z2 122 [nS,nS],oI z1 122 [(.slice sb b0.length sc),(.slice tb l0.length tc)]]++gg 173 p3,(by exact Sub.k (.k (.d (.d (.k (.k (.k .rf))))))),CT,CU,l4,p3,F,by omega,by rw[K6,cO,←hm,e9,S_];rfl,Ta,(.of F)⟩
 have acl: ¬i<l0.length:=by omega
 refine cK ?_
 refine ai (ad (eu 0 mb F kv F F F) (ao F (bN (vs:=[(.slice (aD z3) nb.length b0.length),(.slice cb l.length cc)]) 3 kv F F F F ?_)))
 refine ae (aK (aA ?_))
 refine cM (i:=3) Tryz.results77 mb F kv F F F ?_
 have we:i=l0.length:=by omega
 subst we
 rw[List.take_length]at hm
 exact⟨[aq (aD z3) b0.length 3 1 (bS nb),aq cb cc 169 3 (dt l)]++gg 173 p,(by exact Sub.d (.ew [aq cb cc 169 3 (dt l)] _ (.k (.d (.d .rf))))),(aD z3),b0.length,b0.length,cb,cc,l,p,by rw[←B5];rfl,by rw[←B5],by rw[hm,←B5],hS⟩
end Go.Proofs.YtgdbfideeeegmaaGreatDoor

namespace Go.Proofs
open Go.Shelf
def Tryz.Dd:Go.Shelf.Ren:=⟨fun|190=>111|125=>159|258=>158|128=>208|129=>209|302=>199|303=>200|304=>201|305=>202|306=>203|307=>204|308=>205|309=>206|310=>207|333=>225|329=>226|330=>227|334=>228|335=>229|336=>230|344=>254|n=>n,fun|31=>166|9=>9|3=>3|46=>101|0=>0|51=>254|53=>256|4=>4|183=>247|182=>246|131=>161|5=>5|218=>268|222=>272|228=>289|229=>290|n=>n,fun|n=>n⟩
theorem Tryz.Gs:Go.Proofs.Lays.n190 Tryz.prog Tryz.Dd:= {
 mixed:=by kernel_rfl
 f125:=func159.trans (ax some (by kernel_rfl))
 f128:=func208.trans (ax some (by kernel_rfl))
 f129:=func209.trans (ax some (by kernel_rfl))
 f190:=func111.trans (ax some (by kernel_rfl))
 f258:=func158.trans (ax some (by kernel_rfl))
 f302:=func199.trans (ax some (by kernel_rfl))
 f303:=func200.trans (ax some (by kernel_rfl))
 f304:=func201.trans (ax some (by kernel_rfl))
 f305:=func202.trans (ax some (by kernel_rfl))
 f306:=func203.trans (ax some (by kernel_rfl))
 f307:=func204.trans (ax some (by kernel_rfl))
 f308:=func205.trans (ax some (by kernel_rfl))
 f309:=func206.trans (ax some (by kernel_rfl))
 f310:=func207.trans (ax some (by kernel_rfl))
 f329:=func226.trans (ax some (by kernel_rfl))
 f330:=func227.trans (ax some (by kernel_rfl))
 f333:=func225.trans (ax some (by kernel_rfl))
 f334:=func228.trans (ax some (by kernel_rfl))
 f335:=func229.trans (ax some (by kernel_rfl))
 f336:=func230.trans (ax some (by kernel_rfl))
 f344:=func254.trans (ax some (by kernel_rfl))
 t0:=underlying0
 a0:=Tryz.isAgg0
 z0:=Tryz.sizeOf0
 v0:=Tryz.zeroValue0
 t3:=underlying3
 a3:=Tryz.isAgg3
 z3:=Tryz.sizeOf3
 v3:=Tryz.zeroValue3
 t4:=underlying4
 a4:=Tryz.isAgg4
 z4:=Tryz.sizeOf4
 v4:=Tryz.zeroValue4
 t5:=underlying5
 a5:=Tryz.isAgg5
 z5:=Tryz.sizeOf5
 v5:=Tryz.zeroValue5
 t9:=underlying9
 a9:=Tryz.isAgg9
 z9:=Tryz.sizeOf9
 v9:=Tryz.zeroValue9
 t31:=underlying166
 a31:=Tryz.isAgg166
 z31:=Tryz.sizeOf166
 v31:=Tryz.zeroValue166
 t46:=underlying101
 a46:=Tryz.isAgg101
 z46:=Tryz.sizeOf101
 v46:=Tryz.zeroValue101
 t51:=underlying254
 a51:=Tryz.isAgg254
 z51:=Tryz.sizeOf254
 v51:=Tryz.zeroValue254
 t53:=underlying256
 a53:=Tryz.isAgg256
 z53:=Tryz.sizeOf256
 v53:=Tryz.zeroValue256
 t131:=underlying161
 a131:=Tryz.isAgg161
 z131:=Tryz.sizeOf161
 v131:=Tryz.zeroValue161
 t182:=underlying246
 a182:=Tryz.isAgg246
 z182:=Tryz.sizeOf246
 v182:=Tryz.zeroValue246
 t183:=underlying247
 a183:=Tryz.isAgg247
 z183:=Tryz.sizeOf247
 v183:=Tryz.zeroValue247
 t218:=underlying268
 a218:=Tryz.isAgg268
 z218:=Tryz.sizeOf268
 v218:=Tryz.zeroValue268
 t222:=underlying272
 a222:=Tryz.isAgg272
 z222:=Tryz.sizeOf272
 v222:=Tryz.zeroValue272
 t228:=underlying289
 a228:=Tryz.isAgg289
 z228:=Tryz.sizeOf289
 v228:=Tryz.zeroValue289
 t229:=underlying290
 a229:=Tryz.isAgg290
 z229:=Tryz.sizeOf290
 v229:=Tryz.zeroValue290}
open Go.RowKit Go.Sort Go.Lib in
theorem Tryz.slices_Sort_string (lD off cap:Nat) (ss:List (List UInt8)) (w:World) (hH:Holds encStr w lD off ss.toArray) (TQ:lD<w.heap.size) (sR:ss.length<4611686018427387904):
  Calls Tryz.prog 111 #[.slice (some ⟨lD,off,none⟩) ss.length cap] w fun e w'=>
   e=.returned (.tuple #[])∧ ∃n os,w'=grow (putRow encStr (Sort.ahead w n) lD off (ss.mergeSort fun x y=>decide (x≤y)).toArray) os:=Any.slices_Sort_string Tryz.Gs lD off cap ss w hH TQ sR
end Go.Proofs
namespace Go.Lx
open Go.RowKit Go.Sort Go.Proofs
def strs (l:List Key):List Value:=l.map str
theorem xJ (l:List Key):(strs l).length=l.length:=ar _
theorem K9 {l:List Key} {i:Nat} (h:i<l.length):(strs l)[i]? =some (str l[i]):=by unfold strs;rw[bq,ap h];rfl
theorem Inv.OW {base w:World} {O:List Lx.Item} {i lD off cap:Nat} {T:TypeId} {zs ys:List Key} (hI:Inv base O w) (hO:O[i]? =some (aq (some ⟨lD,off,none⟩) cap T 1 (strs zs))) (hl:ys.length=zs.length) (n:Nat) (os:Array Obj):
  Inv base (O.set i (aq (some ⟨lD,off,none⟩) cap T 1 (strs ys))) (Go.Sort.grow (putRow encStr (Sort.ahead w n) lD off ys.toArray) os):=by
 obtain⟨_,full,hb,n_,TR,zQ⟩:=hI.row hO
 have gn:lD<w.heap.size:=(Array.getElem?_eq_some_iff.1 hb).1
 have xW:(Go.Sort.grow (putRow encStr (Sort.ahead w n) lD off ys.toArray) os).heap=(w.heap.modify lD (onCells (putCells encStr off ys.toArray)))++os:=rfl
 refine hI.rY hO F F F ?_ (fun b Yx hk=>?_) ⟨F,putCells encStr off ys.toArray full,?_,?_,?_,fun j hj=>?_⟩ (fun k hk=>.inl hk) (by simp[aq])
 ·rw[xW];simp
 ·rw[xW,Array.getElem?_append_left (by simpa using Yx),Array.getElem?_modify,az (fun e=>hk (by simp[aq,e]))]
 ·rw[xW,Array.getElem?_append_left (by simpa using gn),Array.getElem?_modify,aO F,hb];rfl
 ·simp only[xJ]at n_⊢;omega
 ·rw[rN];exact TR
 ·have si:j<ys.length:=by simpa[strs]using hj
  have aal:zs.length≤cap*1:=by simpa[strs]using n_
  have aam:off+cap*1≤full.size:=TR
  show(putCells encStr off ys.toArray full)[off+j]? =_
  rw[vx _ _ _ _ (by simpa using si) (by omega),show(strs ys)[j]=str ys[j] by simp[strs]]
  simp[si];rfl
theorem E3 {base w:World} {O:List Lx.Item} {i lD off cap:Nat} {T:TypeId} {zs:List Key} (hI:Inv base O w) (hO:O[i]? =some (aq (some ⟨lD,off,none⟩) cap T 1 (strs zs))):Holds encStr w lD off zs.toArray∧lD<w.heap.size:=by
 obtain⟨_,full,hb,n_,TR,zQ⟩:=hI.row hO
 refine⟨fun j hj=>?_,(Array.getElem?_eq_some_iff.1 hb).1⟩
 have si:j<zs.length:=by simpa using hj
 have h9:=zQ j (by simpa[strs]using si)
 rw[show(strs zs)[j]'(by simpa[strs]using si)=str zs[j] by simp[strs]]at h9
 constructor
 ·simp only[World.cell?,hb]
  simp at h9
  simp[h9,si];rfl
 ·simp[World.frozen?,hb]
end Go.Lx
namespace Go.Proofs.YtgdbfideeeegmaaGreatDoor
open Go.Lx Go.RowKit Go.Proofs Go.Sort _root_.Go.Proofs.Tryz
theorem K8 (base:World) (b:Option Addr) (c:Nat) (zs:List Key) (sR:zs.length<4611686018427387904):bW Tryz.prog base 111 [.slice b zs.length c] [aq b c 9 1 (strs zs)] (fun v O'=>v=.tuple #[]∧O'=[aq b c 9 1 (strs (zs.mergeSort wk))]):=fun w M hI=>by
 have hO:(([aq b c 9 1 (strs zs)]++M:List Lx.Item))[0]? =some (aq b c 9 1 (strs zs)):=rfl
 cases b with
 |none=>
  have hz:zs=[]:=by have h:=(hI.row hO).1;simpa[strs]using h
  subst hz
  refine(Any.slices_Sort_string_none Tryz.Gs none c w).mono ?_
  rintro e w' ⟨rfl,rfl⟩
  refine⟨_,_,F,?_,F,F⟩
  have h9:([]:List Key).mergeSort wk=[]:=by simp
  rw[h9];exact hI
 |some a=>
  obtain⟨lD,off,sp⟩:=a
  have yx:sp=none:=(hI.row hO).1
  subst yx
  obtain⟨hH,hb⟩:=E3 hI hO
  refine(Tryz.slices_Sort_string lD off c zs w hH hb sR).mono ?_
  rintro e w' ⟨rfl,n,os,rfl⟩
  refine⟨_,_,F,?_,F,F⟩
  exact hI.OW (ys:=zs.mergeSort wk) hO (List.length_mergeSort zs) n os
end Go.Proofs.YtgdbfideeeegmaaGreatDoor

namespace Go.Proofs.YtgdbfideeeegmaaGreatDoor
open Go.Lx Go.RowKit _root_.Go.Proofs.Tryz
theorem OG (w:World) [dE Tryz.prog w] (y:CR):
  cH Tryz.prog 117 [(.agg #[vI y.k,vN y.s,(.slice y.r.b y.r.o.length y.r.c)])] w fun v N=>v=.bool (decide (y.cf.k<0)&&y.cf.o.isEmpty)∧N=[]:=by
 refine aF func117 F ntmps117 F ?_
 refine ai (ao F (dG (cs:=[vI y.k,vN y.s,(.slice y.r.b y.r.o.length y.r.c)]) F F (fun nY=>?_)))
 refine aj F (ae (ai (ad (a_ lH F bj F F) (ad (bi 0 dP F F F F) (ad (cT F F) ?_)))))
 by_cases hk:y.k<0
 ·refine ad (aB (aN F) (ay hk)) ?_
  refine aG F F (a_ lH F AW F F) (aG F F (bi 0 jC F F F F) (aG F F (cQ jC F) (aG F F (bJ F F) (ad (cA F F) (aj F (ae (aK (aA ?_))))))))
  refine aS (.bool (decide ((y.r.o.length:Int)=0))) Tryz.results117 F ?_
  exact⟨[],Sub.z,ax Value.bool (by show _=(decide (y.k<0)&&y.r.o.isEmpty);rw[ay hk,Bool.true_and];cases y.r.o<;>simp<;>omega),F⟩
 refine ad (aB (aN F) (ak hk)) (aV F F (aV F F (aV F F (aV F F (ad (cg F F) (aj F (ae (aK (aA ?_)))))))))
 refine aS (.bool false) Tryz.results117 F ?_
 exact⟨[],Sub.z,ax Value.bool (by show _=(decide (y.k<0)&&y.r.o.isEmpty);rw[ak hk,Bool.false_and]),F⟩
theorem OH (w:World) [dE Tryz.prog w] (ov:Value) (bh:List Nat) (bv:Value) (cb:Option Addr) (cc:Nat) (l:List CR) (hl:Sl w cb (dt l)) (hK:l.length<137438953472):
  cH Tryz.prog 78 [ov,(.agg #[bv,(.slice cb l.length cc)])] w fun v N=>v=.bool (pt ⟨bh,l.map CR.cf⟩)∧N=[]:=by
 refine aF func78 F ntmps78 F ?_
 refine ai (ao F (dG (cs:=[bv,(.slice cb l.length cc)]) F F (fun z1=>?_)))
 refine aj F (ae (ai (ad (a_ mb F qH F F) (ad (bi 0 nP F F F F) ?_))))
 have Cv:=fun(w1:World) (hI:Inv w [oI z1 122 [bv,(.slice cb l.length cc)]] w1)=>(haveI:=et hI;(show cH _ _ _ _ (fun v N=>v=Value.bool (pt ⟨bh,l.map CR.cf⟩)∧N=[])from by
   have h9:=qG w1 cb cc l (hI.sl hl) (by omega) ((.func (.func 117) #[] #[])) (fun y=>decide (y.cf.k<0)&&y.cf.o.isEmpty) (fun y hy=>cP (first:=[]) (args:=[(.agg #[vI y.k,vN y.s,(.slice y.r.b y.r.o.length y.r.c)])]) (gr:=[]) Th (OG w1 y))
   have e9:(l.any fun y=>decide (y.cf.k<0)&&y.cf.o.isEmpty)=pt ⟨bh,l.map CR.cf⟩:=by unfold pt;rw[List.any_map];rfl
   rw[e9]at h9
   exact h9))
 refine ao F (bl KX (aX Cv) F ?_)
 clear Cv
 rintro vr O' ⟨N,rfl,rfl,rfl⟩
 refine aj F (ae (aK (aA ?_)))
 refine aS (.bool (pt ⟨bh,l.map CR.cf⟩)) Tryz.results78 F ?_
 exact⟨[],Sub.z,F,F⟩
theorem CZ {α β:Type} {B:Nat} {f:α→List β}: ∀ {l:List α},(∀x∈l,(f x).length≤B)→(l.flatMap f).length≤B*l.length
 | [],_=>by simp
 |x::l,h=>by
  have h1:=h x (by simp);have h2:=CZ (l:=l) fun y hy=>h y (by simp[hy])
  rw[List.flatMap_cons,aw,bo,Nat.mul_succ];omega
theorem W1 (w:World) [dE Tryz.prog w] (ov:Value) (bb:Option Addr) (bc:Nat) (bh:List Nat) (Ti:Sl w bb (bS bh)) (Tf:bh.length≤12) (hbn: ∀n∈bh.map (fun y:Nat=>(y:Int)),mH n) (cb:Option Addr) (cc:Nat) (l:List CR) (hl:Sl w cb (dt l)) (hK:l.length<137438953472) {ls:List Lf} {vs:Nat} (hG:iw ls vs) (hg: ∀y∈l,jk ls y.cf) (NK: ∀y∈l,y.r.o.length≤12) (CV: ∀y∈l,Sl w y.r.b (fE y.r.o)):
  cH Tryz.prog 76 [ov,(.agg #[(.slice bb bh.length bc),(.slice cb l.length cc)])] w fun v N=>v=str (St.key ⟨bh,l.map CR.cf⟩)∧N=[]:=by
 refine aF func76 F ntmps76 F ?_
 refine ai (ao F (dG (cs:=[(.slice bb bh.length bc),(.slice cb l.length cc)]) F F (fun z1=>?_)))
 refine aj F (ae (ai (aj F (ae (aM (ai (ad (a_ mb F qH F F) (ad (bi 0 nP F F F F) (ad (cQ nP F) (ah F (ae (aU (T.eX 9 1 ?_)))))))))))))
 refine dO (fun(i:Nat) ρ O=> ∃(kb:Option Addr) (kc:Nat),O=[aq kb kc 9 1 (strs ((l.take i).map fun y=>y.cf.key)),oI z1 122 [(.slice bb bh.length bc),(.slice cb l.length cc)]]∧i≤l.length∧dv [(1,(.agg #[(.slice bb bh.length bc),(.slice cb l.length cc)])),(3,(.pointer (aD z1))),(4,(str [])),(5,(.slice kb i kc)),(12,(.slice cb l.length cc)),(13,vI (l.length:Int)),(14,vN i)] ρ) (fun i=>l.length-i) 0 ?_ ?_
 ·exact⟨none,0,F,bn _,(.of F)⟩
 rintro i ρ O ⟨kb,kc,rfl,hi,hH⟩
 obtain⟨gF,rfl⟩:=hH.elim
 clear hH
 refine ai (ad (cT F F) (ae (aM (aP F (fun hc=>?_) (fun hc=>?_)))))
 ·have p6:i<l.length:=by omega
  have YM:=hg _ (aQ p6)
  refine aE (aM (aU (ai (ad (dT (i:=i) nP jq F F (aL hl) p6 (by rw[pw];omega)) (ad (eO (vs:=[vI l[i].k,vN (l[i].s),(.slice l[i].r.b l[i].r.o.length l[i].r.c)]) lH F jq F F (br _) (aL hl) (su p6)) (ao F (bs jq F (fun z2=>?_))))))))
  refine ao F (bN (vs:=[vI l[i].k,vN (l[i].s),(.slice l[i].r.b l[i].r.o.length l[i].r.c)]) 0 jq F F F F ?_)
  refine ae (a7 (ah F (ad (eu 0 lH F jq F F F) ?_)))
  have nk:=fun(w1:World) (hI:Inv w [oI z2 169 [vI l[i].k,vN (l[i].s),(.slice l[i].r.b l[i].r.o.length l[i].r.c)],aq kb kc 9 1 (strs ((l.take i).map fun y=>y.cf.key)),oI z1 122 [(.slice bb bh.length bc),(.slice cb l.length cc)]] w1)=>(haveI:=et hI;EG w1 l[i].k l[i].s l[i].r (hI.sl (CV _ (aQ p6))) (YM.num hG) (YM.SV hG))
  refine ao F (bl EH (aX nk) F ?_)
  clear nk
  rintro vr O' ⟨N,rfl,rfl,rfl⟩
  refine ao F (cN (v:=str l[i].cf.key) C0 Ei F F F (fun z3=>?_))
  refine ao F (cW 2 C0 C0 Ei F F F F (by rw[xJ,ar,ck];omega) (by decide) (Src.row (j:=0) F (by simp)) (by rfl) (by omega) (by decide) (by decide) (fun z4 IU=>?_))
  refine aj F (ae (a7 (ad (dy (a:=i) (b:=1) F F (by omega)) (ah F (ae ?_)))))
  exact⟨i+1,by omega,[aq z4 IU 9 1 ((strs ((l.take i).map fun y=>y.cf.key))++[str l[i].cf.key]),oI z1 122 [(.slice bb bh.length bc),(.slice cb l.length cc)]],(by exact Sub.d (.d (.k (.k .z)))),z4,IU,by rw[aH p6,bm];simp[strs],by omega,(.of F)⟩
 have PE: ¬i<l.length:=by omega
 refine cK ?_
 refine ai (ah F ?_)
 have qC:=(show bW _ _ _ _ _ (fun v O'=> ∃A',O'=A'++[oI z1 122 [(.slice bb bh.length bc),(.slice cb l.length cc)]]∧(v=Value.tuple #[]∧A'=[aq kb kc 9 1 (strs ((l.map fun y=>y.cf.key).mergeSort wk))]))from by
   have h9:=K8 w kb kc ((l.take i).map fun y=>y.cf.key) (by rw[ar,ck];omega)
   rw[ar,ck,Nat.min_eq_left hi]at h9
   have e9:(l.map fun y=>y.cf.key).mergeSort wk=((l.take i).map fun y=>y.cf.key).mergeSort wk:=by rw[bw (show l.length≤i by omega)]
   rw[e9]
   exact h9.under (B:=[oI z1 122 [(.slice bb bh.length bc),(.slice cb l.length cc)]]) (by exact Sub.rf))
 refine ao F (bl Tj qC F ?_)
 clear qC
 rintro vr O' ⟨A1,rfl,rfl,rfl⟩
 refine ae (ai (ad (a_ mb F cV F F) (ad (bi 1 cL F F F F) ?_)))
 have CI:=fun(w1:World) (hI:Inv w [aq kb kc 9 1 (strs ((l.map fun y=>y.cf.key).mergeSort wk)),oI z1 122 [(.slice bb bh.length bc),(.slice cb l.length cc)]] w1)=>(haveI:=et hI;(show cH _ _ _ _ (fun v N=> ∃b' c',v=Value.slice b' (iO (bh.map fun y:Nat=>(y:Int))).length c'∧N=[aq b' c' 5 1 (di (iO (bh.map fun y:Nat=>(y:Int))))])from by
   have h9:=F2 w1 bb bc (bh.map fun y:Nat=>(y:Int)) (by rw[gl];exact hI.sl Ti) hbn (by rw[ar];omega)
   rw[ar]at h9
   exact h9))
 refine ao F (bl ux (aX CI) F ?_)
 clear CI
 rintro vr O' ⟨N,rfl,jb,jc,rfl,rfl⟩
 
 refine aj F (ae (aM (ai (ah F (ad (cQ C0 F) (ah F (ae (aU ?_))))))))
 obtain⟨ks,om⟩: ∃k,k=(l.map fun y=>y.cf.key).mergeSort wk:=⟨_,F⟩
 have nE:ks.length=l.length:=by rw[om,List.length_mergeSort,ar]
 have we:i=l.length:=by omega
 have MY: ∀k∈ks,k.length≤400:=fun k hk=>by
  rw[om]at hk
  obtain⟨y,hy,rfl⟩:=List.mem_map.1 ((List.mem_mergeSort).1 hk)
  have h1:=pu ((hg y hy).num hG);have h2:=NK y hy
  have h3:y.cf.nums.length=y.r.o.length*2+2:=by show(sv y.r.o).length+1+1=_;rw[F7]
  have h4:y.cf.key=iO y.cf.nums:=rfl
  rw[h4];omega
 refine dx (O':=[aq jb jc 5 1 (di (iO (bh.map fun y:Nat=>(y:Int)))),aq kb kc 9 1 (strs ks),oI z1 122 [(.slice bb bh.length bc),(.slice cb l.length cc)]]) (by rw[om];exact(by exact Sub.rf)) ?_
 refine dO (fun(j:Nat) ρ O=> ∃(tb:Option Addr) (tc:Nat),O=[aq tb tc 5 1 (di (iO (bh.map fun y:Nat=>(y:Int))++(ks.take j).flatMap (fun k=>124::k))),aq kb kc 9 1 (strs ks),oI z1 122 [(.slice bb bh.length bc),(.slice cb l.length cc)]]∧j≤i∧dv [(1,(.agg #[(.slice bb bh.length bc),(.slice cb l.length cc)])),(3,(.pointer (aD z1))),(4,(str [])),(5,(.slice kb i kc)),(8,(.slice tb ((iO (bh.map fun y:Nat=>(y:Int))++(ks.take j).flatMap (fun k=>124::k)).length) tc)),(29,(.slice kb i kc)),(30,vI (i:Int)),(31,vN j)] ρ) (fun j=>i-j) 0 ?_ ?_
 ·exact⟨jb,jc,by simp,bn _,⟨F,F,F,F,(show Value.slice jb (iO (bh.map fun y:Nat=>(y:Int))).length jc=_ by simp),F,F,F,trivial⟩⟩
 rintro j ρ O ⟨tb,tc,rfl,hj,hH⟩
 obtain⟨gF,rfl⟩:=hH.elim
 clear hH
 have rL:((ks.take j).flatMap (fun k=>(124:UInt8)::k)).length≤401*ks.length:=by
  have Vw:=CZ (B:=401) (f:=fun k:Key=>(124:UInt8)::k) (l:=ks.take j) (fun k hk=>by have:=MY k (List.mem_of_mem_take hk);simp;omega)
  have:=List.length_take_le j ks
  exact cn Vw (Nat.mul_le_mul_left _ (by rw[ck];omega))
 have Oc:=pu hbn
 rw[ar]at Oc
 refine ai (ad (cT F F) (ae (aM (aP F (fun hc=>?_) (fun hc=>?_)))))
 ·have W2:j<i:=by omega
  have Rr:j<ks.length:=by omega
  have hkj:=MY _ (aQ Rr)
  refine aE (aM (aU (ai (ad (dU (i:=j) C0 Ei F F (dR (mG 1 F)) W2 (by rw[xJ];exact Rr)) (ad (de ve F F (dR (mG 1 F)) (K9 Rr)) (aj F (ae (a7 (ah F (ao F (cN (v:=.int .u8 124) lh du F F F (fun z6=>?_))))))))))))
  refine ao F (cW 1 lh lh du F F F F (by first|(simp;done)|(simp;omega)) (by decide) (Src.row (j:=0) F (by simp)) (by simp[fa]) (by simp only[aw];omega) (by decide) (by decide) (fun z7 Ce=>?_))
  refine ah F (ao F (zk (l:=ks[j].length) (s:=ks[j]) 1 lh ve du F F F F (by first|(simp;done)|(simp;omega)) F (by simp only[aw];omega) (by decide) (by decide) (fun z9 ni=>?_)))
  refine aj F (ae (a7 (ad (dy (a:=j) (b:=1) F F (by omega)) (ah F (ae ?_)))))
  have e9:iO (bh.map fun y:Nat=>(y:Int))++(ks.take (j+1)).flatMap (fun k=>124::k)=iO (bh.map fun y:Nat=>(y:Int))++(ks.take j).flatMap (fun k=>124::k)++[124]++ks[j]:=by rw[aH Rr,List.flatMap_append];simp
  exact⟨j+1,by omega,[aq z9 ni 5 1 (((di (iO (bh.map fun y:Nat=>(y:Int))++(ks.take j).flatMap (fun k=>124::k)))++[.int .u8 124])++di ks[j]),aq kb kc 9 1 (strs ks),oI z1 122 [(.slice bb bh.length bc),(.slice cb l.length cc)]],(by exact Sub.d (.k (.k (.k .z)))),z9,ni,by rw[e9];simp[di],by omega,⟨F,F,F,F,(ax (fun n9:Nat=>Value.slice z9 n9 ni) (by rw[e9];simp;omega)),F,F,F,trivial⟩⟩
 have acn: ¬j<i:=by omega
 refine cK ?_
 refine ai (ah F (ad (BS (l:=iO (bh.map fun y:Nat=>(y:Int))++(ks.take j).flatMap (fun k=>124::k)) lh ve fA F (mG 0 F) F) (aj F (ae (aK (aA ?_))))))
 refine aS (str (iO (bh.map fun y:Nat=>(y:Int))++(ks.take j).flatMap (fun k=>124::k))) Tryz.results76 F ?_
 exact⟨[],Sub.z,by rw[bw (show ks.length≤j by omega),om];unfold St.key;rw[List.map_map];rfl,F⟩
end Go.Proofs.YtgdbfideeeegmaaGreatDoor

