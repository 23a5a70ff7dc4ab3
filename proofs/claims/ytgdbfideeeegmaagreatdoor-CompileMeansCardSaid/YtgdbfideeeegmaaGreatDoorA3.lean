/- Contracts of functions; conditions: those each theorem names. -/
import Derived.Test.YtgdbfideeeegmaaGreatDoorProg
import Derived.Shelf.Slices.Clone
import Derived.Lib.RowBridge
import Derived.Test.YtgdbfideeeegmaaGreatDoorA2
set_option linter.unusedSectionVars false
set_option linter.unusedSimpArgs false
set_option linter.unusedVariables false
set_option linter.unnecessarySimpa false
set_option maxHeartbeats 8000000
set_option maxRecDepth 20000
namespace Go.Proofs.YtgdbfideeeegmaaGreatDoor
open Go.Lx Go.RowKit _root_.Go.Proofs.Tryz
theorem Kf (base:World) [dA prog base] (b:Option Addr) (c:Nat) (xs:List Nat) (hS:Sl base b (pD xs)) (hb:xs.length<9223372036854775807) (fv:Value) (p:Nat→Bool) (OO:List Lx.Item) (hy: ∀x∈xs,eH prog base fv [.int .u8 (x:Int)] OO (fun v O'=>v=.bool (p x)∧O'=OO)):
  cj prog base 128 [.slice b xs.length c,fv] OO (fun v O'=> ∃i:Int,v=vI i∧decide (i≥0)=xs.any p∧O'=OO):=by
 refine aE func128 F ntmps128 F ?_
 refine aj (ak F (ah (aR (aj (ai F (ae (cQ underlying43) (ai F (ah (aV ?_)))))))))
 refine ek (fun(k:Nat) ρ O=>O=OO∧k≤xs.length∧(xs.take k).any p=false∧df [(0,(.slice b xs.length c)),(1,fv),(7,vI (xs.length:Int)),(8,vI (k:Int))] ρ) (fun k=>xs.length-k) 0 ?_ ?_
 ·exact⟨F,bl _,F,⟨F,F,F,F,trivial⟩⟩
 rintro k ρ O ⟨rfl,hk,lN,hH⟩
 obtain⟨gA,rfl⟩:=hH.elim
 clear hH
 refine aj (ae cU (ah (aR (aZ F (fun hc=>?_) (fun hc=>?_)))))
 ·have ln:k<xs.length:=by omega
  refine aL (aR (aV (aj (ai F (ak F (ah (aj (ai F (ai F (ai F (ae (dX (i:=k) underlying43 eD F F (aK hS) ln (by rw[ar];exact ln)) (ae (cS underlying5 F F (aK hS) (CT ln)) ?_))))))))))))
  have o9:=hy xs[k] (aN ln)
  refine aq (eu o9 F F ?_)
  clear o9
  rintro v O' ⟨rfl,rfl⟩
  refine ah (T.cond F (fun hc=>?_) (fun hc=>?_))
  ·refine aR ?_
   refine bg (ai F (ak F (ah (aM (aB ?_)))))
   refine aT (vI (k:Int)) results128 F ?_
   exact⟨_,ck (aY _),k,F,by rw[T8 ln hc];exact ax (by omega),F⟩
  refine aL (bg (ae (lR F F (by omega)) (ai F (ah ?_))))
  exact⟨k+1,by omega,F,by omega,Ln ln lN hc,⟨F,F,F,F,trivial⟩⟩
 have L_: ¬k<xs.length:=by omega
 refine cG ?_
 refine aj (ak F (ah (aM (aB ?_))))
 refine aT (vI (-1)) results128 F ?_
 exact⟨_,ck (aY _), -1,F,by rw[br (by omega)]at lN;rw[lN];decide,F⟩
theorem nk (base:World) [dA prog base] (b:Option Addr) (c:Nat) (xs:List Nat) (hS:Sl base b (pD xs)) (hb:xs.length<9223372036854775807) (fv:Value) (p:Nat→Bool) (OO:List Lx.Item) (hy: ∀x∈xs,eH prog base fv [.int .u8 (x:Int)] OO (fun v O'=>v=.bool (p x)∧O'=OO)):
  cj prog base 91 [.slice b xs.length c,fv] OO (fun v O'=>v=.bool (xs.any p)∧O'=OO):=by
 refine aE func91 F ntmps91 F ?_
 refine aj (ak F (ah (aj (ai F (ai F ?_)))))
 have Dy:=Kf base b c xs hS hb fv p OO hy
 refine aq (bm VP Dy ?_)
 clear Dy
 rintro v O' ⟨i,rfl,hi,rfl⟩
 refine ae kV (ak F (ah (aM (aB ?_))))
 refine aT (.bool (decide (i≥0))) results91 F ?_
 exact⟨_,ck (aY _),au Value.bool hi,F⟩
theorem ES (base:World) [dA prog base] (d:cV) (nb fb:Option Addr) (nc fc:Nat) (Fs:0≤d.vars) (Kt:d.vars≤6) (bx x:Nat) (hx:x<256):
  cj prog base 94 [.int .u8 (x:Int),.pointer (aD bx)] [oI bx 25 [(vI d.vars),(vI d.start),(.slice nb d.next.length nc),(.slice fb d.a7.length fc)]] (fun v O'=>v=.bool (decide (2^d.vars.toNat≤x))∧O'=[oI bx 25 [(vI d.vars),(vI d.start),(.slice nb d.next.length nc),(.slice fb d.a7.length fc)]]):=by
 refine aE func94 F ntmps94 F ?_
 refine aj (ak F (ah (aj (ai F (ae (fU underlying5 underlying3 F (gD ⟨by omega,by omega⟩)) (ae (bt underlying25 bF) (ae (bq 0 underlying3) (ae (nA (v:=d.vars.toNat) F (by show Value.int _ d.vars=_;rw[cM Fs]) (by omega)) (ae kV (ak F (ah (aM ?_))))))))))))
 refine aT (.bool (decide ((x:Int)≥((2^d.vars.toNat:Nat):Int)))) results94 F ?_
 exact⟨au Value.bool (decide_eq_decide.2 (by omega)),F⟩
theorem aeq (w:World) [dA prog w] (d:cV) (nb fb:Option Addr) (nc fc:Nat) (vs:List Value) (h:jB w d nb vs fb) (hv:Valid d) (wb:Option Addr) (wc:Nat) (l:List Nat) (hW:Sl w wb (pD l)) (Tm:l.length<9223372036854775807) (Rl:Wd d l):
  cn prog 95 [.agg (fE d nb nc fb fc).toArray,.slice wb l.length wc] w fun v N=>v=vI ((Lx.runN d d.start.toNat l:Nat):Int)∧N=[]:=by
 refine aE func95 F ntmps95 F ?_
 have Bm:=hv.s0
 have RZ:=hv.s1
 have Py:=h.rows.1
 let eh:Value:=(.slice fb d.a7.length fc)
 let fe:Value:=(.slice nb d.next.length nc)
 refine aj (aq (dE (cs:=[(vI d.vars),(vI d.start),fe,eh]) (fun b1=>?_)))
 refine ak F (ah (aj (ae (bt underlying146 bN) (ae (bt underlying25 bF) (ae (bL (bq 0 underlying3) (v':=vI ((Lx.runN d d.start.toNat (l.take 0):Nat):Int)) (by show Value.int _ d.start=_;rw[show Lx.runN d d.start.toNat (l.take 0)=d.start.toNat from F,cM Bm])) (ak F (ah (aR (aj (ai F (ae (cQ underlying43) (ai F (ah (aV ?_))))))))))))))
 refine ek (fun(k:Nat) ρ O=>O=[oI b1 146 [(vI d.vars),(vI d.start),fe,eh]]∧k≤l.length∧df [(0,(.agg #[(vI d.vars),(vI d.start),fe,eh])),(1,(.slice wb l.length wc)),(2,(.pointer (aD b1))),(4,vI 0),(5,vI ((Lx.runN d d.start.toNat (l.take k):Nat):Int)),(11,(.slice wb l.length wc)),(12,vI (l.length:Int)),(13,vI (k:Int))] ρ) (fun k=>l.length-k) 0 ?_ ?_
 ·exact⟨F,bl _,(.of F)⟩
 rintro k ρ O ⟨rfl,hk,hH⟩
 obtain⟨gA,rfl⟩:=hH.elim
 clear hH
 refine aj (ae cU (ah (aR (aZ F (fun hc=>?_) (fun hc=>?_)))))
 ·have o_:k<l.length:=by omega
  obtain⟨o,ho⟩: ∃o,Lx.runN d d.start.toNat (l.take k)=o:=⟨_,F⟩
  have ho9:o<d.next.length:=by rw[←ho];exact jI hv.toVal (by omega) _ (fun x hx=>Rl x (List.mem_of_mem_take hx))
  have ZG:l[k]<2^d.vars.toNat:=Rl _ (aN o_)
  obtain⟨vb,vc,g1,s1⟩:=h.rows.get ho9
  have Ma:d.next[o].length=2^d.vars.toNat:=hv.len _ (aN ho9)
  obtain⟨hta,_,aer,QQ⟩:=hv.gT ho9 ZG
  have QQ:(ints d.next[o])[l[k]]? =some (vI ((eS d o l[k]:Nat):Int)):=by rw[gL aer,QQ]
  refine aL (aR (aV (aj (ae (dX (i:=k) underlying43 eD F F (aK hW) o_ (by rw[ar];exact o_)) (ae (cS underlying5 F F (aK hW) (CT o_)) (ak F (ah (bg (ae (bt underlying146 bN) (ae (bt underlying25 fR) (ae (bq 0 underlying22) (ae (bL aI (v':=vI ((o:Nat):Int)) (by show Value.int _ _=_;rw[ho])) (ae (dX (i:=o) underlying22 cZ F F (aK h.outer) ho9 (Py▸ho9)) (ae (cS underlying56 F F (aK h.outer) g1) (ai F (ae (dX (i:=l[k]) underlying56 bF F F (aK s1) (by rw[Ma];exact ZG) (by rw[ar,Ma];exact ZG)) (ae (cS underlying3 F F (aK s1) QQ) (ak F (ah (bg (ae (lR F F (by omega)) (ai F ?_))))))))))))))))))))))
  refine ah ?_
  refine⟨k+1,by omega,F,by omega,?_⟩
  rw[Kg o_,ho];exact(.of F)
 have wq: ¬k<l.length:=by omega
 refine cG ?_
 refine aj (ai F (ak F (ah (aM (aB ?_)))))
 refine aT (vI ((Lx.runN d d.start.toNat (l.take k):Nat):Int)) results95 F ?_
 have Xn:k=l.length:=by omega
 exact⟨[],ck (cr _),by rw[br (by omega)],F⟩
theorem aes (w:World) [dA prog w] (d:cV) (nb fb:Option Addr) (nc fc:Nat) (vs:List Value) (h:jB w d nb vs fb) (hb:d.next.length<9223372036854775807) (w7: ∀r∈d.next,r.length<9223372036854775807) (zH:d.a7.length<9223372036854775807) (wb:Option Addr) (wc:Nat) (l:List Nat) (hW:Sl w wb (pD l)) (Tm:l.length<9223372036854775807) (Cn: ∀x∈l,x<256):
  cn prog 58 [.agg (fE d nb nc fb fc).toArray,.slice wb l.length wc] w fun v N=>v=.tuple #[vI ((w5 d l:Nat):Int),vI ((kO d l:Nat):Int)]∧N=[]:=by
 refine aE func58 F ntmps58 F ?_
 refine aj (aq (dE (cs:=[(vI d.vars),(vI d.start),(.slice nb d.next.length nc),(.slice fb d.a7.length fc)]) (fun b1=>?_)))
 refine ak F (ak F (ah (aR (aj (ae (eN 0 underlying25 bN) ?_)))))
 let fA:List Lx.Item:=[oI b1 25 [(vI d.vars),(vI d.start),(.slice nb d.next.length nc),(.slice fb d.a7.length fc)]]
 have qj:=fun(w1:World) (hI:Inv w fA w1)=>(haveI:=Inv.tab (P:=prog) hI;jo w1 d nb fb nc fc vs (hI.CU h) hb w7 zH)
 refine aq (bm wv (aX qj) ?_)
 clear qj
 rintro v O' ⟨N,rfl,rfl,rfl⟩
 refine ak F (ah (aj (ai F ?_)))
 by_cases hE:(dL d:Int)≠0
 ·refine ae (aC dW (ax hE)) ?_
  refine ah ?_
  refine b_ ?_
  refine aj (ai F (ak F (ak F (ah (aM (aB ?_))))))
  refine de (vI 0) (vI (dL d:Int)) results58 F F ?_
  have WM:kO d l=dL d:=by unfold kO;rw[aJ (by omega)]
  have KU: ¬kO d l=0:=by omega
  exact⟨[],ck (cr _),by unfold w5;rw[aA KU,WM];try rfl,F⟩
 refine ae (aC dW (am hE)) (ah (a8 (aL (aR (aV (aR ?_))))))
 have he:dL d=0:=by omega
 have hv:Valid d:=eF.1 he
 refine bg (ai F (ae (cQ underlying43) ?_))
 by_cases h64:(l.length:Int)>64
 ·refine ae (aC ij (ax h64)) ?_
  refine ak F (ah ?_)
  refine b_ ?_
  refine aj (ak F (ak F (ah (aM (aB ?_)))))
  refine de (vI 0) (vI 4) results58 F F ?_
  have WM:kO d l=4:=by unfold kO;rw[aA (by simp[he]),aJ (by omega)]
  have KU: ¬kO d l=0:=by omega
  exact⟨[],ck (cr _),by unfold w5;rw[aA KU,WM];try rfl,F⟩
 refine ae (aC ij (am h64)) (ak F (ah (a8 (aj (ai F (ae (dx) ?_))))))
 by_cases lN:l.any (fun x=>decide (2^d.vars.toNat≤x))=true
 ·have mx:=(nk w wb wc l hW Tm (.func (.func 94) #[] #[.pointer (aD b1)]) (fun x=>decide (2^d.vars.toNat≤x)) fA (fun x hx=>bU (first:=[]) (args:=[.int .u8 (x:Int)]) (fG:=[.pointer (aD b1)]) S9 (ES w d nb fb nc fc hv.v0 hv.v6 b1 x (Cn x hx)))).mono (fun v O' hh=>(⟨hh.1.trans (au Value.bool ((show∀b:Bool,b=decide (b=true)from fun b=>by cases b<;>rfl) _)),hh.2⟩:v=.bool (decide (l.any (fun x=>decide (2^d.vars.toNat≤x))=true))∧O'=fA))
  refine aq (bm HG mx ?_)
  clear mx
  rintro v O' ⟨rfl,rfl⟩
  rw[ax lN]
  refine ak F (ah ?_)
  refine b_ ?_
  refine aj (ak F (ak F (ah (aM (aB ?_)))))
  refine de (vI 0) (vI 1) results58 F F ?_
  have WM:kO d l=1:=by unfold kO;rw[aA (by simp[he]),aA (by omega),aJ lN]
  have KU: ¬kO d l=0:=by omega
  exact⟨[],ck (cr _),by unfold w5;rw[aA KU,WM];try rfl,F⟩
 have mx:=(nk w wb wc l hW Tm (.func (.func 94) #[] #[.pointer (aD b1)]) (fun x=>decide (2^d.vars.toNat≤x)) fA (fun x hx=>bU (first:=[]) (args:=[.int .u8 (x:Int)]) (fG:=[.pointer (aD b1)]) S9 (ES w d nb fb nc fc hv.v0 hv.v6 b1 x (Cn x hx)))).mono (fun v O' hh=>(⟨hh.1.trans (au Value.bool ((show∀b:Bool,b=decide (b=true)from fun b=>by cases b<;>rfl) _)),hh.2⟩:v=.bool (decide (l.any (fun x=>decide (2^d.vars.toNat≤x))=true))∧O'=fA))
 refine aq (bm HG mx ?_)
 clear mx
 rintro v O' ⟨rfl,rfl⟩
 rw[am lN]
 refine ak F (ah (a8 (aL (aR ?_))))
 have KU:kO d l=0:=by unfold kO;rw[aA (by simp[he]),aA (by omega),aA lN]
 have Rl:Wd d l:=(ve.1 KU).2.2
 refine bg (ae (eN 0 underlying25 bN) (ae (cT (cs:=[(vI d.vars),(vI d.start),(.slice nb d.next.length nc),(.slice fb d.a7.length fc)]) Q0 VJ (by kernel_rfl)) (ae (dx) (ak F (ah (aj (ai F (ai F ?_))))))))
 have NX:=bU (first:=[.agg (fE d nb nc fb fc).toArray]) (args:=[.slice wb l.length wc]) (fG:=[]) aaB (aX (fun w1 (hI:Inv w fA w1)=>haveI:=Inv.tab (P:=prog) hI;aeq w1 d nb fb nc fc vs (hI.CU h) hv wb wc l (hI.sl hW) Tm Rl))
 refine aq (eu NX F F ?_)
 clear NX
 rintro v O' ⟨N,rfl,rfl,rfl⟩
 refine ak F (ak F (ah (aM (aB ?_))))
 refine de (vI ((Lx.runN d d.start.toNat l:Nat):Int)) (vI 0) results58 F F ?_
 have WM:=KU
 exact⟨[],ck (cr _),by unfold w5;rw[aJ KU,WM];try rfl,F⟩
theorem Dv (w:World) [dA prog w] (d:cV) (nb fb:Option Addr) (nc fc:Nat) (vs:List Value) (h:jB w d nb vs fb) (hb:d.next.length<9223372036854775807) (w7: ∀r∈d.next,r.length<9223372036854775807) (zH:d.a7.length<9223372036854775807) (wb:Option Addr) (wc:Nat) (l:List Nat) (hW:Sl w wb (pD l)) (Tm:l.length<9223372036854775807) (Cn: ∀x∈l,x<256):
  cn prog 29 [.agg (fE d nb nc fb fc).toArray,.slice wb l.length wc] w fun v N=>v=.tuple #[.bool (Bl d l),vI ((kO d l:Nat):Int)]∧N=[]:=by
 refine aE func29 F ntmps29 F ?_
 refine aj (aq (dE (cs:=[(vI d.vars),(vI d.start),(.slice nb d.next.length nc),(.slice fb d.a7.length fc)]) (fun b1=>?_)))
 refine ak F (ak F (ah (aj (ae (eN 0 underlying25 bN) (ai F ?_)))))
 have DN:=fun(w1:World) (hI:Inv w [oI b1 25 [(vI d.vars),(vI d.start),(.slice nb d.next.length nc),(.slice fb d.a7.length fc)]] w1)=>(haveI:=Inv.tab (P:=prog) hI;aes w1 d nb fb nc fc vs (hI.CU h) hb w7 zH wb wc l (hI.sl hW) Tm Cn)
 refine aq (bm aaw (aX DN) ?_)
 clear DN
 rintro v O' ⟨N,rfl,rfl,rfl⟩
 refine ai F (ae (bI (vs:=_)) (ae (bI (vs:=_)) (ak F (ak F (ah (aR ?_))))))
 have BL:kO d l=0→w5 d l<d.a7.length:=fun h0=>by
  obtain⟨hv,_,Rl⟩:=ve.1 h0
  unfold w5;rw[aJ h0,hv.fin]
  exact jI hv.toVal (by have:=hv.s0;have:=hv.s1;omega) _ Rl
 refine bg (ai F ?_)
 by_cases h0:((kO d l:Nat):Int)=0
 ·refine ae (aC bK (ax h0)) ?_
  refine ai F (aF (bt underlying25 dH) (aF (bq 0 underlying23) (aF aI (aF (dX (i:=(w5 d l)) underlying23 fC F F (aK h.a7) (BL (by omega)) (by rw[ar];exact BL (by omega))) (aF (cS underlying4 F F (aK h.a7) (show(cI d.a7)[w5 d l]? =some (.bool (dF d (w5 d l))) by rw[jE (BL (by omega))];simp[dF,BL (by omega)])) (ae cm (ai F (ak F (ak F (ah (aM (aB ?_))))))))))))
  refine de (.bool (dF d (w5 d l))) (vI ((kO d l:Nat):Int)) results29 F F ?_
  have h9:kO d l=0:=by omega
  exact⟨[],ck (cr _),by unfold Bl w5;rw[aJ h9,aJ h9],F⟩
 refine ae (aC bK (am h0)) (ai F (aQ (aQ (aQ (aQ (aQ (ae bX (ai F (ak F (ak F (ah (aM (aB ?_)))))))))))))
 refine de (.bool false) (vI ((kO d l:Nat):Int)) results29 F F ?_
 have h9: ¬kO d l=0:=by omega
 exact⟨[],ck (cr _),by unfold Bl;rw[aA h9],F⟩
end Go.Proofs.YtgdbfideeeegmaaGreatDoor

namespace Go.Proofs
open Go.Shelf
def Tryz.ET:Go.Shelf.Ren:=⟨fun|283=>214|n=>n,fun|3=>3|9=>9|4=>4|n=>n,fun|n=>n⟩
theorem Tryz.Ry:Go.Proofs.Lays.n283 Tryz.prog Tryz.ET:= {
 mixed:=by kernel_rfl
 f283:=Tryz.func214.trans (au some (by kernel_rfl))
 t3:=Tryz.underlying3
 a3:=Tryz.isAgg3
 z3:=Tryz.sizeOf3
 v3:=Tryz.zeroValue3
 t4:=Tryz.underlying4
 a4:=Tryz.isAgg4
 z4:=Tryz.sizeOf4
 v4:=Tryz.zeroValue4
 t9:=Tryz.underlying9
 a9:=Tryz.isAgg9
 z9:=Tryz.sizeOf9
 v9:=Tryz.zeroValue9}
open Go.RowKit Go.Sort Go.Lib in
theorem Tryz.internal_strconv_small (i:Nat) (h:i<100) (w:World):
  Calls Tryz.prog 214 #[.int .i64 i] w fun e w'=>e=.returned (.string ⟨(Lib.decDigits i).toArray⟩)∧w'=w:=Any.internal_strconv_small Tryz.Ry i h w
def Tryz.Cp:Go.Shelf.Ren:=⟨fun|284=>215|129=>209|317=>241|318=>242|n=>n,fun|53=>256|3=>3|212=>282|0=>0|4=>4|46=>101|5=>5|9=>9|n=>n,fun|17=>0|n=>n⟩
theorem Tryz.Ot:Go.Proofs.LaysM.n284 Tryz.prog Tryz.Cp:= {
 mixed:=by kernel_rfl
 f129:=Tryz.func209.trans (au some (by kernel_rfl))
 f284:=Tryz.func215.trans (au some (by kernel_rfl))
 f317:=Tryz.func241.trans (au some (by kernel_rfl))
 f318:=Tryz.func242.trans (au some (by kernel_rfl))
 t0:=Tryz.underlying0
 a0:=Tryz.isAgg0
 z0:=Tryz.sizeOf0
 v0:=Tryz.zeroValue0
 t3:=Tryz.underlying3
 a3:=Tryz.isAgg3
 z3:=Tryz.sizeOf3
 v3:=Tryz.zeroValue3
 t4:=Tryz.underlying4
 a4:=Tryz.isAgg4
 z4:=Tryz.sizeOf4
 v4:=Tryz.zeroValue4
 t5:=Tryz.underlying5
 a5:=Tryz.isAgg5
 z5:=Tryz.sizeOf5
 v5:=Tryz.zeroValue5
 t9:=Tryz.underlying9
 a9:=Tryz.isAgg9
 z9:=Tryz.sizeOf9
 v9:=Tryz.zeroValue9
 t46:=Tryz.underlying101
 a46:=Tryz.isAgg101
 z46:=Tryz.sizeOf101
 v46:=Tryz.zeroValue101
 t53:=Tryz.underlying256
 a53:=Tryz.isAgg256
 z53:=Tryz.sizeOf256
 v53:=Tryz.zeroValue256
 t212:=Tryz.underlying282
 a212:=Tryz.isAgg282
 z212:=Tryz.sizeOf282
 v212:=Tryz.zeroValue282
 g17:=by kernel_rfl
 i0:=by kernel_rfl
 i3:=by kernel_rfl
 i4:=by kernel_rfl
 i5:=by kernel_rfl
 i9:=by kernel_rfl
 i46:=by kernel_rfl
 i53:=by kernel_rfl
 i212:=by kernel_rfl
 m17:=by kernel_rfl}
open Go.RowKit Go.Sort Go.Lib in
theorem Tryz.internal_strconv_numDigits (u:Nat) (h1:1≤u) (h2:u<18446744073709551616) (w:World) (WN:Lib.TabIs Tryz.prog w "internal/strconv.uint64pow10" .u64 Lib.pow10Tab):
  Calls Tryz.prog 215 #[.int .u64 u] w fun e w'=>e=.returned (.int .i64 (Lib.nDigits u))∧w'=w:=Any.internal_strconv_numDigits Tryz.Ot u h1 h2 w WN
def Tryz.EU:Go.Shelf.Ren:=⟨fun|285=>216|n=>n,fun|37=>43|53=>256|3=>3|4=>4|51=>254|9=>9|5=>5|0=>0|n=>n,fun|n=>n⟩
theorem Tryz.Rz:Go.Proofs.Lays.n285 Tryz.prog Tryz.EU:= {
 mixed:=by kernel_rfl
 f285:=Tryz.func216.trans (au some (by kernel_rfl))
 t0:=Tryz.underlying0
 a0:=Tryz.isAgg0
 z0:=Tryz.sizeOf0
 v0:=Tryz.zeroValue0
 t3:=Tryz.underlying3
 a3:=Tryz.isAgg3
 z3:=Tryz.sizeOf3
 v3:=Tryz.zeroValue3
 t4:=Tryz.underlying4
 a4:=Tryz.isAgg4
 z4:=Tryz.sizeOf4
 v4:=Tryz.zeroValue4
 t5:=Tryz.underlying5
 a5:=Tryz.isAgg5
 z5:=Tryz.sizeOf5
 v5:=Tryz.zeroValue5
 t9:=Tryz.underlying9
 a9:=Tryz.isAgg9
 z9:=Tryz.sizeOf9
 v9:=Tryz.zeroValue9
 t37:=Tryz.underlying43
 a37:=Tryz.isAgg43
 z37:=Tryz.sizeOf43
 v37:=Tryz.zeroValue43
 t51:=Tryz.underlying254
 a51:=Tryz.isAgg254
 z51:=Tryz.sizeOf254
 v51:=Tryz.zeroValue254
 t53:=Tryz.underlying256
 a53:=Tryz.isAgg256
 z53:=Tryz.sizeOf256
 v53:=Tryz.zeroValue256}
open Go.RowKit Go.Sort Go.Lib in
theorem Tryz.internal_strconv_formatBase10 (lU off cap:Nat) (u:Nat) (d:Array UInt8) (w:World) (hH:Holds (fun(b:UInt8)=>Value.int .u8 (b.toNat:Int)) w lU off d) (hu:u<10^d.size) (aet:u<18446744073709551616) (rD:d.size<4611686018427387904):
  Calls Tryz.prog 216 #[.slice (some ⟨lU,off,none⟩) d.size cap,.int .u64 u] w fun e w'=>
   e=.returned (.tuple #[])∧ ∃(n v':Nat) (dk:Array UInt8),w'=(putRow (fun(b:UInt8)=>Value.int .u8 (b.toNat:Int)) w lU off dk).drewN n∧FmtInv d.size u 0 v' dk:=Any.internal_strconv_formatBase10 Tryz.Rz lU off cap u d w hH hu aet rD
def Tryz.Cq:Go.Shelf.Ren:=⟨fun|171=>85|243=>123|246=>169|283=>214|284=>215|285=>216|286=>217|129=>209|317=>241|318=>242|319=>243|320=>244|337=>258|338=>259|n=>n,fun|3=>3|9=>9|2=>2|4=>4|171=>260|0=>0|53=>256|37=>43|5=>5|173=>262|212=>282|51=>254|20=>20|213=>283|46=>101|232=>297|233=>298|n=>n,fun|17=>0|18=>1|19=>2|n=>n⟩
theorem Tryz.Ou:Go.Proofs.LaysM.n171 Tryz.prog Tryz.Cq:= {
 mixed:=by kernel_rfl
 f129:=Tryz.func209.trans (au some (by kernel_rfl))
 f171:=Tryz.func85.trans (au some (by kernel_rfl))
 f243:=Tryz.func123.trans (au some (by kernel_rfl))
 f246:=Tryz.func169.trans (au some (by kernel_rfl))
 f283:=Tryz.func214.trans (au some (by kernel_rfl))
 f284:=Tryz.func215.trans (au some (by kernel_rfl))
 f285:=Tryz.func216.trans (au some (by kernel_rfl))
 f286:=Tryz.func217.trans (au some (by kernel_rfl))
 f317:=Tryz.func241.trans (au some (by kernel_rfl))
 f318:=Tryz.func242.trans (au some (by kernel_rfl))
 f319:=Tryz.func243.trans (au some (by kernel_rfl))
 f320:=Tryz.func244.trans (au some (by kernel_rfl))
 f337:=Tryz.func258.trans (au some (by kernel_rfl))
 f338:=Tryz.func259.trans (au some (by kernel_rfl))
 t0:=Tryz.underlying0
 a0:=Tryz.isAgg0
 z0:=Tryz.sizeOf0
 v0:=Tryz.zeroValue0
 t2:=Tryz.underlying2
 a2:=Tryz.isAgg2
 z2:=Tryz.sizeOf2
 v2:=Tryz.zeroValue2
 t3:=Tryz.underlying3
 a3:=Tryz.isAgg3
 z3:=Tryz.sizeOf3
 v3:=Tryz.zeroValue3
 t4:=Tryz.underlying4
 a4:=Tryz.isAgg4
 z4:=Tryz.sizeOf4
 v4:=Tryz.zeroValue4
 t5:=Tryz.underlying5
 a5:=Tryz.isAgg5
 z5:=Tryz.sizeOf5
 v5:=Tryz.zeroValue5
 t9:=Tryz.underlying9
 a9:=Tryz.isAgg9
 z9:=Tryz.sizeOf9
 v9:=Tryz.zeroValue9
 t20:=Tryz.underlying20
 a20:=Tryz.isAgg20
 z20:=Tryz.sizeOf20
 v20:=Tryz.zeroValue20
 t37:=Tryz.underlying43
 a37:=Tryz.isAgg43
 z37:=Tryz.sizeOf43
 v37:=Tryz.zeroValue43
 t46:=Tryz.underlying101
 a46:=Tryz.isAgg101
 z46:=Tryz.sizeOf101
 v46:=Tryz.zeroValue101
 t51:=Tryz.underlying254
 a51:=Tryz.isAgg254
 z51:=Tryz.sizeOf254
 v51:=Tryz.zeroValue254
 t53:=Tryz.underlying256
 a53:=Tryz.isAgg256
 z53:=Tryz.sizeOf256
 v53:=Tryz.zeroValue256
 t171:=Tryz.underlying260
 a171:=Tryz.isAgg260
 z171:=Tryz.sizeOf260
 v171:=Tryz.zeroValue260
 t173:=Tryz.underlying262
 a173:=Tryz.isAgg262
 z173:=Tryz.sizeOf262
 v173:=Tryz.zeroValue262
 t212:=Tryz.underlying282
 a212:=Tryz.isAgg282
 z212:=Tryz.sizeOf282
 v212:=Tryz.zeroValue282
 t213:=Tryz.underlying283
 a213:=Tryz.isAgg283
 z213:=Tryz.sizeOf283
 t232:=Tryz.underlying297
 a232:=Tryz.isAgg297
 z232:=Tryz.sizeOf297
 v232:=Tryz.zeroValue297
 t233:=Tryz.underlying298
 a233:=Tryz.isAgg298
 z233:=Tryz.sizeOf298
 v233:=Tryz.zeroValue298
 g17:=by kernel_rfl
 g18:=by kernel_rfl
 g19:=by kernel_rfl
 i0:=by kernel_rfl
 i2:=by kernel_rfl
 i3:=by kernel_rfl
 i4:=by kernel_rfl
 i5:=by kernel_rfl
 i9:=by kernel_rfl
 i20:=by kernel_rfl
 i37:=by kernel_rfl
 i46:=by kernel_rfl
 i51:=by kernel_rfl
 i53:=by kernel_rfl
 i171:=by kernel_rfl
 i173:=by kernel_rfl
 i212:=by kernel_rfl
 i232:=by kernel_rfl
 i233:=by kernel_rfl
 m17:=by kernel_rfl
 m18:=by kernel_rfl
 m19:=by kernel_rfl}
open Go.RowKit Go.Sort Go.Lib in
theorem Tryz.strconv_Itoa (n:Int) (h0: -9223372036854775808≤n) (h1:n≤9223372036854775807) (w:World) (WN:Lib.TabIs Tryz.prog w "internal/strconv.uint64pow10" .u64 Lib.pow10Tab):
  Calls Tryz.prog 85 #[.int .i64 n] w fun e w'=>e=.returned (.string ⟨(Lib.itoa n).toArray⟩)∧ ∃k os,w'=grow (w.drewN k) os:=Any.strconv_Itoa Tryz.Ou n h0 h1 w WN
def Tryz.ws:Go.Shelf.Ren:=⟨fun|189=>192|125=>159|257=>220|128=>208|129=>209|294=>245|295=>246|296=>247|297=>248|298=>249|299=>250|216=>221|300=>251|301=>252|328=>260|329=>226|330=>227|331=>261|332=>262|215=>240|343=>265|n=>n,fun|28=>56|3=>3|46=>101|0=>0|51=>254|53=>256|4=>4|183=>247|182=>246|131=>161|5=>5|9=>9|218=>268|222=>272|228=>289|229=>290|n=>n,fun|n=>n⟩
theorem Tryz.BX:Go.Proofs.Lays.n189 prog Tryz.ws:= {
 mixed:=by kernel_rfl
 f125:=func159.trans (au some (by kernel_rfl))
 f128:=func208.trans (au some (by kernel_rfl))
 f129:=func209.trans (au some (by kernel_rfl))
 f189:=func192.trans (au some (by kernel_rfl))
 f215:=func240.trans (au some (by kernel_rfl))
 f216:=func221.trans (au some (by kernel_rfl))
 f257:=func220.trans (au some (by kernel_rfl))
 f294:=func245.trans (au some (by kernel_rfl))
 f295:=func246.trans (au some (by kernel_rfl))
 f296:=func247.trans (au some (by kernel_rfl))
 f297:=func248.trans (au some (by kernel_rfl))
 f298:=func249.trans (au some (by kernel_rfl))
 f299:=func250.trans (au some (by kernel_rfl))
 f300:=func251.trans (au some (by kernel_rfl))
 f301:=func252.trans (au some (by kernel_rfl))
 f328:=func260.trans (au some (by kernel_rfl))
 f329:=func226.trans (au some (by kernel_rfl))
 f330:=func227.trans (au some (by kernel_rfl))
 f331:=func261.trans (au some (by kernel_rfl))
 f332:=func262.trans (au some (by kernel_rfl))
 f343:=func265.trans (au some (by kernel_rfl))
 t0:=underlying0
 a0:=Tryz.isAgg0
 z0:=Tryz.sizeOf0
 v0:=Tryz.zeroValue0
 t3:=underlying3
 a3:=Tryz.isAgg3
 z3:=Tryz.sizeOf3
 v3:=Tryz.zeroValue3
 t4:=underlying4
 a4:=Tryz.isAgg4
 z4:=Tryz.sizeOf4
 v4:=Tryz.zeroValue4
 t5:=underlying5
 a5:=Tryz.isAgg5
 z5:=Tryz.sizeOf5
 v5:=Tryz.zeroValue5
 t9:=underlying9
 a9:=Tryz.isAgg9
 z9:=Tryz.sizeOf9
 v9:=Tryz.zeroValue9
 t28:=underlying56
 a28:=Tryz.isAgg56
 z28:=Tryz.sizeOf56
 v28:=Tryz.zeroValue56
 t46:=underlying101
 a46:=Tryz.isAgg101
 z46:=Tryz.sizeOf101
 v46:=Tryz.zeroValue101
 t51:=underlying254
 a51:=Tryz.isAgg254
 z51:=Tryz.sizeOf254
 v51:=Tryz.zeroValue254
 t53:=underlying256
 a53:=Tryz.isAgg256
 z53:=Tryz.sizeOf256
 v53:=Tryz.zeroValue256
 t131:=underlying161
 a131:=Tryz.isAgg161
 z131:=Tryz.sizeOf161
 v131:=Tryz.zeroValue161
 t182:=underlying246
 a182:=Tryz.isAgg246
 z182:=Tryz.sizeOf246
 v182:=Tryz.zeroValue246
 t183:=underlying247
 a183:=Tryz.isAgg247
 z183:=Tryz.sizeOf247
 v183:=Tryz.zeroValue247
 t218:=underlying268
 a218:=Tryz.isAgg268
 z218:=Tryz.sizeOf268
 v218:=Tryz.zeroValue268
 t222:=underlying272
 a222:=Tryz.isAgg272
 z222:=Tryz.sizeOf272
 v222:=Tryz.zeroValue272
 t228:=underlying289
 a228:=Tryz.isAgg289
 z228:=Tryz.sizeOf289
 v228:=Tryz.zeroValue289
 t229:=underlying290
 a229:=Tryz.isAgg290
 z229:=Tryz.sizeOf290
 v229:=Tryz.zeroValue290}
open Go.RowKit Go.Sort Go.Lib in
theorem Tryz.slices_Sort_int (lU off cap:Nat) (zs:List Int) (w:World) (hH:Holds (Value.int .i64) w lU off zs.toArray) (Wp:lU<w.heap.size) (rD:zs.length<4611686018427387904):
  Calls prog 192 #[.slice (some ⟨lU,off,none⟩) zs.length cap] w fun e w'=>
   e=.returned (.tuple #[])∧ ∃n os,w'=grow (putRow (Value.int .i64) (Sort.ahead w n) lU off (zs.mergeSort fun x y=>decide (x≤y)).toArray) os:=Any.slices_Sort_int Tryz.BX lU off cap zs w hH Wp rD
end Go.Proofs
namespace Go.Proofs.YtgdbfideeeegmaaGreatDoor
open Go.Lx Go.RowKit Go.Proofs Go.Sort _root_.Go.Proofs.Tryz
def WO:Go.Shelf.Ren:=⟨fun|20=>193|n=>n,fun|0=>0|3=>3|4=>4|22=>56|40=>101|n=>n,fun|n=>n⟩
theorem Is:Go.Proofs.Lays2.n20 prog WO:= {
 mixed:=by kernel_rfl
 f20:=func193.trans (au some (by kernel_rfl))
 t0:=underlying0
 a0:=Tryz.isAgg0
 z0:=Tryz.sizeOf0
 v0:=Tryz.zeroValue0
 t3:=underlying3
 a3:=Tryz.isAgg3
 z3:=Tryz.sizeOf3
 v3:=Tryz.zeroValue3
 t4:=underlying4
 a4:=Tryz.isAgg4
 z4:=Tryz.sizeOf4
 v4:=Tryz.zeroValue4
 t22:=underlying56
 a22:=Tryz.isAgg56
 z22:=Tryz.sizeOf56
 v22:=Tryz.zeroValue56
 i3:=by kernel_rfl
}
def WP:Go.Shelf.Ren:=⟨fun|25=>197|31=>221|32=>222|37=>240|n=>n,fun|0=>0|3=>3|4=>4|22=>56|40=>101|n=>n,fun|n=>n⟩
theorem It:Go.Proofs.Lays2.n25 prog WP:= {
 mixed:=by kernel_rfl
 f25:=func197.trans (au some (by kernel_rfl))
 f31:=func221.trans (au some (by kernel_rfl))
 f32:=func222.trans (au some (by kernel_rfl))
 f37:=func240.trans (au some (by kernel_rfl))
 t0:=underlying0
 a0:=Tryz.isAgg0
 z0:=Tryz.sizeOf0
 v0:=Tryz.zeroValue0
 t3:=underlying3
 a3:=Tryz.isAgg3
 z3:=Tryz.sizeOf3
 v3:=Tryz.zeroValue3
 t4:=underlying4
 a4:=Tryz.isAgg4
 z4:=Tryz.sizeOf4
 v4:=Tryz.zeroValue4
 t22:=underlying56
 a22:=Tryz.isAgg56
 z22:=Tryz.sizeOf56
 v22:=Tryz.zeroValue56
 t40:=underlying101
 a40:=Tryz.isAgg101
 z40:=Tryz.sizeOf101
 v40:=Tryz.zeroValue101
}
def Cr:Go.Shelf.Ren:=⟨fun|21=>198|27=>223|28=>224|35=>253|39=>263|n=>n,fun|0=>0|3=>3|4=>4|22=>56|40=>101|n=>n,fun|n=>n⟩
theorem xr:Go.Proofs.Lays2.n21 prog Cr:= {
 mixed:=by kernel_rfl
 f21:=func198.trans (au some (by kernel_rfl))
 f27:=func223.trans (au some (by kernel_rfl))
 f28:=func224.trans (au some (by kernel_rfl))
 f35:=func253.trans (au some (by kernel_rfl))
 f39:=func263.trans (au some (by kernel_rfl))
 t0:=underlying0
 a0:=Tryz.isAgg0
 z0:=Tryz.sizeOf0
 v0:=Tryz.zeroValue0
 t3:=underlying3
 a3:=Tryz.isAgg3
 z3:=Tryz.sizeOf3
 v3:=Tryz.zeroValue3
 t4:=underlying4
 a4:=Tryz.isAgg4
 z4:=Tryz.sizeOf4
 v4:=Tryz.zeroValue4
 t22:=underlying56
 a22:=Tryz.isAgg56
 z22:=Tryz.sizeOf56
 v22:=Tryz.zeroValue56
 i3:=by kernel_rfl
}
def WQ:Go.Shelf.Ren:=⟨fun|15=>146|n=>n,fun|0=>0|3=>3|4=>4|22=>56|40=>101|n=>n,fun|n=>n⟩
theorem Cs:Go.Proofs.Lays2.n15 prog WQ:= {
 mixed:=by kernel_rfl
 f15:=func146.trans (au some (by kernel_rfl))
 t3:=underlying3
 a3:=Tryz.isAgg3
 z3:=Tryz.sizeOf3
 v3:=Tryz.zeroValue3
 t4:=underlying4
 a4:=Tryz.isAgg4
 z4:=Tryz.sizeOf4
 v4:=Tryz.zeroValue4
 t22:=underlying56
 a22:=Tryz.isAgg56
 z22:=Tryz.sizeOf56
 v22:=Tryz.zeroValue56
 i3:=by kernel_rfl
}
theorem xt {base w:World} {O:List Lx.Item} {i c:Nat} {T:TypeId} {zs:List Int} (hI:Inv base O w) (hO:O[i]? =some (av none c T 1 (ints zs))):zs=[]∧c=0:=by
 have h:=hI.row hO
 exact⟨by have:=h.1;simpa using this,h.2⟩
theorem Y6 (base:World) (b:Option Addr) (c:Nat) (zs:List Int) (rD:zs.length<4611686018427387904):cj prog base 192 [.slice b zs.length c] [av b c 3 1 (ints zs)] (fun v O'=>v=.tuple #[]∧O'=[av b c 3 1 (ints (qU zs))]):=fun w M hI=>by
 have hO:(([av b c 3 1 (ints zs)]++M:List Lx.Item))[0]? =some (av b c 3 1 (ints zs)):=rfl
 cases b with
 |none=>
  obtain⟨rfl,rfl⟩:=xt hI hO
  refine(Any.slices_Sort_int_none Tryz.BX none 0 w).mono ?_
  rintro e w' ⟨rfl,rfl⟩
  refine⟨_,_,F,?_,F,F⟩
  have h9:qU []=[]:=by simp
  rw[h9];exact hI
 |some a=>
  obtain⟨lU,off,sp⟩:=a
  have zI:sp=none:=(hI.row hO).1
  subst zI
  obtain⟨hH,hb⟩:=Bb hI hO
  refine(Tryz.slices_Sort_int lU off c zs w hH hb rD).mono ?_
  rintro e w' ⟨rfl,n,os,rfl⟩
  refine⟨_,_,F,?_,F,F⟩
  exact hI.NI (ys:=qU zs) hO (List.length_mergeSort zs) n os
theorem Mb (base:World) (b:Option Addr) (c:Nat) (zs:List Int) (rD:zs.length≤1000000):cj prog base 193 [.slice b zs.length c] [av b c 3 1 (ints zs)] (fun v O'=>v=.slice b (Lib.compact zs).length c∧O'=[av b c 3 1 (ints (Lib.compact zs))]):=fun w M hI=>by
 have hO:(([av b c 3 1 (ints zs)]++M:List Lx.Item))[0]? =some (av b c 3 1 (ints zs)):=rfl
 cases b with
 |none=>
  obtain⟨rfl,rfl⟩:=xt hI hO
  refine(Any.slices_Compact_int_empty Is none 0 w).mono ?_
  rintro e w' ⟨rfl,rfl⟩
  refine⟨_,_,F,?_,F,F⟩
  have h9:Lib.compact ([]:List Int)=[]:=rfl
  rw[h9];exact hI
 |some a=>
  obtain⟨lU,off,sp⟩:=a
  have zI:sp=none:=(hI.row hO).1
  subst zI
  obtain⟨hH,hb⟩:=Bb hI hO
  have PG:zs.length≤c:=by have:=(hI.row hO).2;obtain⟨_,_,h,_⟩:=this;simpa using h
  refine(Any.slices_Compact_int Is lU off c zs w hH (by omega) PG).mono ?_
  rintro e w' ⟨rfl,n,rfl⟩
  refine⟨_,_,F,?_,F,F⟩
  have GZ:=Lib.compact_length_le zs
  exact hI.JM (ys:=Lib.compact zs) hO (by simp;omega) n
theorem Qs (w:World) (b:Option Addr) (c:Nat) (l:List Nat) (s:Nat) (hS:Sl w b (bW l)) (ha:l.Pairwise (· < ·)) (hb:l.length≤1000000):cn prog 197 [.slice b l.length c,.int .i64 (s:Int)] w fun v N=>v=.tuple #[.int .i64 ((l.countP (· <s):Nat):Int),.bool (decide (s∈l))]∧N=[]:=fun w1 M hI=>by
 have Xw:=hI.sl hS
 by_cases h0:l=[]
 ·subst h0
  exact(Any.slices_BinarySearch_int_empty It b c (s:Int) w1).mono (by rintro e w' ⟨rfl,rfl⟩;exact⟨_,_,F,hI,F,F⟩)
 ·have Lj:0<(bW l).length:=by simp;exact List.length_pos_iff.2 h0
  obtain⟨bk,o,rfl⟩:=Xw.addr Lj
  refine(Any.slices_BinarySearch_int It bk o l.length c (l.map fun y:Nat=>(y:Int)) (s:Int) w1 (by simp) (by omega) (fun j hj=>?_) ?_).mono ?_
  ·have sP:j<l.length:=by simpa using hj
   rw[Xw.get (i:=j) (v:=.int .i64 ((l[j]:Nat):Int)) (by simp[sP])]
   simp[az,sP]
  ·rw[br (by simp)]
   exact List.pairwise_map.2 (ha.imp fun h=>by omega)
  ·rintro e w' ⟨rfl,q,rfl⟩
   refine⟨_,_,F,hI.drewN q,?_,F⟩
   rw[br (by simp),List.countP_map]
   have e1:((fun x:Int=>decide (x<(s:Int)))∘fun y:Nat=>(y:Int))=fun y:Nat=>decide (y<s):=by funext y;simp
   have e2:(List.map (fun y:Nat=>(y:Int)) l).contains (s:Int)=decide (s∈l):=by
    rw[List.contains_eq_mem]
    exact decide_eq_decide.2 ⟨fun h=>(by obtain⟨y,hy,e⟩:=List.mem_map.1 h;have:y=s:=(by omega);exact this▸hy),fun h=>List.mem_map.2 ⟨s,h,F⟩⟩
   rw[e1,e2]
theorem Mf (w:World) (b:Option Addr) (c:Nat) (zs:List Int) (hS:Sl w b (ints zs)) (hz:zs.length≤1000000):cn prog 146 [.slice b zs.length c] w fun v N=> ∃b' c',v=.slice b' zs.length c'∧N=[av b' c' 3 1 (ints zs)]∧c'≤9223372036854775807:=fun w1 M hI=>by
 have Xw:=hI.sl hS
 have key: ∀(e:Ending) (w':World),(∃v':Value,e=.returned v'∧w'.ownsRow w1.heap.size 3 1 v' zs.length (ints zs)∧Below w1.heap.size w1 w')→ ∃(v:Value) (O':List Lx.Item),e=.returned v∧Inv w (O'++M) w'∧ ∃b' c',v=.slice b' zs.length c'∧O'=[av b' c' 3 1 (ints zs)]∧c'≤9223372036854775807:=by
  rintro e w' ⟨v',rfl,⟨hl,ho⟩,hB⟩
  rcases ho with⟨rfl,h0⟩|⟨g,cap,cur,rfl,hg,hh,hn,hm,hs,ht⟩
  ·have XK:zs=[]:=List.length_eq_zero_iff.1 h0
   subst XK
   refine⟨_,_,F,?_,none,0,F,F,by omega⟩
   exact hI.new (N:=[av none 0 3 1 []]) hB.os hB.tape hB.output hB.size hB.block (by simp[av,rowP]) (by simp[av]) (by simp[av])
  ·refine⟨_,_,F,?_,some ⟨g,0,none⟩,cap,F,F,hm⟩
   have gw:=(Array.getElem?_eq_some_iff.1 hh).1
   refine hI.new (N:=[av (some ⟨g,0,none⟩) cap 3 1 (ints zs)]) hB.os hB.tape hB.output hB.size hB.block (fun it fO=>?_) (fun it fO k hk=>?_) (by simp[av])
   ·simp only[da]at fO;subst fO
    refine⟨F,cur,hh,by simp;omega,by show 0+cap*1≤_;omega,fun j hj=>?_⟩
    have h9:(cur.toList.take (zs.length*1))[j]? =some (ints zs)[j]:=by rw[ht];exact ap hj
    rw[List.getElem?_take,aJ (by simpa using hj)]at h9
    simpa using h9
   ·simp only[da]at fO;subst fO;simp[av]at hk;omega
 by_cases h0:b=none
 ·subst h0
  have XK:zs=[]:=by
   cases zs with
   |nil=>rfl
   |cons z zs=>obtain⟨_,_,e⟩:=Xw.addr (i:=0) (by simp);cases e
  subst XK
  exact(Any.slices_Clone_int_nil Cs _ c w1).mono fun e w' h=>key e w' (by obtain⟨h1,h2⟩:=h;subst h1 h2;exact⟨_,F,⟨by simp,.inl ⟨F,F⟩⟩,Below.refl _ _⟩)
 ·obtain⟨a,rfl⟩:=Option.ne_none_iff_exists'.1 h0
  by_cases hn:zs=[]
  ·subst hn
   exact(Any.slices_Clone_int_zero Cs a c w1).mono fun e w' h=>key e w' (by obtain⟨v',h1,h2,h3,h4⟩:=h;exact⟨v',h1,h2,h4⟩)
  ·obtain⟨bk,o,rfl⟩: ∃bk o,a=⟨bk,o,none⟩:=by
    obtain⟨bk,o,e⟩:=Xw.addr (i:=0) (by simp;exact List.length_pos_iff.2 hn)
    exact⟨bk,o,by simpa using e⟩
   refine(Any.slices_Clone_int Cs bk o zs.length c zs w1 (by simp) (by omega) (fun j hj=>?_)).mono fun e w' h=>key e w' (by obtain⟨v',h1,h2,h3,h4⟩:=h;rw[List.take_length]at h2;exact⟨v',h1,h2,h4⟩)
   rw[Xw.get (i:=j) (v:=.int .i64 zs[j]) (by simp[hj])]
   simp[az,hj]
theorem Qu (base:World) (b:Option Addr) (c i vb:Nat) (xs:List Int) (x:Int) (hi:i≤xs.length) (hx:xs.length≤1000000) (abd:c≤9223372036854775807):cj prog base 198 [.slice b xs.length c,.int .i64 ((i:Nat):Int),.slice (some ⟨vb,0,none⟩) 1 1] [av b c 3 1 (ints xs),av (some ⟨vb,0,none⟩) 1 3 1 [.int .i64 x]] (fun v O'=> ∃b' c',v=.slice b' (xs.length+1) c'∧O'=[av b' c' 3 1 (ints (xs.take i++x::xs.drop i))]):=fun w M hI=>by
 have hO:(([av b c 3 1 (ints xs),av (some ⟨vb,0,none⟩) 1 3 1 [.int .i64 x]]++M:List Lx.Item))[0]? =some (av b c 3 1 (ints xs)):=rfl
 have hV:(([av b c 3 1 (ints xs),av (some ⟨vb,0,none⟩) 1 3 1 [.int .i64 x]]++M:List Lx.Item))[1]? =some (av (some ⟨vb,0,none⟩) 1 3 1 [.int .i64 x]):=rfl
 obtain⟨_,vf,hvb,_,hv2,hv3⟩:=hI.row hV
 have Fs:vf[0]? =some (.int .i64 x):=hv3 0 (by simp)
 have gz: ∀j v,[Value.int .i64 x][j]? =some v→w.cell? ⟨vb,0+j,none⟩=some v:=fun j v h=>by
  cases j with
  |zero=>simp at h;subst h;simp[World.cell?,hvb,Fs]
  |succ j=>simp at h
 have h1v: ∀v∈[Value.int .i64 x],v.oneCell'=true:=by simp[Value.oneCell']
 have h1c: ∀v∈ints xs,v.oneCell'=true:=fun v hv=>by obtain⟨y,_,rfl⟩:=List.mem_map.1 hv;rfl
 have ig:(ints (xs.take i++x::xs.drop i)).length=xs.length+1:=by simp;omega
 have zJ: ∀(b':Option Addr) (c':Nat) (W:World),Inv base (av b' c' 3 1 (ints (xs.take i++x::xs.drop i))::av (some ⟨vb,0,none⟩) 1 3 1 [.int .i64 x]::M) W→Inv base ([av b' c' 3 1 (ints (xs.take i++x::xs.drop i))]++M) W:=fun b' c' W h=>
  h.kN ⟨_,List.Perm.refl _,List.Sublist.cons_cons _ (List.sublist_cons_self _ _)⟩
 have grown: ∀(W:World) (cc:Nat) (full:Array Value),W.os=w.os→W.tape=w.tape→W.output=w.output→W.heap.size=w.heap.size+1→(∀k,k<w.heap.size→W.heap[k]? =w.heap[k]?)→W.heap[w.heap.size]? =some (.cells full 3 (0,0))→xs.length+1≤cc→full.size=cc→(∀j,j<xs.length+1→full[j]? =(ints (xs.take i++x::xs.drop i))[j]?)→
   Inv base ([av (some ⟨w.heap.size,0,none⟩) cc 3 1 (ints (xs.take i++x::xs.drop i))]++M) W:=fun W cc full h1 h2 h3 h4 h5 h6 h7 h8 h9=>by
  have h:=hI.new (N:=[av (some ⟨w.heap.size,0,none⟩) cc 3 1 (ints (xs.take i++x::xs.drop i))]) h1 h2 h3 (by omega) h5 (fun it fO=>by
   simp only[da]at fO;subst fO
   exact⟨F,full,h6,by rw[ig];omega,by show 0+cc*1≤_;omega,fun j hj=>by
    show full[0+j]? =_
    rw[Nat.zero_add,h9 j (by omega),ap hj]⟩) (fun it fO k hk=>by
   simp only[da]at fO;subst fO;simp[av]at hk;omega) (by simp[av])
  exact h.kN ⟨_,List.Perm.refl _,List.Sublist.cons_cons _ (List.Sublist.cons _ (List.sublist_cons_self _ _))⟩
 have key:(∃bk o,b=some ⟨bk,o,none⟩)∨(b=none∧xs=[]∧c=0):=by
  cases b with
  |none=>exact .inr ⟨F,(xt hI hO).1,(xt hI hO).2⟩
  |some a=>obtain⟨bk,o,sp⟩:=a;have zI:sp=none:=(hI.row hO).1;subst zI;exact .inl ⟨bk,o,F⟩
 by_cases xf:i<xs.length
 ·rcases key with⟨bk,o,rfl⟩|⟨_,rfl,_⟩
  ·obtain⟨_,full,hb,h1,h2,h3⟩:=hI.row hO
   simp only[Nat.mul_one,ar]at h1 h2
   have xH: ∀j v,(ints xs)[j]? =some v→w.cell? ⟨bk,o+j,none⟩=some v:=fun j v hv=>by
    obtain⟨hj,e⟩:=List.getElem?_eq_some_iff.1 hv
    have:=h3 j hj
    simp only[World.cell?,hb];simpa[e]using this
   have zI: ∀j,j<c→(w.cell? ⟨bk,o+j,none⟩).isSome=true:=fun j hj=>by
    simp only[World.cell?,hb];simp;omega
   have hfz: ∀j,w.frozen? ⟨bk,j,none⟩=false:=fun j=>by simp[World.frozen?,hb]
   by_cases Ov:xs.length+1≤c
   ·have pL:vb≠bk:=fun e=>by
     have hn:=hI.nodup
     simp[av,e]at hn
    refine(Any2.slices_Insert_int_shift xr bk o xs.length c i vb 0 1 1 (ints xs) [.int .i64 x] w xf (by decide) Ov abd pL (by simp) F xH (fun j hj=>zI j (by omega)) (fun j _=>hfz _) gz h1c h1v 3 3 vf.size full.size (by simp[World.shape?,hvb]) (by simp[World.shape?,hb]) (by omega) (by simp[World.frozen?,hvb]) (by simp[World.frozen?,hvb])).mono ?_
    rintro e w' ⟨rfl,rfl⟩
    refine⟨_,_,F,?_,_,_,F,F⟩
    have hA:=(hI.drew).setCells (p:=i+1) (vs:=(ints xs).drop i) (Bn:=ints (xs.take i++xs.getD i 0::xs.drop i)) hO (by simp;omega) (by simp;omega) (fun j hj=>by
     have sP:j<xs.length+1:=by simp at hj;omega
     rw[uC xs _ hi]
     simp only[List.length_drop,ar]
     by_cases c1:j<i
     ·rw[aJ c1,aA (by omega)]
     ·by_cases c2:j=i
      ·subst c2;rw[aA c1,aJ F,aA (by omega),bi];simp[az,xf]
      ·rw[aA c1,aA c2,aJ (by omega),List.getElem?_drop,show i+(j-(i+1))=j-1 by omega])
    have hB:=hA.setCells (i:=0) (b:=bk) (o:=o) (c:=c) (T:=3) (cs:=ints (xs.take i++xs.getD i 0::xs.drop i)) (p:=i) (vs:=[.int .i64 x]) (Bn:=ints (xs.take i++x::xs.drop i)) F (by simp;omega) (by rw[ig];omega) (fun j hj=>by
     rw[uC xs _ hi,uC xs _ hi]
     simp only[bG,dl]
     by_cases c1:j<i
     ·rw[aJ c1,aA (by omega),aJ c1]
     ·by_cases c2:j=i
      ·subst c2;rw[aA c1,aJ F,aJ (by omega),fL];rfl
      ·rw[aA c1,aA c2,aA (by omega),aA c1,aA c2])
    exact zJ _ _ _ hB
   ·refine(Any2.slices_Insert_int_grow xr bk o xs.length c i vb 0 1 1 (ints xs) [.int .i64 x] w xf (by decide) h1 (by omega) (by omega) (by simp) F xH gz h1c h1v).mono ?_
    rintro e w' ⟨rfl,rfl⟩
    refine⟨_,_,F,?_,_,_,F,F⟩
    obtain⟨cc,hcc⟩: ∃cc,grownCap w (xs.length+1) c 3=cc:=⟨_,F⟩
    have hge:xs.length+1≤cc:=hcc▸grownCap_ge w _ _ _
    rw[show grownCap w (xs.length+1) c (Cr.t 3)=cc from hcc]
    have hz: ∀k,Builtin.zeroCells (Value.int .i64 0).cells k=(List.replicate k (Value.int .i64 0)).toArray:=fun k=>by
     have:=rE (.int .i64 0) k
     simpa[Builtin.zeroCells,Value.cells]using this
    obtain⟨Kh,WR⟩: ∃Kh,Kh=(ints xs).take i++List.replicate (xs.length+1-i) (Value.int .i64 0)++List.replicate (cc-(xs.length+1)) (Value.int .i64 0):=⟨_,F⟩
    have Ah:Kh.length=cc:=by rw[WR];simp;omega
    have e1:((ints xs).take i).toArray++Builtin.zeroCells (Value.int .i64 0).cells (xs.length+1-i)++Builtin.zeroCells (Value.int .i64 0).cells (cc-(xs.length+1))=Kh.toArray:=by
     rw[WR,hz,hz];simp only[List.append_toArray]
    rw[e1,show Cr.t 3=3 from F]
    have hh1:(w.alloc (.cells Kh.toArray 3 (0,0))).drew.heap[w.heap.size]? =some (.cells Kh.toArray 3 (0,0)):=by
     show(w.heap.push _)[w.heap.size]? =_
     simp
    rw[mm _ _ _ _ hh1]
    have hh2:((j7 (w.alloc (.cells Kh.toArray 3 (0,0))).drew w.heap.size (.cells (eZ Kh i [.int .i64 x]).toArray 3 (0,0))).drew).heap[w.heap.size]? =some (.cells (eZ Kh i [.int .i64 x]).toArray 3 (0,0)):=l6 (w:=(w.alloc (.cells Kh.toArray 3 (0,0))).drew) (by show w.heap.size<(w.heap.push _).size;simp)
    rw[mm _ _ _ _ hh2]
    refine grown _ cc (eZ (eZ Kh i [.int .i64 x]) (i+1) ((ints xs).drop i)).toArray F F F ?_ ?_ ?_ hge (by simp[iM,Ah]) ?_
    ·show(((w.heap.push _).setIfInBounds _ _).setIfInBounds _ _).size=_;simp
    ·intro k hk
     show(((w.heap.push _).setIfInBounds _ _).setIfInBounds _ _)[k]? =_
     rw[Array.getElem?_setIfInBounds_ne (by omega),Array.getElem?_setIfInBounds_ne (by omega),Array.getElem?_push,aA (by omega)]
    ·exact l6 (w:=(j7 (w.alloc (.cells Kh.toArray 3 (0,0))).drew w.heap.size (.cells (eZ Kh i [.int .i64 x]).toArray 3 (0,0))).drew) (by show w.heap.size<((w.heap.push _).setIfInBounds _ _).size;simp)
    ·intro j hj
     rw[uC xs _ hi]
     simp only[List.getElem?_toArray]
     rw[nB _ _ _ _ (by simp[iM,Ah];omega),nB _ _ _ _ (by simp[Ah];omega)]
     simp only[List.length_drop,ar,bG,dl]
     by_cases c1:j<i
     ·rw[aA (by omega),aA (by omega),aJ c1,WR,a6,bE (by simp;omega),List.getElem?_take,aJ c1]
     ·by_cases c2:j=i
      ·subst c2;rw[aA (by omega),aJ (by omega),aA c1,aJ F,fL];rfl
      ·rw[aJ (by omega),aA c1,aA c2,List.getElem?_drop,show i+(j-(i+1))=j-1 by omega]
  ·simp at xf
 ·have aev:i=xs.length:=by omega
  subst aev
  have aew:ints (xs.take xs.length++x::xs.drop xs.length)=ints xs++[.int .i64 x]:=by simp
  by_cases Ov:xs.length+1≤c
  ·rcases key with⟨bk,o,rfl⟩|⟨_,_,rfl⟩
   ·obtain⟨_,full,hb,h1,h2,h3⟩:=hI.row hO
    simp only[Nat.mul_one,ar]at h1 h2
    refine(Any2.slices_Insert_int_end_room xr bk o xs.length c vb 0 1 1 [.int .i64 x] w (by decide) Ov abd F (fun j hj=>by simp only[World.cell?,hb];simp;omega) (fun j _=>by simp[World.frozen?,hb]) gz h1v).mono ?_
    rintro e w' ⟨rfl,rfl⟩
    refine⟨_,_,F,?_,_,_,F,F⟩
    have hB:=hI.setCells (p:=xs.length) (vs:=[.int .i64 x]) (Bn:=ints (xs.take xs.length++x::xs.drop xs.length)) hO (by simp;omega) (by rw[ig];omega) (fun j hj=>by
     rw[uC xs _ (aS _)]
     simp only[bG,dl]
     by_cases c1:j<xs.length
     ·rw[aJ c1,aA (by omega)]
     ·have c2:j=xs.length:=by omega
      subst c2;rw[aA c1,aJ F,aJ (by omega),fL];rfl)
    exact zJ _ _ _ hB
   ·omega
  ·have hnc:xs.length≤c:=by
    rcases key with⟨bk,o,rfl⟩|⟨_,rfl,_⟩
    ·obtain⟨_,full,_,h1,_⟩:=hI.row hO;simpa using h1
    ·simp
   refine(Any2.slices_Insert_int_end_grow xr b xs.length c vb 0 1 1 (ints xs) [.int .i64 x] w (by decide) hnc (by omega) (by omega) (by simp) F (fun e=>key.elim (fun h=>by obtain⟨_,_,h⟩:=h;rw[e]at h;cases h) (fun h=>by rw[h.2.1];rfl)) (fun a ha j v hv=>by
    obtain⟨bk,o,sp⟩:=a
    subst ha
    have zI:sp=none:=(hI.row hO).1
    subst zI
    rw[rF]
    obtain⟨hj,e⟩:=List.getElem?_eq_some_iff.1 hv
    obtain⟨_,full,hb,h1,h2,h3⟩:=hI.row hO
    have:=h3 j hj
    simp only[World.cell?,hb];simpa[e]using this) gz h1v).mono ?_
   rintro e w' ⟨rfl,rfl⟩
   refine⟨_,_,F,?_,_,_,F,F⟩
   obtain⟨cc,hcc⟩: ∃cc,grownCap w (xs.length+1) c 3=cc:=⟨_,F⟩
   have hge:xs.length+1≤cc:=hcc▸grownCap_ge w _ _ _
   rw[show grownCap w (xs.length+1) c (Cr.t 3)=cc from hcc]
   have hz: ∀k,Builtin.zeroCells (Value.int .i64 0).cells k=(List.replicate k (Value.int .i64 0)).toArray:=fun k=>by
    have:=rE (.int .i64 0) k
    simpa[Builtin.zeroCells,Value.cells]using this
   rw[hz]
   refine grown _ cc _ F F F (by show(w.heap.push _).size=_;simp) (fun k hk=>by
    show(w.heap.push _)[k]? =_
    rw[Array.getElem?_push,aA (by omega)]) (by show(w.heap.push (Obj.cells _ 3 (0,0)))[w.heap.size]? =_;rw[Array.getElem?_push_size]) hge (by simp;omega) (fun j hj=>by
    rw[aew]
    simp only[List.append_toArray,List.getElem?_toArray]
    rw[bE (by simp;omega)])
end Go.Proofs.YtgdbfideeeegmaaGreatDoor

namespace Go.Proofs
open Go.Shelf
def Tryz.El:Go.Shelf.Ren:=⟨fun|190=>111|125=>159|258=>158|128=>208|129=>209|302=>199|303=>200|304=>201|305=>202|306=>203|307=>204|308=>205|309=>206|310=>207|333=>225|329=>226|330=>227|334=>228|335=>229|336=>230|344=>254|n=>n,fun|31=>166|9=>9|3=>3|46=>101|0=>0|51=>254|53=>256|4=>4|183=>247|182=>246|131=>161|5=>5|218=>268|222=>272|228=>289|229=>290|n=>n,fun|n=>n⟩
theorem Tryz.HU:Go.Proofs.Lays.n190 prog Tryz.El:= {
 mixed:=by kernel_rfl
 f125:=func159.trans (au some (by kernel_rfl))
 f128:=func208.trans (au some (by kernel_rfl))
 f129:=func209.trans (au some (by kernel_rfl))
 f190:=func111.trans (au some (by kernel_rfl))
 f258:=func158.trans (au some (by kernel_rfl))
 f302:=func199.trans (au some (by kernel_rfl))
 f303:=func200.trans (au some (by kernel_rfl))
 f304:=func201.trans (au some (by kernel_rfl))
 f305:=func202.trans (au some (by kernel_rfl))
 f306:=func203.trans (au some (by kernel_rfl))
 f307:=func204.trans (au some (by kernel_rfl))
 f308:=func205.trans (au some (by kernel_rfl))
 f309:=func206.trans (au some (by kernel_rfl))
 f310:=func207.trans (au some (by kernel_rfl))
 f329:=func226.trans (au some (by kernel_rfl))
 f330:=func227.trans (au some (by kernel_rfl))
 f333:=func225.trans (au some (by kernel_rfl))
 f334:=func228.trans (au some (by kernel_rfl))
 f335:=func229.trans (au some (by kernel_rfl))
 f336:=func230.trans (au some (by kernel_rfl))
 f344:=func254.trans (au some (by kernel_rfl))
 t0:=underlying0
 a0:=Tryz.isAgg0
 z0:=Tryz.sizeOf0
 v0:=Tryz.zeroValue0
 t3:=underlying3
 a3:=Tryz.isAgg3
 z3:=Tryz.sizeOf3
 v3:=Tryz.zeroValue3
 t4:=underlying4
 a4:=Tryz.isAgg4
 z4:=Tryz.sizeOf4
 v4:=Tryz.zeroValue4
 t5:=underlying5
 a5:=Tryz.isAgg5
 z5:=Tryz.sizeOf5
 v5:=Tryz.zeroValue5
 t9:=underlying9
 a9:=Tryz.isAgg9
 z9:=Tryz.sizeOf9
 v9:=Tryz.zeroValue9
 t31:=underlying166
 a31:=Tryz.isAgg166
 z31:=Tryz.sizeOf166
 v31:=Tryz.zeroValue166
 t46:=underlying101
 a46:=Tryz.isAgg101
 z46:=Tryz.sizeOf101
 v46:=Tryz.zeroValue101
 t51:=underlying254
 a51:=Tryz.isAgg254
 z51:=Tryz.sizeOf254
 v51:=Tryz.zeroValue254
 t53:=underlying256
 a53:=Tryz.isAgg256
 z53:=Tryz.sizeOf256
 v53:=Tryz.zeroValue256
 t131:=underlying161
 a131:=Tryz.isAgg161
 z131:=Tryz.sizeOf161
 v131:=Tryz.zeroValue161
 t182:=underlying246
 a182:=Tryz.isAgg246
 z182:=Tryz.sizeOf246
 v182:=Tryz.zeroValue246
 t183:=underlying247
 a183:=Tryz.isAgg247
 z183:=Tryz.sizeOf247
 v183:=Tryz.zeroValue247
 t218:=underlying268
 a218:=Tryz.isAgg268
 z218:=Tryz.sizeOf268
 v218:=Tryz.zeroValue268
 t222:=underlying272
 a222:=Tryz.isAgg272
 z222:=Tryz.sizeOf272
 v222:=Tryz.zeroValue272
 t228:=underlying289
 a228:=Tryz.isAgg289
 z228:=Tryz.sizeOf289
 v228:=Tryz.zeroValue289
 t229:=underlying290
 a229:=Tryz.isAgg290
 z229:=Tryz.sizeOf290
 v229:=Tryz.zeroValue290}
open Go.RowKit Go.Sort Go.Lib in
theorem Tryz.slices_Sort_string (lU off cap:Nat) (ss:List (List UInt8)) (w:World) (hH:Holds encStr w lU off ss.toArray) (Wp:lU<w.heap.size) (rD:ss.length<4611686018427387904):
  Calls prog 111 #[.slice (some ⟨lU,off,none⟩) ss.length cap] w fun e w'=>
   e=.returned (.tuple #[])∧ ∃n os,w'=grow (putRow encStr (Sort.ahead w n) lU off (ss.mergeSort fun x y=>decide (x≤y)).toArray) os:=Any.slices_Sort_string Tryz.HU lU off cap ss w hH Wp rD
end Go.Proofs
namespace Go.Lx
open Go.RowKit Go.Sort Go.Proofs
def strs (l:List Key):List Value:=l.map str
theorem yy (l:List Key):(strs l).length=l.length:=ar _
theorem Nb {l:List Key} {i:Nat} (h:i<l.length):(strs l)[i]? =some (str l[i]):=by unfold strs;rw[bi,ap h];rfl
theorem Inv.Q6 {base w:World} {O:List Lx.Item} {i lU off cap:Nat} {T:TypeId} {zs ys:List Key} (hI:Inv base O w) (hO:O[i]? =some (av (some ⟨lU,off,none⟩) cap T 1 (strs zs))) (hl:ys.length=zs.length) (n:Nat) (os:Array Obj):
  Inv base (O.set i (av (some ⟨lU,off,none⟩) cap T 1 (strs ys))) (Go.Sort.grow (putRow encStr (Sort.ahead w n) lU off ys.toArray) os):=by
 obtain⟨_,full,hb,oO,Wq,Cz⟩:=hI.row hO
 have gw:lU<w.heap.size:=(Array.getElem?_eq_some_iff.1 hb).1
 have yM:(Go.Sort.grow (putRow encStr (Sort.ahead w n) lU off ys.toArray) os).heap=(w.heap.modify lU (onCells (putCells encStr off ys.toArray)))++os:=rfl
 refine hI.sE hO F F F ?_ (fun b hlb hk=>?_) ⟨F,putCells encStr off ys.toArray full,?_,?_,?_,fun j hj=>?_⟩ (fun k hk=>.inl hk) (by simp[av])
 ·rw[yM];simp
 ·rw[yM,Array.getElem?_append_left (by simpa using hlb),Array.getElem?_modify,aA (fun e=>hk (by simp[av,e]))]
 ·rw[yM,Array.getElem?_append_left (by simpa using gw),Array.getElem?_modify,aJ F,hb];rfl
 ·simp only[yy]at oO⊢;omega
 ·rw[sq];exact Wq
 ·have sP:j<ys.length:=by simpa[strs]using hj
  have adv:zs.length≤cap*1:=by simpa[strs]using oO
  have adw:off+cap*1≤full.size:=Wq
  show(putCells encStr off ys.toArray full)[off+j]? =_
  rw[wB _ _ _ _ (by simpa using sP) (by omega),show(strs ys)[j]=str ys[j] by simp[strs]]
  simp[sP];rfl
theorem Gq {base w:World} {O:List Lx.Item} {i lU off cap:Nat} {T:TypeId} {zs:List Key} (hI:Inv base O w) (hO:O[i]? =some (av (some ⟨lU,off,none⟩) cap T 1 (strs zs))):Holds encStr w lU off zs.toArray∧lU<w.heap.size:=by
 obtain⟨_,full,hb,oO,Wq,Cz⟩:=hI.row hO
 refine⟨fun j hj=>?_,(Array.getElem?_eq_some_iff.1 hb).1⟩
 have sP:j<zs.length:=by simpa using hj
 have h9:=Cz j (by simpa[strs]using sP)
 rw[show(strs zs)[j]'(by simpa[strs]using sP)=str zs[j] by simp[strs]]at h9
 constructor
 ·simp only[World.cell?,hb]
  simp at h9
  simp[h9,sP];rfl
 ·simp[World.frozen?,hb]
end Go.Lx
namespace Go.Proofs.YtgdbfideeeegmaaGreatDoor
open Go.Lx Go.RowKit Go.Proofs Go.Sort _root_.Go.Proofs.Tryz
theorem Na (base:World) (b:Option Addr) (c:Nat) (zs:List Key) (rD:zs.length<4611686018427387904):cj prog base 111 [.slice b zs.length c] [av b c 9 1 (strs zs)] (fun v O'=>v=.tuple #[]∧O'=[av b c 9 1 (strs (zs.mergeSort xj))]):=fun w M hI=>by
 have hO:(([av b c 9 1 (strs zs)]++M:List Lx.Item))[0]? =some (av b c 9 1 (strs zs)):=rfl
 cases b with
 |none=>
  have hz:zs=[]:=by have h:=(hI.row hO).1;simpa[strs]using h
  subst hz
  refine(Any.slices_Sort_string_none Tryz.HU none c w).mono ?_
  rintro e w' ⟨rfl,rfl⟩
  refine⟨_,_,F,?_,F,F⟩
  have h9:([]:List Key).mergeSort xj=[]:=by simp
  rw[h9];exact hI
 |some a=>
  obtain⟨lU,off,sp⟩:=a
  have zI:sp=none:=(hI.row hO).1
  subst zI
  obtain⟨hH,hb⟩:=Gq hI hO
  refine(Tryz.slices_Sort_string lU off c zs w hH hb rD).mono ?_
  rintro e w' ⟨rfl,n,os,rfl⟩
  refine⟨_,_,F,?_,F,F⟩
  exact hI.Q6 (ys:=zs.mergeSort xj) hO (List.length_mergeSort zs) n os
open Go.Lx Go.RowKit _root_.Go.Proofs.Tryz
theorem WS (w:World) (i:Nat) (h:i<100):cn prog 214 [vI (i:Int)] w fun v N=>v=str (Lib.decDigits i)∧N=[]:=fun w1 M hI=>
 (Go.Proofs.Tryz.internal_strconv_small i h w1).mono (by rintro e w' ⟨rfl,rfl⟩;exact⟨_,[],F,hI,F,F⟩)
theorem ndF (w:World) [t:dA prog w] (n:Nat) (h1:1≤n) (hn:n<1000000000000):cn prog 215 [.int .u64 (n:Int)] w fun v N=>v=vI (Lib.nDigits n:Int)∧N=[]:=fun w1 M hI=>
 (Go.Proofs.Tryz.internal_strconv_numDigits n h1 (by omega) w1 (dA.is (hI.tab (P:=prog)))).mono (by rintro e w' ⟨rfl,rfl⟩;exact⟨_,[],F,hI,F,F⟩)
theorem Ow (base:World) [dA prog base] (b:Option Addr) (c c' m n:Nat) (l:List UInt8) (hl:l.length=m) (hn:n<1000000000000) (X7:100≤n) (hm:m≤1000000):
  cj prog base 231 [.slice b m c,.int .u64 (n:Int),vI 10] [av b c 5 1 (dn l)] (fun v O'=> ∃b' c',v=.slice b' (m+(Lib.decDigits n).length) c'∧ ∃k cs,O'=[dY k (.cells cs 260 (0,0)),av b' c' 5 1 (dn (l++Lib.decDigits n))]):=by
 have h20:Lib.nDigits n≤20:=by have:=Lib.numDigits_eq n (by omega) (by omega);split at this<;>omega
 have h01:1≤Lib.nDigits n:=by rw[Lib.nDigits_big (by omega)];omega
 refine aE func231 F ntmps231 F ?_
 refine aj (ak F (ah (aR (aj (ai F (ae bK (ah ?_)))))))
 refine b_ ?_
 refine aR (aj (ai F (ae cU (ah (a8 (aL (aj (aq (bs VK (fun bA=>?_))))) (au Value.bool (am (show¬(n:Int)<100 by omega))))))))
 refine ah (aj (ai F (aq (bm We (aX (fun w1 hI=>by haveI:=hI.tab (P:=prog);exact ndF w1 n (by omega) hn)) ?_))))
 rintro v O' ⟨N,rfl,rfl,rfl⟩
 refine ak F (ah (aj (ai F (ae (CZ underlying260 eD F F (by omega) h01) (ai F ?_)))))
 have hk:=(PL (base:=base) (b:=bA) (T:=260) (n:=n) (fun j hj=>Lib.zeros24_at j hj) (by omega) hn Go.Proofs.Tryz.internal_strconv_formatBase10).under (O:=[dY bA (.cells Lib.zeros24 260 (0,0)),av b c 5 1 (dn l)]) (B:=[av b c 5 1 (dn l)]) (ck (aY _))
 refine aq (bm Wf hk ?_)
 clear hk
 rintro v O' ⟨O1,rfl,rfl,cs,rfl,xH⟩
 refine ah (aj (ai F (ai F (ae (CZ underlying260 eD F F (by omega) h01) (aq (I8 (new:=dn (Lib.decDigits n)) 0 1 underlying43 underlying43 eD F F F F (by simp[dn,hl]) (by simp[dn,Lib.decDigits_length]) F xH (xS _) (by omega) (by decide) (by decide) (fun b2 c2=>?_)))))))
 refine ak F (ah (aM ?_))
 refine aT (.slice b2 (m+Lib.nDigits n) c2) results231 F ?_
 refine⟨b2,c2,by rw[Lib.decDigits_length],bA,cs,?_⟩
 rw[show dn (l++Lib.decDigits n)=dn l++dn (Lib.decDigits n)from bj];rfl
theorem Dw (base:World) (b:Option Addr) (c c' m n:Nat) (l:List UInt8) (hl:l.length=m) (hn:n<100) (hm:m≤1000000):
  cj prog base 231 [.slice b m c,.int .u64 (n:Int),vI 10] [av b c 5 1 (dn l)] (fun v O'=> ∃b' c',v=.slice b' (m+(Lib.decDigits n).length) c'∧O'=[av b' c' 5 1 (dn (l++Lib.decDigits n))]):=by
 refine aE func231 F ntmps231 F ?_
 refine aj (ak F (ah (aR (aj (ai F (ae bK (ah ?_)))))))
 refine b_ ?_
 refine aR (aj (ai F (ae cU (ah ?_))))
 refine b_ ?_ (au Value.bool (ax (show(n:Int)<100 by omega)))
 refine aj (ai F (ai F (ae (fU underlying256 underlying3 F (show IntKind.i64.wrap (n:Int)=(n:Int)from gD (by omega))) ?_)))
 have o9:=fun(w1:World) (hI:Inv base [av b c 5 1 (dn l)] w1)=>WS w1 n hn
 refine aq (bm Wc (aX o9) ?_)
 clear o9
 rintro v O' ⟨N,rfl,rfl,rfl⟩
 refine aq (Aw (s:=Lib.decDigits n) 0 underlying43 underlying9 eD F F F F (by simp[hl]) F (by have:=tV 1 n (by omega);omega) (by decide) (by decide) (fun b2 c2=>?_))
 refine ak F (ah (aM ?_))
 refine aT (.slice b2 (m+(Lib.decDigits n).length) c2) results231 F ?_
 exact⟨b2,c2,F,by rw[show dn (l++Lib.decDigits n)=dn l++dn (Lib.decDigits n)from bj];rfl⟩
theorem Ox (base:World) [dA prog base] (b:Option Addr) (c c' m n:Nat) (l:List UInt8) (hl:l.length=m) (hn:n<1000000000000) (hm:m≤1000000):
  cj prog base 231 [.slice b m c,.int .u64 (n:Int),vI 10] [av b c 5 1 (dn l)] (fun v O'=> ∃b' c',v=.slice b' (m+(Lib.decDigits n).length) c'∧O'=[av b' c' 5 1 (dn (l++Lib.decDigits n))]):=by
 by_cases h:n<100
 ·exact Dw base b c c' m n l hl h hm
 ·exact(Ow base b c c' m n l hl hn (by omega) hm).drop fun v O' ⟨b',c',h1,k,cs,h2⟩=>⟨_,h2▸ck (List.sublist_cons_self _ _),b',c',h1,F⟩
theorem RA (base:World) [dA prog base] (b:Option Addr) (c c' m n:Nat) (l:List UInt8) (hl:l.length=m) (hn:n<1000000000000) (hm:m≤1000000):
  cj prog base 210 [.slice b m c,vI (n:Int),vI 10] [av b c 5 1 (dn l)] (fun v O'=> ∃b' c',v=.slice b' (m+(Lib.decDigits n).length) c'∧O'=[av b' c' 5 1 (dn (l++Lib.decDigits n))]):=by
 refine aE func210 F ntmps210 F ?_
 refine aj (ak F (ah (aj (ai F (ae (fU underlying2 underlying256 F (show IntKind.u64.wrap (n:Int)=(n:Int) by unfold IntKind.wrap;simp[IntKind.bits,IntKind.signed];omega)) (ak F (ah (aR (aj (ai F (ae cU (ah (a8 ?_ (au Value.bool (am (show¬(n:Int)<0 by omega))))))))))))))))
 refine aL (aj (ai F (ai F (ai F ?_))))
 have mx:=Ox base b c c' m n l hl hn hm
 refine aq (bm L7 mx ?_)
 clear mx
 rintro v O' ⟨b2,c2,rfl,rfl⟩
 refine ak F (ah (aM ?_))
 refine aT (.slice b2 (m+(Lib.decDigits n).length) c2) results210 F ?_
 exact⟨b2,c2,F,F⟩
theorem Uy (base:World) [dA prog base] (b:Option Addr) (c c' m n:Nat) (l:List UInt8) (hl:l.length=m) (hn:n<1000000000000) (hm:m≤1000000):
  cj prog base 160 [.slice b m c,vI (n:Int),vI 10] [av b c 5 1 (dn l)] (fun v O'=> ∃b' c',v=.slice b' (m+(Lib.decDigits n).length) c'∧O'=[av b' c' 5 1 (dn (l++Lib.decDigits n))]):=by
 refine aE func160 F ntmps160 F ?_
 refine aj (ak F (ah (aj (ai F (ai F (ai F ?_))))))
 have lB:=RA base b c c' m n l hl hn hm
 refine aq (bm L8 lB ?_)
 clear lB
 rintro v O' ⟨b2,c2,rfl,rfl⟩
 refine ak F (ah (aM ?_))
 refine aT (.slice b2 (m+(Lib.decDigits n).length) c2) results160 F ?_
 exact⟨b2,c2,F,F⟩
theorem On (w:World) [dA prog w] (n:Nat) (hn:n<1000000000000):cn prog 85 [vI (n:Int)] w fun v N=>v=str (Lib.decDigits n)∧N=[]:=fun w1 M hI=>
 (Go.Proofs.Tryz.strconv_Itoa n (by omega) (by omega) w1 (dA.is (hI.tab (P:=prog)))).mono (by rintro e w' ⟨rfl,k,os,rfl⟩;exact⟨_,[],F,hI.grow k os,by rw[Lib.itoa_nonneg];rfl,F⟩)
theorem ef {w w1:World} {O:List Lx.Item} [dA prog w] (h:Inv w O w1):dA prog w1:=Inv.tab (P:=prog) h
theorem aW {w:World} {O:List Lx.Item} {f:FuncId} {args:List Value} {R:Value→List Lx.Item→Prop} [dA prog w] (h: ∀(w1:World) [dA prog w1],cn prog f args w1 R):cj prog w f args O (fun v O2=> ∃N,O2=N++O∧R v N):=aX fun w1 hI=>haveI:=ef hI;h w1
abbrev uT2:= @underlying2
abbrev ey:= @underlying3
abbrev BB:= @underlying4
abbrev gH:= @underlying5
abbrev wh:= @underlying9
abbrev fp:= @underlying22
abbrev eI:= @underlying23
abbrev dj:= @underlying25
abbrev o6:= @underlying27
abbrev dR:= @underlying32
abbrev kC:= @underlying43
abbrev cL:= @underlying56
abbrev u_:= @underlying67
abbrev gh:= @underlying69
abbrev dt:= @underlying72
abbrev x8:= @underlying73
abbrev mr:= @underlying75
abbrev wV:= @underlying79
abbrev lM:= @underlying81
abbrev aex:= @underlying91
abbrev Ed:= @underlying96
abbrev wW:= @underlying97
abbrev Si:= @underlying101
abbrev fH:= @underlying112
abbrev gC:= @underlying114
abbrev iK:= @underlying118
abbrev ow:= @underlying120
abbrev my:= @underlying122
abbrev lA:= @underlying129
abbrev Nl:= @underlying140
abbrev oz:= @underlying142
abbrev gi:= @underlying149
abbrev tX:= @underlying153
abbrev Y9:= @underlying159
abbrev iO:= @underlying160
abbrev Hl:= @underlying163
abbrev D6:= @underlying166
abbrev jL:= @underlying167
abbrev lW:= @underlying169
abbrev kD:= @underlying173
abbrev aaG:= @underlying180
abbrev y8:= @underlying184
abbrev rA:= @underlying186
abbrev aaP:= @underlying197
abbrev ou:= @underlying208
abbrev SC:= @underlying209
abbrev wG:= @underlying227
abbrev pq:= @underlying234
abbrev nZ:= @underlying235
abbrev uM:= @underlying236
abbrev qg:= @underlying238
abbrev Y8:= @underlying244
abbrev Y3:= @underlying256
theorem Rh (base:World) [dA prog base] (bx m:Nat) (ks:List (List UInt8)) (key:List UInt8) (hk:key∈ks) (hb:ks.length<1000000):
  cj prog base 168 [str key,.pointer (aD bx)] [dY bx (.cells #[.map (some m)] 160 (0,0)),dO str (fun n:Nat=>Value.int .i64 (n:Int)) m ks.zipIdx] (fun v O'=>v=vN (ix key (add ks key))∧O'=[dY bx (.cells #[.map (some m)] 160 (0,0)),dO str (fun n:Nat=>Value.int .i64 (n:Int)) m (add ks key).zipIdx]):=by
 refine aE func168 F ntmps168 F ?_
 refine aj (ak F (ah (aj (ae (bq 0 iO) (ai F (ae (bL (jT (a:=key) iO bF (gG.string wh) F F (mG 1)) (v':=(.tuple #[vN (ix key ks),.bool true])) (by rw[lD];simp[hk])) (ai F (ae (bI (vs:=_)) (ae (bI (vs:=_)) (ak F (ak F (ah (aR (aj (ai F (ae iV (ah ?_)))))))))))))))))
 refine a8 (aL (aj (ai F (ak F (ah (aM ?_))))))
 refine aT (vN (ix key ks)) results168 F ?_
 have ha:add ks key=ks:=aJ hk
 rw[ha];exact⟨F,F⟩
theorem NW (base:World) [dA prog base] (bx m:Nat) (ks:List (List UInt8)) (key:List UInt8) (hk:key∉ks) (hb:ks.length<1000000):
  cj prog base 168 [str key,.pointer (aD bx)] [dY bx (.cells #[.map (some m)] 160 (0,0)),dO str (fun n:Nat=>Value.int .i64 (n:Int)) m ks.zipIdx] (fun v O'=>v=vN (ix key (add ks key))∧O'=[dY bx (.cells #[.map (some m)] 160 (0,0)),dO str (fun n:Nat=>Value.int .i64 (n:Int)) m (add ks key).zipIdx]):=by
 refine aE func168 F ntmps168 F ?_
 refine aj (ak F (ah (aj (ae (bq 0 iO) (ai F (ae (bL (jT (a:=key) iO bF (gG.string wh) F F (mG 1)) (v':=(.tuple #[vI 0,.bool false])) (by rw[lD];simp[hk])) (ai F (ae (bI (vs:=_)) (ae (bI (vs:=_)) (ak F (ak F (ah (aR (aj (ai F (ae iV (ah ?_)))))))))))))))))
 refine b_ ?_
 refine aj (ae (bq 0 iO) (ae (bL (qC iO F (mG 1)) (v':=vN ks.length) (by simp)) (ak F (ah (bg (ae (bq 0 iO) (ai F (ai F (aq (qE (a:=key) (v:=ks.length) 1 iO (gG.string wh) F F F F (by rw[nz];exact hk) ?_))))))))))
 refine ah (aj (ai F (ak F (ah (aM ?_)))))
 refine aT (vN ks.length) results168 F ?_
 have ha:add ks key=ks++[key]:=aA hk
 rw[ha]
 refine⟨by rw[fZ hk];simp[ix],?_⟩
 rw[show(ks++[key]).zipIdx=ks.zipIdx++[(key,ks.length)] by rw[List.zipIdx_append];simp];rfl
theorem adB (base:World) [dA prog base] (bx m:Nat) (ks:List (List UInt8)) (key:List UInt8) (hb:ks.length<1000000):
  cj prog base 168 [str key,.pointer (aD bx)] [dY bx (.cells #[.map (some m)] 160 (0,0)),dO str (fun n:Nat=>Value.int .i64 (n:Int)) m ks.zipIdx] (fun v O'=>v=vN (ix key (add ks key))∧O'=[dY bx (.cells #[.map (some m)] 160 (0,0)),dO str (fun n:Nat=>Value.int .i64 (n:Int)) m (add ks key).zipIdx]):=by
 by_cases hk:key∈ks
 ·exact Rh base bx m ks key hk hb
 ·exact NW base bx m ks key hk hb
theorem Te (w:World) [dA prog w] (d:cV) (nb fb:Option Addr) (nc fc:Nat):cn prog 51 [.agg (fE d nb nc fb fc).toArray] w fun v N=> ∃b,v=.func (.func 82) #[] #[.pointer (aD b)]∧N=[oI b 25 [(vI d.vars),(vI d.start),(.slice nb d.next.length nc),(.slice fb d.a7.length fc)]]:=by
 refine aE func51 F ntmps51 F ?_
 refine aj (aq (dE (cs:=[(vI d.vars),(vI d.start),(.slice nb d.next.length nc),(.slice fb d.a7.length fc)]) (fun b1=>?_)))
 refine ak F (ah (aj (ae (dx) (ak F (ah (aM ?_))))))
 refine aT (.func (.func 82) #[] #[(.pointer (aD b1))]) results51 F ?_
 exact⟨b1,F,F⟩
theorem Tf (base:World) [dA prog base] (d:cV) (nb fb:Option Addr) (nc fc:Nat) (vs:List Value) (h:jB base d nb vs fb) (hb:d.next.length<9223372036854775807) (bx:Nat) (yv:Value) (J:Nat→List Lx.Item→Prop) (Q:List Lx.Item→Prop)
  (hy: ∀k (hk:k<d.next.length) (vb:Option Addr) (vc:Nat) (O:List Lx.Item),vs[k]? =some (.slice vb d.next[k].length vc)→Sl base vb (ints d.next[k])→J k O→
   eH prog base yv [vI (k:Int),.slice vb d.next[k].length vc] O (fun v O'=>(v=.bool true∧J (k+1) O')∨(v=.bool false∧Q O')))
  (O:List Lx.Item) (h0:J 0 O):cj prog base 82 [yv,.pointer (aD bx)] (oI bx 25 [(vI d.vars),(vI d.start),(.slice nb d.next.length nc),(.slice fb d.a7.length fc)]::O) (fun _ O'=>J d.next.length O'∨Q O'):=by
 refine aE func82 F ntmps82 F ?_
 have Py:=h.rows.1
 refine aj (ae (bt dj fR) (ae (bq 0 fp) (ae (cQ fp) (ai F (ah (aV ?_))))))
 let eh:List Lx.Item:=[oI bx 25 [(vI d.vars),(vI d.start),(.slice nb d.next.length nc),(.slice fb d.a7.length fc)]]
 refine ek (fun(k:Nat) ρ O=> ∃(O1:List Lx.Item),O=(eh++O1)∧k≤d.next.length∧J k O1∧df [(0,yv),(1,(.pointer (aD bx))),(6,(.slice nb d.next.length nc)),(7,vI (d.next.length:Int)),(8,vI (k:Int))] ρ) (fun k=>d.next.length-k) 0 ?_ ?_
 ·exact⟨O,F,bl _,h0,(.of F)⟩
 rintro k ρ O ⟨O1,rfl,hk,hJ,hH⟩
 obtain⟨gA,rfl⟩:=hH.elim
 clear hH
 refine aj (ae cU (ah (aR (aZ F (fun hc=>?_) (fun hc=>?_)))))
 ·have ln:k<d.next.length:=by omega
  obtain⟨vb,vc,g1,s1⟩:=h.rows.get ln
  refine aL (aR (aV (aj (ai F (ae (dX (i:=k) fp cZ F F (aK h.outer)) (ae (cS cL F F (aK h.outer) g1) (ak F (ak F (ah (aj (ai F (ai F (ai F ?_)))))))))))))
  have o9:=eH.under (B:=eh) (O:=(eh++O1)) (hy k ln vb vc O1 g1 s1 hJ) (gq [])
  refine aq (eu o9 F F ?_)
  clear o9
  rintro v O' ⟨O2,rfl,⟨rfl,Pk⟩|⟨rfl,hQ2⟩⟩
  ·refine ae iV ?_
   refine ah (a8 (aL ?_))
   refine dc (O':=oI bx 25 [(vI d.vars),(vI d.start),(.slice nb d.next.length nc),(.slice fb d.a7.length fc)]::O2) (gq []) ?_
   refine bg (ae (lR F F (by omega)) (ai F (ah ?_)))
   exact⟨k+1,by omega,O2,F,by omega,Pk,(.of F)⟩
  refine ae iV (ah ?_)
  refine b_ ?_
  refine aM (aB ?_)
  refine rG.zero results82 ?_
  exact⟨O2,gq eh,.inr hQ2⟩
 have L_: ¬k<d.next.length:=by omega
 refine cG ?_
 refine aB ?_
 refine rG.zero results82 ?_
 have Xn:k=d.next.length:=by omega
 subst Xn
 exact⟨O1,gq eh,.inl hJ⟩
theorem Ri (w:World) [dA prog w] (d:cV) (nb fb:Option Addr) (nc fc:Nat) (vs:List Value) (h:jB w d nb vs fb) (hv:Valid d) (cb:Option Addr) (cc:Nat) (cs:List Nat) (xH:Sl w cb (bW cs)) (oO:cs.length=d.next.length) (Fb: ∀x∈cs,x<10000):
  cn prog 119 [.agg (fE d nb nc fb fc).toArray,.slice cb d.next.length cc] w fun v N=> ∃b c,v=.slice b d.next.length c∧N=[av b c 3 1 (bW (i_ d cs))]:=by
 refine aE func119 F ntmps119 F ?_
 have hb:d.next.length<9223372036854775807:=by have:=hv.n4;omega
 have Py:=h.rows.1
 have hn4:=hv.n4
 let lV:Value:=(.slice fb d.a7.length fc)
 let jN:Value:=(.slice nb d.next.length nc)
 refine aj (aq (dE (cs:=[(vI d.vars),(vI d.start),jN,lV]) (fun b1=>?_)))
 refine aq (dE (cs:=[(.slice cb d.next.length cc)]) (fun b2=>?_))
 refine ak F (ah (aj (aq (l7 str (fun n:Nat=>Value.int .i64 (n:Int)) (fun m3=>?_)))))
 refine aq (bs B5 (fun b4=>?_))
 refine aq (cq (vs:=[(.map (some m3))]) 0 B5 ?_)
 refine ah (aj (ae (dx) (aq (bs Nq (fun b5=>?_)))))
 refine aq (cq (vs:=[(.func (.func 168) #[] #[(.pointer (aD b4))])]) 0 Nq ?_)
 refine ah (aj (ae (bq 3 cL) (ae (cQ cL) (aq (cX (m:=d.next.length) cL bF F F (by omega) (by omega) (fun b6=>?_))))))
 refine aq (bs cZ (fun b7=>?_))
 refine aq (cq (vs:=[(.slice (aD b6) d.next.length d.next.length)]) 0 cZ ?_)
 refine ah (aR (aj (ae (eN 6 dj bN) ?_)))
 let fA:Lx.Item:=oI b5 180 [(.func (.func 168) #[] #[(.pointer (aD b4))])]
 let fh:Lx.Item:=oI b7 56 [(.slice (aD b6) d.next.length d.next.length)]
 let iI:Lx.Item:=oI b4 160 [(.map (some m3))]
 have qP:=fun(w1:World) (hI:Inv w [fh,av (aD b6) d.next.length 3 1 (List.replicate d.next.length (vI 0)),fA,iI,dO str (fun n:Nat=>Value.int .i64 (n:Int)) m3 [],oI b2 56 [(.slice cb d.next.length cc)],oI b1 25 [(vI d.vars),(vI d.start),(.slice nb d.next.length nc),(.slice fb d.a7.length fc)]] w1)=>(haveI:=ef hI;Te w1 d nb fb nc fc)
 refine aq (bm S4 (aX qP) ?_)
 clear qP
 rintro v O' ⟨N,rfl,bR,rfl,rfl⟩
 refine ah (aV ?_)
 refine T.rangeFunc (first:=[]) (fG:=[(.pointer (aD bR))]) F S7 (fun yl yq Ww=>?_)
 let fe:Lx.Item:=oI b1 25 [(vI d.vars),(vI d.start),(.slice nb d.next.length nc),(.slice fb d.a7.length fc)]
 let jy:Lx.Item:=oI b2 56 [(.slice cb d.next.length cc)]
 refine cj.mono (cj.sub (O':=oI bR 25 [(vI d.vars),(vI d.start),jN,lV]::(dY yl (lp yq none)::[fh,av (aD b6) d.next.length 3 1 (List.replicate d.next.length (vI 0)),fA,iI,dO str (fun n:Nat=>Value.int .i64 (n:Int)) m3 [],jy,fe])) (aG [1,0,0,0,0,0,0,0,0]) (Tf w d nb fb nc fc vs h hb bR (.func (.yield yl) #[] #[]) (fun k O=> ∃(xs:List Nat) (ks:List (List UInt8)),O=dY yl (lp yq none)::[fh,av (aD b6) d.next.length 3 1 (bW xs),fA,iI,dO str (fun n:Nat=>Value.int .i64 (n:Int)) m3 ks.zipIdx,jy,fe]∧k≤d.next.length∧xs.length=d.next.length∧ks=dd ((jl d cs).take k)∧(∀s,s<k→xs[s]? =some (ix (yN d cs s) ks))) (fun _=>False) ?_ _ ?_)) ?_
 ·intro k gw vb vc O g1 s1 hJ
  obtain⟨xs,ks,rfl,hk,Ft,oQ,lj⟩:=hJ
  refine eH.yield Ww F F ?_
  have hkc:k<cs.length:=by omega
  have qy:d.next[k].length=2^d.vars.toNat:=hv.len _ (aN gw)
  have OS:d.next[k].length≤64:=by
   rw[qy];have:=hv.v6;have:=hv.v0
   exact bo (bV (by omega) (show d.vars.toNat≤6 by omega)) (by decide)
  have adD:ks.length<1000000:=by
   have h1:=vw ((jl d cs).take k)
   have h2:((jl d cs).take k).length≤d.next.length:=by rw[cw];simp[jl];omega
   rw[oQ];omega
  have uv: ∀j (hj:j<d.next[k].length),0≤d.next[k][j]∧d.next[k][j].toNat<cs.length:=fun j hj=>by have:=hv.ok _ (aN gw) _ (aN hj);omega
  have Xr:cs[k]<10000:=Fb _ (aN hkc)
  have Mm: ∀x∈gj cs d.next[k],x<10000:=Rj Fb
  refine aj (ak F (ah (bg (ak F (ah (aV (aR (T.fq 5 1 ?_))))))))
  refine bg (ae (bq 6 cL) (ai F (ae (dX (i:=k) cL bF F F (aK xH)) (ae (cS ey F F (aK xH) iw) ?_))))
  let gP:Lx.Item:=av (aD b6) d.next.length 3 1 (bW xs)
  have NX:=cj.under (B:=[fh,gP,fA,iI,dO str (fun n:Nat=>Value.int .i64 (n:Int)) m3 ks.zipIdx,jy,fe]) (O:=[av none 0 5 1 (dn []),fh,gP,fA,iI,dO str (fun n:Nat=>Value.int .i64 (n:Int)) m3 ks.zipIdx,jy,fe]) (Uy w none 0 0 0 cs[k] [] F (Nat.lt_trans Xr (by decide)) (by omega)) (aG [0,0,0,0,0,0,0,0])
  refine aq (bm BI NX ?_)
  clear NX
  rintro v O' ⟨A1,rfl,kb,kc,rfl,rfl⟩
  refine ak F (ah (aR (aj (ai F (ae (cQ cL) (ai F (ah (aV ?_))))))))
  refine ek (fun(j:Nat) ρ O=> ∃(kb:Option Addr) (kc m:Nat),O=[av kb kc 5 1 (dn (jg cs[k] (List.take j (gj cs d.next[k])))),fh,gP,fA,iI,dO str (fun n:Nat=>Value.int .i64 (n:Int)) m3 ks.zipIdx,jy,fe]∧j≤d.next[k].length∧m=(jg cs[k] (List.take j (gj cs d.next[k]))).length∧df [(0,(.agg #[(vI d.vars),(vI d.start),jN,lV])),(1,(.slice cb d.next.length cc)),(2,(.pointer (aD b1))),(3,(.pointer (aD b2))),(4,nS),(5,(.pointer (aD b4))),(6,(.pointer (aD b5))),(7,(.pointer (aD b7))),(8,vI (k:Int)),(9,(.slice vb d.next[k].length vc)),(10,(.slice kb m kc)),(27,(.slice vb d.next[k].length vc)),(28,vI (d.next[k].length:Int)),(29,vI (j:Int))] ρ) (fun j=>d.next[k].length-j) 0 ?_ ?_
  ·refine⟨kb,kc,_,?_,bl _,?_,(.of F)⟩
   ·rw[show jg cs[k] (List.take 0 (gj cs d.next[k]))=[]++Lib.decDigits cs[k] by simp[jg,jK]]
    rfl
   ·simp[jg,jK]
  rintro j ρ O ⟨kb,kc,m,rfl,hj,hm,hH⟩
  obtain⟨gA,rfl⟩:=hH.elim
  clear hH
  have hm9:m≤324:=by
   have:=NY Xr (fun x hx=>Mm x (List.mem_of_mem_take hx): ∀x∈List.take j (gj cs d.next[k]),x<10000)
   rw[cw]at this;omega
  refine aj (ae cU (ah (aR (aZ F (fun hc=>?_) (fun hc=>?_)))))
  ·have iW:j<d.next[k].length:=by omega
   have htj:=(uv j iW).2
   refine aL (aR (aV (aj (ae (dX (i:=j) cL bF F F (aK s1)) (ae (cS ey F F (aK s1) gL) (ak F (ah ?_)))))))
   refine T.ds [jy] [(0,0),(3,0),(4,0),(5,0),(6,0),(1,1),(2,1),(7,2),(8,2)] (aG [6]) ?_
   refine aw F aI (aw F (bq 0 cL) (aw F aI (aw F (G3 (i:=d.next[k][j]) cL bF F F (aK xH) (uv j iW).1 (oO▸(uv j iW).2) (by rw[ar];exact(uv j iW).2)) (aw F (cS ey F F (aK xH) (iw (uv j iW).2)) ?_))))
   refine cH F F (cR (v:=.int .u8 32) kC eD F F F (fun b8=>⟨aG [7],?_⟩))
   refine cH F F (dq 1 kC kC eD F F F F (by rw[ar,←hm,Nat.mul_one]) (by decide) (Src.row (j:=0) F (by simp)) (by simp[fF]) (by omega) (by decide) (by decide) (fun b9 Tg=>⟨aG [7],?_⟩))
   have nK:=cj.under (B:=[av (aD b8) 1 5 1 [.int .u8 32],fh,gP,fA,iI,dO str (fun n:Nat=>Value.int .i64 (n:Int)) m3 ks.zipIdx,jy,fe]) (O:=[av (aD b8) 1 5 1 [.int .u8 32],av b9 Tg 5 1 ((dn (jg cs[k] (List.take j (gj cs d.next[k]))))++[.int .u8 32]),fh,gP,fA,iI,dO str (fun n:Nat=>Value.int .i64 (n:Int)) m3 ks.zipIdx,jy,fe]) (Uy w b9 Tg Tg (m+1) cs[d.next[k][j].toNat] (jg cs[k] (List.take j (gj cs d.next[k]))++[32]) (by rw[aP,←hm];rfl) (Nat.lt_trans (Fb _ (aN (uv j iW).2)) (by decide)) (by omega)) (by rw[EA];exact(aG [1,0,0,0,0,0,0,0,0]))
   refine cy F F (bm BI nK ?_)
   clear nK
   rintro v O' ⟨A1,rfl,kb3,kc3,rfl,rfl⟩
   refine eR (O':=[av kb3 kc3 5 1 (dn (jg cs[k] (List.take j (gj cs d.next[k]))++[32]++Lib.decDigits cs[d.next[k][j].toNat])),fh,gP,fA,iI,dO str (fun n:Nat=>Value.int .i64 (n:Int)) m3 ks.zipIdx,jy,fe]) (aG [0,1,1,1,1,1,1,1]) ?_
   refine cy F F (eK F F cx ?_)
   refine cA ?_
   refine bg (ae (lR F F (by omega)) (ai F (ah ?_)))
   have zL:=NZ (a:=cs[k]) iW (uv j iW).2
   refine⟨j+1,by omega,kb3,kc3,_,by rw[zL],by omega,?_,(.of F)⟩
   rw[zL,aP,aP,←hm];rfl
  have Ha: ¬j<d.next[k].length:=by omega
  refine cG ?_
  have hjf:j=d.next[k].length:=by omega
  have Th:List.take j (gj cs d.next[k])=gj cs d.next[k]:=br (by simp[gj];omega)
  have hKE:yN d cs k=jg cs[k] (gj cs d.next[k]):=Rk gw hkc
  let pv:Lx.Item:=av kb kc 5 1 (dn (jg cs[k] (List.take j (gj cs d.next[k]))))
  refine T.ds [pv,fh,gP,fA,iI,jy,fe] [(0,0),(1,0),(2,0),(3,0),(4,0),(5,1),(6,0),(7,2)] (aG [0,0,0,0,0,1,1]) ?_
  refine aw F (bq 1 cL) (aw F aI (aw F (bq 3 aaG) (aw F aI (aw F (CV (l:=jg cs[k] (List.take j (gj cs d.next[k]))) kC wh gH F (mG 0) hm.symm) ?_))))
  have aaH:=bU (first:=[]) (args:=[str (jg cs[k] (List.take j (gj cs d.next[k])))]) (fG:=[(.pointer (aD b4))]) VW (cj.under (B:=[pv,fh,gP,fA,jy,fe]) (O:=[pv,fh,gP,fA,iI,dO str (fun n:Nat=>Value.int .i64 (n:Int)) m3 ks.zipIdx,jy,fe]) (adB w b4 m3 ks (jg cs[k] (List.take j (gj cs d.next[k]))) adD) (aG [4,4,0,0,0,0,0,0]))
  refine cH F F (eu aaH F F ?_)
  clear aaH
  rintro v O' ⟨A1,rfl,rfl,rfl⟩
  refine⟨aG [2,2,2,2,0,1,1],?_⟩
  refine eR (O':=[pv,fh,gP,fA,iI,dO str (fun n:Nat=>Value.int .i64 (n:Int)) m3 ((add ks (jg cs[k] (List.take j (gj cs d.next[k])))).zipIdx),jy,fe]) (aG [2,2,2,2,0,0,0,0]) ?_
  refine aw F (dX (i:=k) cL bF F F (dT (mG 2))) ?_
  refine cy F F (n7 (j:=k) (v:=vI ((ix (jg cs[k] (List.take j (gj cs d.next[k]))) (add ks (jg cs[k] (List.take j (gj cs d.next[k])))):Nat):Int)) (vs:=[(vI ((ix (jg cs[k] (List.take j (gj cs d.next[k]))) (add ks (jg cs[k] (List.take j (gj cs d.next[k])))):Nat):Int))]) (cs:=bW xs) 2 bF F F F F F (by simp) F (by first|(simp;omega)|(simp_all;omega)) ?_)
  let oE:Lx.Item:=av (aD b6) d.next.length 3 1 (bW (xs.set k (ix (jg cs[k] (List.take j (gj cs d.next[k]))) (add ks (jg cs[k] (List.take j (gj cs d.next[k])))))))
  refine eR (O':=[pv,fh,oE,fA,iI,dO str (fun n:Nat=>Value.int .i64 (n:Int)) m3 ((add ks (jg cs[k] (List.take j (gj cs d.next[k])))).zipIdx),jy,fe]) (by rw[show eZ (bW xs) k [(vI ((ix (jg cs[k] (List.take j (gj cs d.next[k]))) (add ks (jg cs[k] (List.take j (gj cs d.next[k])))):Nat):Int))]=bW (xs.set k (ix (jg cs[k] (List.take j (gj cs d.next[k]))) (add ks (jg cs[k] (List.take j (gj cs d.next[k]))))))from by simp[eZ]];exact ck (aY _)) ?_
  refine eR (O':=[fh,oE,fA,iI,dO str (fun n:Nat=>Value.int .i64 (n:Int)) m3 ((add ks (jg cs[k] (List.take j (gj cs d.next[k])))).zipIdx),jy,fe]) (aG [1,1,1,1,1,1,1]) ?_
  refine cA ?_
  refine .inl ⟨F,xs.set k (ix (jg cs[k] (List.take j (gj cs d.next[k]))) (add ks (jg cs[k] (List.take j (gj cs d.next[k]))))),add ks (jg cs[k] (List.take j (gj cs d.next[k]))),F,by omega,by simp[Ft],?_,?_⟩
  ·rw[Gu gw,Ce,←oQ,hKE,Th]
  ·intro s hs
   by_cases e:s=k
   ·subst e;rw[List.getElem?_set_self (by omega),hKE,Th]
   ·rw[List.getElem?_set_ne (fun h=>e h.symm),lj s (by omega)]
    refine au some (ir (jY _ _) ?_).symm
    rw[oQ];exact ku.2 (N0 (by omega) (by omega))
 ·refine⟨List.replicate d.next.length 0,[],?_,bl _,by simp,by simp[dd],fun s hs=>absurd hs (by omega)⟩
  simp
 rintro v O' (⟨xs,ks,rfl,hk,Ft,oQ,lj⟩|hF)
 rotate_left
 ·exact hF.elim
 refine⟨none,_,F,?_⟩
 refine aj (ae (bq 0 cL) (ak F (ah (aM (aB ?_)))))
 refine aT (.slice (aD b6) d.next.length d.next.length) results119 F ?_
 have hx:xs=i_ d cs:=by
  apply List.ext_getElem?
  intro s
  by_cases hs:s<d.next.length
  ·rw[lj s hs,oQ,br (by simp[jl])];simp[i_,jl,hs]
  ·rw[bY (by omega),bY (by simp[i_,jl];omega)]
 exact⟨[av (aD b6) d.next.length 3 1 (bW xs)],(aG [1]),_,_,F,by rw[hx]⟩
theorem Wx (w:World) [dA prog w] (d:cV) (nb fb:Option Addr) (nc fc:Nat) (vs:List Value) (h:jB w d nb vs fb) (hv:Valid d):
  cn prog 118 [.agg (fE d nb nc fb fc).toArray] w fun v N=> ∃b c,v=.slice b d.next.length c∧N=[av b c 3 1 (bW (mN d))]:=by
 refine aE func118 F ntmps118 F ?_
 have hn4:=hv.n4
 have TY:=hv.n0
 have ug:=hv.fin
 refine aj (aq (dE (cs:=[(vI d.vars),(vI d.start),(.slice nb d.next.length nc),(.slice fb d.a7.length fc)]) (fun b1=>?_)))
 refine ak F (ah (aj (ae (bt dj fR) (ae (bq 0 fp) (ae (cQ fp) (aq (cX (m:=d.next.length) cL bF F F (by omega) (by omega) (fun b2=>?_))))))))
 refine ak F (ah (aR (aj (ai F (ae (cQ cL) (ai F (ah (aV ?_))))))))
 refine ek (fun(k:Nat) ρ O=> ∃(xs:List Nat),O=[av (aD b2) d.next.length 3 1 (bW xs),oI b1 25 [(vI d.vars),(vI d.start),(.slice nb d.next.length nc),(.slice fb d.a7.length fc)]]∧k≤d.next.length∧xs.length=d.next.length∧(∀s,s<k→xs[s]? =some (if d.a7.getD s false≠d.a7.getD 0 false then 1 else 0))∧(∀s,k≤s→s<d.next.length→xs[s]? =some 0)∧df [(0,(.agg #[(vI d.vars),(vI d.start),(.slice nb d.next.length nc),(.slice fb d.a7.length fc)])),(1,(.pointer (aD b1))),(2,nS),(3,(.slice (aD b2) d.next.length d.next.length)),(10,vI (d.next.length:Int)),(11,vI (k:Int))] ρ) (fun k=>d.next.length-k) 0 ?_ ?_
 ·refine⟨List.replicate d.next.length 0,by simp,bl _,by simp,fun s hs=>absurd hs (by omega),fun s _ hs=>by simp[hs],(.of F)⟩
 rintro k ρ O ⟨xs,rfl,hk,Ft,N1,N2,hH⟩
 obtain⟨gA,rfl⟩:=hH.elim
 clear hH
 refine aj (ae cU (ah (aR (aZ F (fun hc=>?_) (fun hc=>?_)))))
 ·have Dz:k<d.next.length:=by omega
  have Wy:k<d.a7.length:=by omega
  have h0f:0<d.a7.length:=by omega
  have hkx:k<xs.length:=by omega
  refine aL (aR (aV (aj (ai F (ak F (ah (aR ?_)))))))
  refine T.ds [oI b1 25 [(vI d.vars),(vI d.start),(.slice nb d.next.length nc),(.slice fb d.a7.length fc)]] [(0,0),(1,0),(2,0),(3,0),(4,0),(5,0),(6,0),(7,0),(8,0),(9,0)] (aG [1]) ?_
  refine aw F (bt dj dH) (aw F (bq 0 eI) (aw F aI (aw F (dX (i:=k) eI fC F F (aK h.a7)) (aw F (cS BB F F (aK h.a7) jE) (aw F (bt dj dH) (aw F (bq 0 eI) (aw F (dX (i:=0) eI fC F F (aK h.a7)) (aw F (cS BB F F (aK h.a7) jE) (aw F (K8 BB F F) ?_)))))))))
  refine cA ?_
  refine aZ (p:= ¬d.a7[k]=d.a7[0]) (au Value.bool (by cases d.a7[k]<;>cases d.a7[0]<;>rfl)) (fun hc=>?_) (fun hc=>?_)
  ·refine bg ?_
   refine ai F (ai F (ae (dX (i:=k) cL bF F F (dT (mG 0))) (aq (n7 (j:=k) (v:=vI 1) (vs:=[(vI 1)]) (cs:=bW xs) 0 bF F F F F F (by simp) F (by first|(simp;omega)|(simp_all;omega)) ?_))))
   refine dM (O':=[av (aD b2) d.next.length 3 1 (bW (xs.set k 1)),oI b1 25 [(vI d.vars),(vI d.start),(.slice nb d.next.length nc),(.slice fb d.a7.length fc)]]) (by rw[show eZ (bW xs) k [(vI 1)]=bW (xs.set k 1)from by simp[eZ]];exact ck (aY _)) ?_
   refine ah (bg (ae (lR F F (by omega)) (ai F (ah ?_))))
   refine⟨k+1,by omega,xs.set k 1,F,by omega,by simp[Ft],fun s hs=>?_,fun s h1 h2=>?_,(.of F)⟩
   ·by_cases e:s=k
    ·subst e;rw[List.getElem?_set_self (by omega)];simp[Wy,h0f,hc]
    ·rw[List.getElem?_set_ne (fun h=>e h.symm)];exact N1 s (by omega)
   ·rw[List.getElem?_set_ne (by omega)];exact N2 s (by omega) h2
  refine aL (bg (ae (lR F F (by omega)) (ai F (ah ?_))))
  refine⟨k+1,by omega,xs,F,by omega,Ft,fun s hs=>?_,fun s h1 h2=>N2 s (by omega) h2,(.of F)⟩
  by_cases e:s=k
  ·subst e;rw[N2 _ (aS _) Dz];simp[Wy,h0f,Classical.not_not.1 hc]
  ·exact N1 s (by omega)
 have Sx: ¬k<d.next.length:=by omega
 refine cG ?_
 refine aj (ai F (ak F (ah (aM (aB ?_)))))
 refine aT (.slice (aD b2) d.next.length d.next.length) results118 F ?_
 have hx:xs=mN d:=by
  apply List.ext_getElem?
  intro s
  by_cases hs:s<d.next.length
  ·rw[N1 s (by omega)];simp[mN,hs]
  ·rw[bY (by omega),bY (by simp[mN];omega)]
 exact⟨[av (aD b2) d.next.length 3 1 (bW xs)],(aG [0]),_,_,F,by rw[hx]⟩
theorem wE (w:World) [dA prog w] (b1 b2:Option Addr) (c1 c2 n:Nat) (xs ys:List Nat) (h1:Sl w b1 (bW xs)) (h2:Sl w b2 (bW ys)) (hx:xs.length=n) (hy:ys.length=n) (hb:n<9223372036854775807):
  cn prog 120 [.slice b1 n c1,.slice b2 n c2] w fun v N=>v=.bool (decide (xs=ys))∧N=[]:=by
 refine aE func120 F ntmps120 F ?_
 refine aj (ak F (ah (aR (aj (ai F (ae (cQ cL) (ai F (ae (cQ cL) (ae dW (ah (aZ F (fun hc=>?_) (fun hc=>?_))))))))))))
 ·exact absurd hc (by omega)
 have uo: ¬n≠n:=by omega
 refine aL (aR (aj (ai F (ae (cQ cL) (ai F (ah (aV ?_)))))))
 refine ek (fun(k:Nat) ρ O=>O=[]∧k≤n∧xs.take k=ys.take k∧df [(0,(.slice b1 n c1)),(1,(.slice b2 n c2)),(12,vI (n:Int)),(13,vI (k:Int))] ρ) (fun k=>n-k) 0 ?_ ?_
 ·exact⟨F,bl _,F,⟨F,F,F,F,trivial⟩⟩
 rintro k ρ O ⟨rfl,hk,he,hH⟩
 obtain⟨gA,rfl⟩:=hH.elim
 clear hH
 refine aj (ae cU (ah (aR (aZ F (fun hc=>?_) (fun hc=>?_)))))
 ·have o_:k<n:=by omega
  have hkx:k<xs.length:=by omega
  have hky:k<ys.length:=by omega
  refine aL (aR (aV (aj (ai F (ak F (ah (aR ?_)))))))
  refine fS [(0,0),(1,0),(2,0),(3,0),(4,0),(5,0),(6,0),(7,0),(8,0)] ?_
  refine aw F aI (aw F aI (aw F (dX (i:=k) cL bF F F (aK h1)) (aw F (cS ey F F (aK h1) iw) (aw F aI (aw F aI (aw F (dX (i:=k) cL bF F F (aK h2)) (aw F (cS ey F F (aK h2) iw) (aw F dW ?_))))))))
  refine cA ?_
  refine aZ (p:= ¬xs[k]=ys[k]) (au Value.bool (decide_eq_decide.2 (by omega))) (fun hc=>?_) (fun hc=>?_)
  ·have lS:xs[k]≠ys[k]:=by omega
   refine aj (ak F (ah (aM ?_)))
   refine aT (.bool false) results120 F ?_
   exact⟨au Value.bool (am (fun e=>hc (by subst e;rfl))).symm,F⟩
  have CI: ¬xs[k]≠ys[k]:=by omega
  refine aL (bg (ae (lR F F (by omega)) (ai F (ah ?_))))
  refine⟨k+1,by omega,F,by omega,?_,⟨F,F,F,F,trivial⟩⟩
  rw[aH hkx,aH hky,he]
  exact au _ (au (fun z=>[z]) (Classical.not_not.1 hc))
 have wq: ¬k<n:=by omega
 refine cG ?_
 refine aj (ak F (ah (aM ?_)))
 refine aT (.bool true) results120 F ?_
 exact⟨au Value.bool (ax (show xs=ys by rw[br (by omega),br (by omega)]at he;exact he)).symm,F⟩
theorem J1 (w:World) [dA prog w] (d:cV) (nb fb:Option Addr) (nc fc:Nat) (vs:List Value) (h:jB w d nb vs fb) (hb:d.next.length<9223372036854775807) (w7: ∀r∈d.next,r.length<9223372036854775807) (zH:d.a7.length<9223372036854775807) (he:dL d≠0) (k:Int):
  cn prog 81 [.agg (fE d nb nc fb fc).toArray,vI k] w fun v N=>v=.tuple #[nS,vI (dL d:Int)]∧N=[]:=by
 refine aE func81 F ntmps81 F ?_
 refine aj (aq (dE (cs:=[(vI d.vars),(vI d.start),(.slice nb d.next.length nc),(.slice fb d.a7.length fc)]) (fun b1=>?_)))
 refine ak F (ak F (ah (aR (aj (ae (eN 0 dj bN) ?_)))))
 have lB:=fun(w1:World) (hI:Inv w [oI b1 25 [(vI d.vars),(vI d.start),(.slice nb d.next.length nc),(.slice fb d.a7.length fc)]] w1)=>(haveI:=ef hI;jo w1 d nb fb nc fc vs (hI.CU h) hb w7 zH)
 refine aq (bm wv (aX lB) ?_)
 clear lB
 rintro v O' ⟨N,rfl,rfl,rfl⟩
 refine ak F (ah (aj (ai F (ae (aC dW (ax (by omega))) (ah ?_)))))
 refine b_ ?_
 refine aj (ai F (ak F (ak F (ah (aM (aB ?_))))))
 refine de nS (vI (dL d:Int)) results81 F F ?_
 exact⟨[],ck (cr _),F,F⟩
theorem N3 (w:World) [dA prog w] (d:cV) (nb fb:Option Addr) (nc fc:Nat) (vs:List Value) (h:jB w d nb vs fb) (hv:Valid d) (hn:d.next.length<10000) (k:Int) (qj:k≤9223372036854775807):
  cn prog 81 [.agg (fE d nb nc fb fc).toArray,vI k] w fun v N=> ∃b c,v=.tuple #[.slice b d.next.length c,vI 0]∧N=[av b c 3 1 (bW (iq d k.toNat))]:=by
 refine aE func81 F ntmps81 F ?_
 have he:=eF.2 hv
 have hb:d.next.length<9223372036854775807:=by omega
 have w7: ∀r∈d.next,r.length<9223372036854775807:=hv.xE
 have zH:d.a7.length<9223372036854775807:=by have:=hv.fin;omega
 refine aj (aq (dE (cs:=[(vI d.vars),(vI d.start),(.slice nb d.next.length nc),(.slice fb d.a7.length fc)]) (fun b1=>?_)))
 refine ak F (ak F (ah (aR (aj (ae (eN 0 dj bN) ?_)))))
 have lB:=fun(w1:World) (hI:Inv w [oI b1 25 [(vI d.vars),(vI d.start),(.slice nb d.next.length nc),(.slice fb d.a7.length fc)]] w1)=>(haveI:=ef hI;jo w1 d nb fb nc fc vs (hI.CU h) hb w7 zH)
 refine aq (bm wv (aX lB) ?_)
 clear lB
 rintro v O' ⟨N,rfl,rfl,rfl⟩
 rw[he]
 refine ak F (ah (aj (ai F (ae dW (ah (a8 (aL (aj (ae (eN 0 dj bN) ?_)))))))))
 have um:=fun(w1:World) (hI:Inv w [oI b1 25 [(vI d.vars),(vI d.start),(.slice nb d.next.length nc),(.slice fb d.a7.length fc)]] w1)=>(haveI:=ef hI;Wx w1 d nb fb nc fc vs (hI.CU h) hv)
 refine aq (bm VM (aX um) ?_)
 clear um
 rintro v O' ⟨N,rfl,b0,c0,rfl,rfl⟩
 refine ak F (ah (aR (aj (ai F (ai F (ah (aV ?_)))))))
 refine ek (fun(i:Nat) ρ O=> ∃(b:Option Addr) (c:Nat),O=[av b c 3 1 (bW (iq d i)),oI b1 25 [(vI d.vars),(vI d.start),(.slice nb d.next.length nc),(.slice fb d.a7.length fc)]]∧i≤k.toNat∧df [(0,(.agg #[(vI d.vars),(vI d.start),(.slice nb d.next.length nc),(.slice fb d.a7.length fc)])),(1,vI k),(2,(.pointer (aD b1))),(4,nS),(5,vI 0),(6,vN 0),(7,(.slice b d.next.length c)),(16,vI k),(17,vI (i:Int))] ρ) (fun i=>k.toNat-i) 0 ?_ ?_
 ·exact⟨b0,c0,F,bl _,(.of F)⟩
 rintro i ρ O ⟨b,c,rfl,W_,hH⟩
 obtain⟨gA,rfl⟩:=hH.elim
 clear hH
 refine aj (ae cU (ah (aR (aZ F (fun hc=>?_) (fun hc=>?_)))))
 ·have hik:i<k.toNat:=by omega
  refine aL (aR (aV (aj (ae (eN 1 dj bN) (ai F ?_)))))
  have aaI:=fun(w1:World) (hI:Inv w [av b c 3 1 (bW (iq d i)),oI b1 25 [(vI d.vars),(vI d.start),(.slice nb d.next.length nc),(.slice fb d.a7.length fc)]] w1)=>(haveI:=ef hI;Ri w1 d nb fb nc fc vs (hI.CU h) hv b c (iq d i) (hI.gV (mG 0)) (fD d i) (N4 hn i))
  refine aq (bm VN (aX aaI) ?_)
  clear aaI
  rintro v O' ⟨N,rfl,b9,c9,rfl,rfl⟩
  refine ak F (ah (aR (aj (ai F (ai F ?_)))))
  by_cases zL:i_ d (iq d i)=iq d i
  ·have yk:=fun(w1:World) (hI:Inv w [av b9 c9 3 1 (bW (i_ d (iq d i))),av b c 3 1 (bW (iq d i)),oI b1 25 [(vI d.vars),(vI d.start),(.slice nb d.next.length nc),(.slice fb d.a7.length fc)]] w1)=>(haveI:=ef hI;wE w1 b9 b c9 c d.next.length (i_ d (iq d i)) (iq d i) (hI.gV (mG 0)) (hI.gV (mG 1)) (fD d (i+1)) (fD d i) (by omega))
   refine aq (bm Nu (aX yk) ?_)
   clear yk
   rintro v O' ⟨N,rfl,rfl,rfl⟩
   rw[ax zL]
   refine ah ?_
   refine b_ ?_
   refine cG ?_
   refine aj (ai F (ak F (ak F (ah (aM (aB ?_))))))
   refine de (.slice b d.next.length c) (vI 0) results81 F F ?_
   have hx:iq d k.toNat=iq d i:=tn zL _ W_
   exact⟨[av b c 3 1 (bW (iq d i))],(aG [1]),_,_,F,by rw[hx]⟩
  have yk:=fun(w1:World) (hI:Inv w [av b9 c9 3 1 (bW (i_ d (iq d i))),av b c 3 1 (bW (iq d i)),oI b1 25 [(vI d.vars),(vI d.start),(.slice nb d.next.length nc),(.slice fb d.a7.length fc)]] w1)=>(haveI:=ef hI;wE w1 b9 b c9 c d.next.length (i_ d (iq d i)) (iq d i) (hI.gV (mG 0)) (hI.gV (mG 1)) (fD d (i+1)) (fD d i) (by omega))
  refine aq (bm Nu (aX yk) ?_)
  clear yk
  rintro v O' ⟨N,rfl,rfl,rfl⟩
  rw[am zL]
  refine ah (a8 (aL (bg (ai F (ak F (ah (bg (ae (lR F F (by omega)) (ai F ?_)))))))))
  refine dM (O':=[av b9 c9 3 1 (bW (i_ d (iq d i))),oI b1 25 [(vI d.vars),(vI d.start),(.slice nb d.next.length nc),(.slice fb d.a7.length fc)]]) (aG [0,1]) ?_
  refine ah ?_
  exact⟨i+1,by omega,b9,c9,F,by omega,(.of F)⟩
 refine cG ?_
 refine aj (ai F (ak F (ak F (ah (aM (aB ?_))))))
 refine de (.slice b d.next.length c) (vI 0) results81 F F ?_
 have hx:iq d k.toNat=iq d i:=by rw[show k.toNat=i by omega]
 exact⟨[av b c 3 1 (bW (iq d i))],(aG [0]),_,_,F,by rw[hx]⟩
theorem Gv (w:World) [dA prog w] (d:cV) (nb fb:Option Addr) (nc fc:Nat) (vs:List Value) (h:jB w d nb vs fb) (hb:d.next.length<9223372036854775807) (w7: ∀r∈d.next,r.length<9223372036854775807) (zH:d.a7.length<9223372036854775807) (he:dL d≠0):
  cn prog 50 [.agg (fE d nb nc fb fc).toArray] w fun v N=>v=.tuple #[nS,vI (dL d:Int)]∧N=[]:=by
 refine aE func50 F ntmps50 F ?_
 refine aj (aq (dE (cs:=[(vI d.vars),(vI d.start),(.slice nb d.next.length nc),(.slice fb d.a7.length fc)]) (fun b1=>?_)))
 refine ak F (ak F (ah (aj (ae (eN 0 dj bN) (ae (bt dj fR) (ae (bq 0 fp) (ae (cQ fp) ?_)))))))
 have AH:=fun(w1:World) (hI:Inv w [oI b1 25 [(vI d.vars),(vI d.start),(.slice nb d.next.length nc),(.slice fb d.a7.length fc)]] w1)=>(haveI:=ef hI;J1 w1 d nb fb nc fc vs (hI.CU h) hb w7 zH he d.next.length)
 refine aq (bm S6 (aX AH) ?_)
 clear AH
 rintro v O' ⟨N,rfl,rfl,rfl⟩
 refine ae (bI (vs:=_)) (ae (bI (vs:=_)) (ak F (ak F (ah (aM (aB ?_))))))
 refine de nS (vI (dL d:Int)) results50 F F ?_
 exact⟨[],ck (cr _),F,F⟩
theorem J2 (w:World) [dA prog w] (d:cV) (nb fb:Option Addr) (nc fc:Nat) (vs:List Value) (h:jB w d nb vs fb) (hv:Valid d) (hn:d.next.length<10000):
  cn prog 50 [.agg (fE d nb nc fb fc).toArray] w fun v N=> ∃b c,v=.tuple #[.slice b d.next.length c,vI 0]∧N=[av b c 3 1 (bW (iq d d.next.length))]:=by
 refine aE func50 F ntmps50 F ?_
 refine aj (aq (dE (cs:=[(vI d.vars),(vI d.start),(.slice nb d.next.length nc),(.slice fb d.a7.length fc)]) (fun b1=>?_)))
 refine ak F (ak F (ah (aj (ae (eN 0 dj bN) (ae (bt dj fR) (ae (bq 0 fp) (ae (cQ fp) ?_)))))))
 have AH:=fun(w1:World) (hI:Inv w [oI b1 25 [(vI d.vars),(vI d.start),(.slice nb d.next.length nc),(.slice fb d.a7.length fc)]] w1)=>(haveI:=ef hI;N3 w1 d nb fb nc fc vs (hI.CU h) hv hn d.next.length (by omega))
 refine aq (bm S6 (aX AH) ?_)
 clear AH
 rintro v O' ⟨N,rfl,b,c,rfl,rfl⟩
 refine ae (bI (vs:=_)) (ae (bI (vs:=_)) (ak F (ak F (ah (aM (aB ?_))))))
 refine de (.slice b d.next.length c) (vI 0) results50 F F ?_
 exact⟨[av b c 3 1 (bW (iq d d.next.length))],(aG [0]),_,_,F,F⟩
theorem Ol (base:World) [dA prog base] (bx m:Nat) (ks:List (List UInt8)) (key:List UInt8) (hk:key∈ks) (hb:ks.length<1000000):
  cj prog base 124 [str key,.pointer (aD bx)] [dY bx (.cells #[.map (some m)] 160 (0,0)),dO str (fun n:Nat=>Value.int .i64 (n:Int)) m ks.zipIdx] (fun v O'=>v=vN (ix key (add ks key))∧O'=[dY bx (.cells #[.map (some m)] 160 (0,0)),dO str (fun n:Nat=>Value.int .i64 (n:Int)) m (add ks key).zipIdx]):=by
 refine aE func124 F ntmps124 F ?_
 refine aj (ak F (ah (aj (ae (bq 0 iO) (ai F (ae (bL (jT (a:=key) iO bF (gG.string wh) F F (mG 1)) (v':=(.tuple #[vN (ix key ks),.bool true])) (by rw[lD];simp[hk])) (ai F (ae (bI (vs:=_)) (ae (bI (vs:=_)) (ak F (ak F (ah (aR (aj (ai F (ae iV (ah ?_)))))))))))))))))
 refine a8 (aL (aj (ai F (ak F (ah (aM ?_))))))
 refine aT (vN (ix key ks)) results124 F ?_
 have ha:add ks key=ks:=aJ hk
 rw[ha];exact⟨F,F⟩
theorem Ke (base:World) [dA prog base] (bx m:Nat) (ks:List (List UInt8)) (key:List UInt8) (hk:key∉ks) (hb:ks.length<1000000):
  cj prog base 124 [str key,.pointer (aD bx)] [dY bx (.cells #[.map (some m)] 160 (0,0)),dO str (fun n:Nat=>Value.int .i64 (n:Int)) m ks.zipIdx] (fun v O'=>v=vN (ix key (add ks key))∧O'=[dY bx (.cells #[.map (some m)] 160 (0,0)),dO str (fun n:Nat=>Value.int .i64 (n:Int)) m (add ks key).zipIdx]):=by
 refine aE func124 F ntmps124 F ?_
 refine aj (ak F (ah (aj (ae (bq 0 iO) (ai F (ae (bL (jT (a:=key) iO bF (gG.string wh) F F (mG 1)) (v':=(.tuple #[vI 0,.bool false])) (by rw[lD];simp[hk])) (ai F (ae (bI (vs:=_)) (ae (bI (vs:=_)) (ak F (ak F (ah (aR (aj (ai F (ae iV (ah ?_)))))))))))))))))
 refine b_ ?_
 refine aj (ae (bq 0 iO) (ae (bL (qC iO F (mG 1)) (v':=vN ks.length) (by simp)) (ak F (ah (bg (ae (bq 0 iO) (ai F (ai F (aq (qE (a:=key) (v:=ks.length) 1 iO (gG.string wh) F F F F (by rw[nz];exact hk) ?_))))))))))
 refine ah (aj (ai F (ak F (ah (aM ?_)))))
 refine aT (vN ks.length) results124 F ?_
 have ha:add ks key=ks++[key]:=aA hk
 rw[ha]
 refine⟨by rw[fZ hk];simp[ix],?_⟩
 rw[show(ks++[key]).zipIdx=ks.zipIdx++[(key,ks.length)] by rw[List.zipIdx_append];simp];rfl
theorem aa3 (base:World) [dA prog base] (bx m:Nat) (ks:List (List UInt8)) (key:List UInt8) (hb:ks.length<1000000):
  cj prog base 124 [str key,.pointer (aD bx)] [dY bx (.cells #[.map (some m)] 160 (0,0)),dO str (fun n:Nat=>Value.int .i64 (n:Int)) m ks.zipIdx] (fun v O'=>v=vN (ix key (add ks key))∧O'=[dY bx (.cells #[.map (some m)] 160 (0,0)),dO str (fun n:Nat=>Value.int .i64 (n:Int)) m (add ks key).zipIdx]):=by
 by_cases hk:key∈ks
 ·exact Ol base bx m ks key hk hb
 ·exact Ke base bx m ks key hk hb
theorem Om (base:World) [dA prog base] (tr:List UInt8→Nat→List UInt8) (L B:Nat) (start:List UInt8) (fv:Value) (J:List (List UInt8)→List Lx.Item→Prop) (Good:List (List UInt8)→Prop) (hL:L≤64) (hB:B≤4096)
  (hn: ∀(ks:List (List UInt8)) (s x:Nat) (O:List Lx.Item),s<ks.length→x<L→Good ks→J ks O→eH prog base fv [vI (s:Int),.int .u8 (x:Int)] O (fun v O'=>v=str (tr (ks.getD s []) x)∧Good (add ks (tr (ks.getD s []) x))∧J (add ks (tr (ks.getD s []) x)) O'))
  (hg: ∀ks,Good ks→ks.length≤B) (O:List Lx.Item) (h0:Good [start]) (hJ0:J [start] O):
  cj prog base 86 [vI (L:Int),vI (B:Int),str start,fv] O (fun v O'=> ∃b c qs N O1,v=.tuple #[.slice b N c,.bool true]∧O'=av b c 56 1 (dG qs)::(cg 3 qs++O1)∧J (yi tr L start N) O1∧Good (yi tr L start N)∧(yi tr L start N).length=N∧qW tr L (yi tr L start N) N (nums qs)∧ ∀i,i<N→i<(yi tr L start i).length):=by
 refine aE func86 F ntmps86 F ?_
 refine aj (ak F (ak F (ah ?_)))
 refine T.scope ?_ (fun _ _ _ h=>h)
 refine aj (aq (l7 str (fun n:Nat=>Value.int .i64 (n:Int)) (fun m1=>?_)))
 refine ai F (aq (gg (a:=start) (v:=(0:Nat)) 0 iO (gG.string wh) F F F F (by simp) ?_))
 refine ai F (aq (bs B5 (fun b2=>?_)))
 refine aq (cq (vs:=[(.map (some m1))]) 0 B5 ?_)
 refine ah (aj (ae (dx) (ak F (ah (aR ?_)))))
 refine T.label ?_
 refine aR (aj (ak F (ah (aV (T.fq 56 1 ?_)))))
 let eh:Lx.Item:=oI b2 160 [(.map (some m1))]
 let fA:Value:=(.pointer (aD b2))
 refine ek (fun(s:Nat) ρ O=> ∃(ks:List (List UInt8)) (qs:List Rec) (ob:Option Addr) (oc:Nat) (O1:List Lx.Item),O=([av ob oc 56 1 (dG qs),eh,dO str (fun n:Nat=>Value.int .i64 (n:Int)) m1 ks.zipIdx]++(cg 3 qs++O1))∧yi tr L start s=ks∧Good ks∧J ks O1∧qW tr L ks s (nums qs)∧(∀i,i<s→i<(yi tr L start i).length)∧df [(0,vI (L:Int)),(1,vI (B:Int)),(2,str start),(3,fv),(8,(.slice ob s oc)),(9,.bool false),(10,fA),(11,(.func (.func 124) #[] #[fA])),(12,vI (s:Int))] ρ) (fun s=>B-s) 0 ?_ ?_
 ·exact⟨[start],[],none,0,O,F,F,h0,hJ0,⟨F,by simp,fun i hi=>absurd hi (by omega),fun i hi=>absurd hi (by omega)⟩,fun i hi=>absurd hi (by omega),(.of F)⟩
 rintro s ρ O ⟨ks,qs,ob,oc,O1,rfl,oQ,hG,hJ,hE,kw,hH⟩
 obtain⟨gA,rfl⟩:=hH.elim
 clear hH
 have hgl:=hg _ hG
 have Jh:qs.length=s:=by have:=hE.len;simpa using this
 refine aR (aj (ai F (ae (bq 1 iO) (ae (bL (qC iO F (mG 2)) (v':=vI (ks.length:Int)) (by rw[List.length_zipIdx])) (ae cU (ah (aZ F (fun hc=>?_) (fun hc=>?_))))))))
 ·have tY:s<ks.length:=by omega
  refine aL (aR (aV (aj (ai F (aq (cX (m:=L) cL bF F F (by omega) (by omega) (fun b3=>?_)))))))
  refine ak F (ah (aR (aj (ai F (ae (cQ cL) (ai F (ah (aV ?_))))))))
  refine ek (fun(x:Nat) ρ O=> ∃(ft:List (List UInt8)) (ys:List Int) (O2:List Lx.Item),O=([av (aD b3) L 3 1 (ints ys),av ob oc 56 1 (dG qs),eh,dO str (fun n:Nat=>Value.int .i64 (n:Int)) m1 ft.zipIdx]++(cg 3 qs++O2))∧x≤L∧ys.length=L∧Good ft∧J ft O2∧ft=((List.range x).map (tr (ks.getD s []))).foldl add ks∧(∀i,i<x→ys[i]? =some ((ix (tr (ks.getD s []) i) ft:Nat):Int))∧df [(0,vI (L:Int)),(1,vI (B:Int)),(2,str start),(3,fv),(8,(.slice ob s oc)),(9,.bool false),(10,fA),(11,(.func (.func 124) #[] #[fA])),(12,vI (s:Int)),(13,(.slice (aD b3) L L)),(28,vI (L:Int)),(29,vI (x:Int))] ρ) (fun x=>L-x) 0 ?_ ?_
  ·exact⟨ks,List.replicate L 0,O1,by simp,bl _,by simp,hG,hJ,F,fun i hi=>absurd hi (by omega),(.of F)⟩
  rintro x ρ O ⟨ft,ys,O2,rfl,hx,DC,hG2,Pk,qi,zS,hH⟩
  obtain⟨gA,rfl⟩:=hH.elim
  clear hH
  have aiE:=hg _ hG2
  have vh:ks<+:ft:=qi▸gI _ _
  have sS:ft.getD s []=ks.getD s []:=mz vh tY
  have Y_:=vh.length_le
  refine aj (ae cU (ah (aR (aZ F (fun hc=>?_) (fun hc=>?_)))))
  ·have iW:x<L:=by omega
   refine aL (aR (aV (aj (ai F (ak F (ah (aj (ai F (ai F (ai F (ai F (ai F (ai F (ae (fU ey gH F (show IntKind.u8.wrap (x:Int)=(x:Int) by unfold IntKind.wrap;simp[IntKind.bits,IntKind.signed];omega)) ?_))))))))))))))
   let fe:Lx.Item:=av (aD b3) L 3 1 (ints ys)
   have aa4:=eH.under (B:=[fe,av ob oc 56 1 (dG qs),eh,dO str (fun n:Nat=>Value.int .i64 (n:Int)) m1 ft.zipIdx]++cg 3 qs) (O:=([fe,av ob oc 56 1 (dG qs),eh,dO str (fun n:Nat=>Value.int .i64 (n:Int)) m1 ft.zipIdx]++(cg 3 qs++O2))) (hn ft s x O2 (by omega) iW hG2 Pk) (gq [])
   refine aq (eu aa4 F F ?_)
   clear aa4
   rintro v O' ⟨O3,rfl,rfl,hG3,hJ3⟩
   refine dM (O':=([fe,av ob oc 56 1 (dG qs),eh,dO str (fun n:Nat=>Value.int .i64 (n:Int)) m1 ft.zipIdx]++(cg 3 qs++O3))) (gq []) ?_
   rw[sS]at hG3 hJ3⊢
   have nK:=bU (first:=[]) (args:=[str (tr (ks.getD s []) x)]) (fG:=[fA]) VO (cj.under (B:=[fe,av ob oc 56 1 (dG qs)]++(cg 3 qs++O3)) (O:=([fe,av ob oc 56 1 (dG qs),eh,dO str (fun n:Nat=>Value.int .i64 (n:Int)) m1 ft.zipIdx]++(cg 3 qs++O3))) (aa3 base b2 m1 ft (tr (ks.getD s []) x) (by have:=hg _ hG2;omega)) (kZ [2,2,0,0] [fe,av ob oc 56 1 (dG qs),eh,dO str (fun n:Nat=>Value.int .i64 (n:Int)) m1 ft.zipIdx] (cg 3 qs++O3) F F))
   refine aq (eu nK F F ?_)
   clear nK
   rintro v O' ⟨A1,rfl,rfl,rfl⟩
   refine dM (O':=([fe,av ob oc 56 1 (dG qs),eh,dO str (fun n:Nat=>Value.int .i64 (n:Int)) m1 ((add ft (tr (ks.getD s []) x)).zipIdx)]++(cg 3 qs++O3))) (kZ [2,2,0,0] [eh,dO str (fun n:Nat=>Value.int .i64 (n:Int)) m1 ((add ft (tr (ks.getD s []) x)).zipIdx),fe,av ob oc 56 1 (dG qs)] (cg 3 qs++O3) F F) ?_
   refine ae (dX (i:=x) cL bF F F (dT (mG 0))) (aq (n7 (j:=x) (v:=vN (ix (tr (ks.getD s []) x) (add ft (tr (ks.getD s []) x)))) (vs:=[(vN (ix (tr (ks.getD s []) x) (add ft (tr (ks.getD s []) x))))]) (cs:=ints ys) 0 bF F F F F F (by simp) F (by first|(simp;omega)|(simp_all;omega)) ?_))
   refine dM (O':=([av (aD b3) L 3 1 (ints (ys.set x ((ix (tr (ks.getD s []) x) (add ft (tr (ks.getD s []) x)):Nat):Int))),av ob oc 56 1 (dG qs),eh,dO str (fun n:Nat=>Value.int .i64 (n:Int)) m1 ((add ft (tr (ks.getD s []) x)).zipIdx)]++(cg 3 qs++O3))) (by rw[show eZ (ints ys) x [(vN (ix (tr (ks.getD s []) x) (add ft (tr (ks.getD s []) x))))]=ints (ys.set x ((ix (tr (ks.getD s []) x) (add ft (tr (ks.getD s []) x)):Nat):Int))from by simp[eZ]];exact ck (aY _)) ?_
   refine ah (aj (ae (bq 2 iO) (ae (bL (qC iO F (mG 3)) (v':=vI ((add ft (tr (ks.getD s []) x)).length:Int)) (by rw[List.length_zipIdx])) (ai F (ae ij (ah (aZ F (fun hc=>?_) (fun hc=>?_))))))))
   ·exact absurd hc (by have:=hg _ hG3;omega)
   have aal: ¬(add ft (tr (ks.getD s []) x)).length>B:=by omega
   refine aL (bg (ae (lR F F (by omega)) (ai F (ah ?_))))
   have FR: ∀y,y<x→tr (ks.getD s []) y∈ft:=fun y hy=>by rw[qi,d_];exact .inr (List.mem_map_of_mem (List.mem_range.2 hy))
   refine⟨x+1,by omega,add ft (tr (ks.getD s []) x),ys.set x ((ix (tr (ks.getD s []) x) (add ft (tr (ks.getD s []) x)):Nat):Int),O3,F,by omega,by simp[DC],hG3,hJ3,by rw[jk,←qi],fun i hi=>?_,(.of F)⟩
   by_cases e:i=x
   ·subst e;rw[List.getElem?_set_self (by omega)]
   ·rw[List.getElem?_set_ne (fun h=>e h.symm),zS i (by omega),ir (jY _ _) (FR i (by omega))]
  have Ha: ¬x<L:=by omega
  refine cG ?_
  refine bg (ai F (ai F (aq (cR (v:=(.slice (aD b3) L L)) fp cZ F F F (fun b4=>?_)))))
  refine aq (dq 2 fp fp cZ F F F F (by simp[Jh]) (by decide) (Src.row (j:=0) F (by simp)) (by simp[fF]) (by omega) (by decide) (by decide) (fun b5 c6=>?_))
  refine ak F (ah ?_)
  refine dc (O':=[av b5 c6 56 1 (dG (qs++[⟨(aD b3),L,ys⟩])),eh,dO str (fun n:Nat=>Value.int .i64 (n:Int)) m1 ft.zipIdx]++(cg 3 (qs++[⟨(aD b3),L,ys⟩])++O2)) (by
   rw[show dG (qs++[⟨(aD b3),L,ys⟩])=(dG qs)++[(.slice (aD b3) L L)] by simp[Rec.val,DC]]
   exact Sub.wM [av (aD b4) 1 56 1 [(.slice (aD b3) L L)]] (by intro a;simp only[jU,jV,cg,bj,cD,fV,Rec.qt,nF,nE,Br,vI,nS,aD,cF,du,a6,c_]<;>omega)) ?_
  refine bg (ai F (ae (lR F F (by omega)) (ak F (ah ?_))))
  have Mj:x=L:=by omega
  have FR: ∀y,y<L→tr (ks.getD s []) y∈ft:=fun y hy=>by rw[qi,d_];exact .inr (List.mem_map_of_mem (List.mem_range.2 (by omega)))
  have UI:ys=lE tr L ft s:=by
   apply List.ext_getElem?
   intro i
   by_cases hi:i<L
   ·rw[zS i (by omega)];simp only[lE,sS];simp[hi]
   ·rw[bY (by omega),bY (by simp[lE];omega)]
  have Uj:qW tr L ft (s+1) (nums (qs++[⟨(aD b3),L,ys⟩])):=by
   have:=hE.snoc vh tY UI (by rw[sS];exact FR)
   simpa[nums]using this
  have aej: ∀i,i<s+1→i<(yi tr L start i).length:=fun i hi=>by
   by_cases e:i=s
   ·subst e;rw[oQ];exact tY
   ·exact kw i (by omega)
  exact⟨s+1,by omega,ft,qs++[⟨(aD b3),L,ys⟩],b5,c6,O2,F,by rw[yi,oQ,qi,Mj],hG2,Pk,Uj,aej,(.of F)⟩
 have AC: ¬s<ks.length:=by omega
 refine cG ?_
 refine aj (ai F (ae (bq 1 iO) (ae (bL (qC iO F (mG 2)) (v':=vI (ks.length:Int)) (by rw[List.length_zipIdx])) (ai F (ae (aC GY (ax (by have:=hg _ hG;omega))) (ak F (ak F (ah (aM (aB ?_))))))))))
 refine de (.slice ob s oc) (.bool true) results86 F F ?_
 have hN:ks.length=s:=by have:=hE.le;omega
 exact⟨_,(kZ [0] [av ob oc 56 1 (dG qs),eh,dO str (fun n:Nat=>Value.int .i64 (n:Int)) m1 ks.zipIdx] (cg 3 qs++O1) F F),ob,oc,qs,s,O1,F,F,by rw[oQ];exact hJ,by rw[oQ];exact hG,by rw[oQ];exact hN,by rw[oQ];exact hE,kw⟩
theorem aa5 (base:World) [dA prog base] (d:cV) (nb fb:Option Addr) (nc fc:Nat) (vs:List Value) (h:jB base d nb vs fb) (hv:Valid d) (hn:d.next.length<10000) (b1 b2 b3:Nat) (os:List Nat) (sn:List Bool) (ob sb:Option Addr) (oc sc O8 s x:Nat) (hs:s<os.length) (hx:x<2^d.vars.toNat) (J0: ∀o∈os,o<d.next.length) (lZ:os.Nodup) (OW:sn.length=d.next.length) (qT: ∀t,t<d.next.length→sn[t]? =some (decide (t∈os))):
  cj prog base 84 ([vI (s:Int),.int .u8 (x:Int)]++[.pointer (aD b1),.pointer (aD b2),.pointer (aD b3)])
   [oI b1 25 [(vI d.vars),(vI d.start),(.slice nb d.next.length nc),(.slice fb d.a7.length fc)],oI b2 56 [(.slice ob os.length oc)],av ob oc 3 1 (bW os),oI b3 23 [(.slice sb d.next.length sc)],av sb O8 4 1 (cI sn)]
   (fun v O'=>v=str (Lib.decDigits (eS d os[s] x))∧ ∃ob' oc' sn',sn'.length=d.next.length∧(∀t,t<d.next.length→sn'[t]? =some (decide (t∈add os (eS d os[s] x))))∧O'=[oI b1 25 [(vI d.vars),(vI d.start),(.slice nb d.next.length nc),(.slice fb d.a7.length fc)],oI b2 56 [(.slice ob' ((add os (eS d os[s] x)).length) oc')],av ob' oc' 3 1 (bW (add os (eS d os[s] x))),oI b3 23 [(.slice sb d.next.length sc)],av sb O8 4 1 (cI sn')]):=by
 refine aE func84 F ntmps84 F ?_
 obtain⟨o,O7⟩: ∃o,os[s]=o:=⟨_,F⟩
 have aek:os[s]? =some o:=by rw[ap hs,O7]
 have ho:o<d.next.length:=O7▸J0 _ (aN hs)
 obtain⟨t,ht⟩: ∃t,eS d o x=t:=⟨_,F⟩
 obtain⟨htn,_,hxr,hdx⟩:=hv.gT ho hx
 rw[ht]at htn hdx
 rw[O7,ht]
 have Py:=h.rows.1
 have hw:=hv.width
 obtain⟨vb,vc,g1,s1⟩:=h.rows.get ho
 have hxt:(ints d.next[o])[x]? =some (vN t):=by rw[gL hxr,hdx]
 have O_:=eX lZ J0
 have zL:=qT t htn
 have L9:t<sn.length:=by omega
 refine aj (ak F (ah (aR ?_)))
 refine fS [(0,0),(1,0),(2,0),(3,0),(4,0),(5,0),(6,0),(7,0),(8,0),(9,0),(10,0),(11,0)] ?_
 refine aw F (bt dj fR) (aw F (bq 0 fp) (aw F (bq 1 cL) (aw F aI ?_)))
 refine aw F (dX (i:=s) cL bF F F (dT (mG 2)) hs (by rw[ar];exact hs)) (aw F (cS ey F F (dT (mG 2)) (show(bW os)[s]? =some (vN o) by rw[bi,aek];rfl)) (aw F (dX (i:=o) fp cZ F F (aK h.outer) ho) (aw F (cS cL F F (aK h.outer) g1) ?_)))
 refine aw F aI (aw F (dX (i:=x) cL bF F F (aK s1) hxr (by rw[ar];exact hxr)) (aw F (cS ey F F (aK s1) hxt) (aw F cx ?_)))
 refine cA ?_
 refine aR (aj ?_)
 refine ae (bq 3 eI) (ai F (ae (dX (i:=t) eI fC F F (dT (mG 4)) htn (by rw[ar];exact L9)) (ae (cS BB F F (dT (mG 4)) (show(cI sn)[t]? =some (.bool (decide (t∈os))) by rw[bi,zL];rfl)) ?_)))
 refine ae iV (ah (aZ (p:=t∉os) (au Value.bool (by simp)) (fun hc=>?_) (fun hc=>?_)))
 ·let gP:Lx.Item:=oI b1 25 [(vI d.vars),(vI d.start),(.slice nb d.next.length nc),(.slice fb d.a7.length fc)]
  refine sH [gP,oI b3 23 [(.slice sb d.next.length sc)],av sb O8 4 1 (cI sn)] [oI b2 56 [(.slice ob os.length oc)]] [(0,0),(1,0),(2,3),(3,0),(4,1),(5,1),(6,4),(7,0),(8,2)] mixed (by kernel_rfl) (aG [0,2,2]) (aG [1]) (fun _ _ _ _ h=>h) ?_
  refine aw F (bq 1 eI) (aw F aI ?_)
  refine dQ F (bq 0 cL) ?_
  refine aw F aI ?_
  refine sG F F (cR (v:=vN t) cL bF F F F (fun z1=>⟨aG [1,3,3],aG [2],?_⟩))
  refine sG F F (dq 3 cL cL bF F F F F (by simp) (by decide) (Src.row (j:=0) F (by simp)) (by simp[fF]) (by omega) (by decide) (by decide) (fun z2 vd=>⟨aG [1,3,3],aG [2],?_⟩))
  refine xN F F (cq (vs:=[(.slice z2 (os.length+1) vd)]) 2 cZ ⟨aG [1,3,3],?_⟩ F F F F)
  refine aw F (dX (i:=t) eI fC F F (dT (mG 2)) htn (by rw[ar];exact L9)) ?_
  refine cy F F (n7 (j:=t) (v:=.bool true) (vs:=[(.bool true)]) (cs:=cI sn) 5 fC F F F F F (by simp) F (by first|(simp;omega)|(simp_all;omega)) ?_)
  let fh:List Lx.Item:=[av (aD z1) 1 3 1 [vN t],oI b1 25 [(vI d.vars),(vI d.start),(.slice nb d.next.length nc),(.slice fb d.a7.length fc)],oI b2 56 [(.slice z2 (os.length+1) vd)],av z2 vd 3 1 ((bW os)++[vN t]),oI b3 23 [(.slice sb d.next.length sc)],av sb O8 4 1 (cI (sn.set t true))]
  refine eR (O':=fh) (by rw[show eZ (cI sn) t [(.bool true)]=cI (sn.set t true)from by simp[eZ]];exact ck (aY _)) ?_
  refine cA ?_
  refine aj (ai F ?_)
  have ya:=fun(w1:World) (hI:Inv base fh w1)=>(haveI:=ef hI;On w1 t (by omega))
  refine aq (bm Nt (aX ya) ?_)
  clear ya
  rintro v O' ⟨N,rfl,rfl,rfl⟩
  refine ak F (ah (aM (aB ?_)))
  refine aT (str (Lib.decDigits t)) results84 F ?_
  have ha:add os t=os++[t]:=aA hc
  refine⟨[gP,oI b2 56 [(.slice z2 (os.length+1) vd)],av z2 vd 3 1 ((bW os)++[vN t]),oI b3 23 [(.slice sb d.next.length sc)],av sb O8 4 1 (cI (sn.set t true))],(aG [1,1,1,1,1]),F,z2,vd,sn.set t true,by simp[OW],fun t2 Xe=>?_,?_⟩
  ·rw[ha]
   by_cases e:t2=t
   ·subst e;rw[List.getElem?_set_self L9];simp
   ·rw[List.getElem?_set_ne (fun h=>e h.symm),qT t2 Xe];simp[e]
  ·rw[ha,aP,show bW (os++[t])=bW os++[vN t]from bj];rfl
 refine aL (aj (ai F ?_))
 let jy:List Lx.Item:=[oI b1 25 [(vI d.vars),(vI d.start),(.slice nb d.next.length nc),(.slice fb d.a7.length fc)],oI b2 56 [(.slice ob os.length oc)],av ob oc 3 1 (bW os),oI b3 23 [(.slice sb d.next.length sc)],av sb O8 4 1 (cI sn)]
 have ya:=fun(w1:World) (hI:Inv base jy w1)=>(haveI:=ef hI;On w1 t (by omega))
 refine aq (bm Nt (aX ya) ?_)
 clear ya
 rintro v O' ⟨N,rfl,rfl,rfl⟩
 refine ak F (ah (aM (aB ?_)))
 refine aT (str (Lib.decDigits t)) results84 F ?_
 have ha:add os t=os:=aJ (Classical.not_not.1 hc)
 refine⟨jy,(aG [0,0,0,0,0]),F,ob,oc,sn,OW,fun t2 Xe=>?_,?_⟩
 ·rw[ha];exact qT t2 Xe
 ·rw[ha]
def WK (d:cV) (nb fb:Option Addr) (nc fc b1 bB bC bD:Nat) (ks:List (List UInt8)) (O:List Lx.Item):Prop:=
 ∃(os:List Nat) (sn:List Bool) (ob:Option Addr) (oc:Nat),ks=os.map Lib.decDigits∧O=[dY b1 (.cells (List.toArray [(vI d.vars),(vI d.start),(.slice nb d.next.length nc),(.slice fb d.a7.length fc)]) 25 (0,0)),dY bC (.cells (List.toArray [(.slice ob os.length oc)]) 56 (0,0)),av ob oc 3 1 (bW os),dY bD (.cells (List.toArray [(.slice (aD bB) d.next.length d.next.length)]) 23 (0,0)),av (aD bB) d.next.length 4 1 (cI sn)]∧os.Nodup∧(∀o∈os,o<d.next.length)∧sn.length=d.next.length∧(∀t,t<d.next.length→sn[t]? =some (decide (t∈os)))
set_option maxRecDepth 20000 in
theorem aa7 (base:World) [dA prog base] (d:cV) (nb fb:Option Addr) (nc fc:Nat) (vs:List Value) (h:jB base d nb vs fb) (hv:Valid d) (hn:d.next.length<10000) (b1 bB bC bD:Nat) (ks:List (List UInt8)) (s x:Nat) (O:List Lx.Item) (hs:s<ks.length) (hx:x<2^d.vars.toNat) (hJ:WK d nb fb nc fc b1 bB bC bD ks O):
  eH prog base (.func (.func 84) #[] #[.pointer (aD b1),.pointer (aD bC),.pointer (aD bD)]) [vI (s:Int),.int .u8 (x:Int)] O
   (fun v O'=>v=str (Ff d (ks.getD s []) x)∧(add ks (Ff d (ks.getD s []) x)).length≤d.next.length∧WK d nb fb nc fc b1 bB bC bD (add ks (Ff d (ks.getD s []) x)) O'):=by
 obtain⟨os,sn,ob,oc,rfl,rfl,lZ,J0,OW,qT⟩:=hJ
 have TV:s<os.length:=by simpa using hs
 have e:(os.map Lib.decDigits).getD s []=Lib.decDigits os[s]:=by simp[TV]
 have e2:Ff d ((os.map Lib.decDigits).getD s []) x=Lib.decDigits (eS d os[s] x):=by rw[e,Ff,vK]
 have hT:=(hv.gT (J0 _ (aN TV)) hx).1
 have aa8: ∀o∈add os (eS d os[s] x),o<d.next.length:=fun o ho=>by
  rcases rY.1 ho with ho|ho
  ·exact J0 o ho
  ·rw[ho];exact hT
 refine eH.mono (bU (first:=[]) (fG:=[.pointer (aD b1),.pointer (aD bC),.pointer (aD bD)]) aay (aa5 base d nb fb nc fc vs h hv hn b1 bC bD os sn ob (aD bB) oc d.next.length d.next.length s x TV hx J0 lZ OW qT)) ?_
 rintro v O' ⟨rfl,ob',oc',sn',h1,h2,rfl⟩
 rw[e2,←Ip pN]
 refine⟨F,?_,add os (eS d os[s] x),sn',ob',oc',F,F,nr lZ,aa8,h1,h2⟩
 rw[ar];exact eX (nr lZ) aa8
theorem Rt (w:World) [dA prog w] (d:cV) (nb fb:Option Addr) (nc fc:Nat) (vs:List Value) (h:jB w d nb vs fb) (hv:Valid d) (hn:d.next.length<10000):
  cn prog 52 [.agg (fE d nb nc fb fc).toArray] w fun v N=> ∃C2 C3 pt pu qs,v=.tuple #[.agg (fE (eo d) C2 C3 pt pu).toArray,vI 0]∧N=[av C2 C3 56 1 (dG qs),av pt pu 4 1 (cI (eo d).a7)]++cg 3 qs∧nums qs=(eo d).next:=by
 refine aE func52 F ntmps52 F ?_
 have he:=eF.2 hv
 have hb:d.next.length<9223372036854775807:=by omega
 have w7: ∀r∈d.next,r.length<9223372036854775807:=hv.xE
 have zH:d.a7.length<9223372036854775807:=by have:=hv.fin;omega
 have TY:=hv.n0
 have Bm:=hv.s0
 have RZ:=hv.s1
 have qT:d.start.toNat<d.next.length:=by omega
 refine aj (aq (dE (cs:=[(vI d.vars),(vI d.start),(.slice nb d.next.length nc),(.slice fb d.a7.length fc)]) (fun z1=>?_)))
 refine aq (bs bN (fun z2=>?_))
 refine ak F (ah (aR (aj (ae (eN 1 dj bN) ?_))))
 let eh:Lx.Item:=oI z1 25 [(vI d.vars),(vI d.start),(.slice nb d.next.length nc),(.slice fb d.a7.length fc)]
 let jX:Lx.Item:=oI z2 25 [(vI 0),(vI 0),nS,nS]
 have DN:=fun(w1:World) (hI:Inv w [jX,eh] w1)=>(haveI:=ef hI;jo w1 d nb fb nc fc vs (hI.CU h) hb w7 zH)
 refine aq (bm wv (aX DN) ?_)
 clear DN
 rintro v O' ⟨N,rfl,rfl,rfl⟩
 rw[he]
 refine ak F (ah (aj (ai F (ae dW (ah (a8 (aL ?_)))))))
 let oE:Value:=(.agg #[(vI d.vars),(vI d.start),(.slice nb d.next.length nc),(.slice fb d.a7.length fc)])
 refine fg (fun ρ O=> ∃(bA bB bC bD:Nat),O=[oI bC 56 [(.slice (aD bA) 1 1)],oI bD 23 [(.slice (aD bB) d.next.length d.next.length)],av (aD bA) 1 3 1 [(vI d.start)],av (aD bB) d.next.length 4 1 (List.replicate d.next.length (.bool false)),jX,eh]∧df [(0,oE),(1,(.pointer (aD z1))),(2,(.pointer (aD z2))),(3,vI 0),(4,vI ((0:Nat):Int)),(5,(.pointer (aD bC))),(6,(.pointer (aD bD)))] ρ) ?_ ?_
 ·refine oP [eh] 11 mixed F (aG [1]) (fun _ _ _ _ h=>h) ?_
  refine cE 0 F (by kernel_rfl) (bt dj bF) ?_
  refine cE 1 F (by kernel_rfl) (bq 0 ey) ?_
  refine cE 3 F (by kernel_rfl) (bt dj fR) ?_
  refine cE 4 F (by kernel_rfl) (bq 0 fp) ?_
  refine cE 5 F (by kernel_rfl) (cQ fp) ?_
  refine bf [2,6,7,8] (by kernel_rfl) F ⟨⟨_,F,F,cR (v:=(vI d.start)) cL bF F F F (fun bA=>⟨aG [2],?_⟩)⟩,⟨_,F,F,cX (m:=d.next.length) eI fC F F (by omega) (by omega) (fun bB=>⟨aG [2],?_⟩)⟩,⟨_,F,F,bs cZ (fun bC=>⟨aG [2],?_⟩)⟩,⟨_,F,F,bs dH (fun bD=>⟨aG [2],?_⟩)⟩,trivial⟩
  ·refine bf [6,7,8] (by kernel_rfl) F ⟨⟨_,F,F,cX (m:=d.next.length) eI fC F F (by omega) (by omega) (fun bB=>⟨aG [3],?_⟩)⟩,⟨_,F,F,bs cZ (fun bC=>⟨aG [3],?_⟩)⟩,⟨_,F,F,bs dH (fun bD=>⟨aG [3],?_⟩)⟩,trivial⟩
   ·refine bf [7,8] (by kernel_rfl) F ⟨⟨_,F,F,bs cZ (fun bC=>⟨aG [4],?_⟩)⟩,⟨_,F,F,bs dH (fun bD=>⟨aG [4],?_⟩)⟩,trivial⟩
    ·refine bf [8] (by kernel_rfl) F ⟨⟨_,F,F,bs dH (fun bD=>⟨aG [5],?_⟩)⟩,trivial⟩
     refine bf [9] (by kernel_rfl) F ⟨⟨_,F,F,cq (vs:=[(.slice (aD bA) 1 1)]) 1 cZ ⟨aG [5],?_⟩ F F F F⟩,trivial⟩
     refine bf [10] (by kernel_rfl) F ⟨⟨_,F,F,cq (vs:=[(.slice (aD bB) d.next.length d.next.length)]) 0 dH ⟨aG [5],?_⟩ F F F F⟩,trivial⟩
     exact dD (by kernel_rfl) ⟨bA,bB,bC,bD,F,(.of F)⟩ (aG [1,0,1,0,0,0])
    refine bf [7] (by kernel_rfl) F ⟨⟨_,F,F,bs cZ (fun bC=>⟨aG [5],?_⟩)⟩,trivial⟩
    refine bf [9] (by kernel_rfl) F ⟨⟨_,F,F,cq (vs:=[(.slice (aD bA) 1 1)]) 0 cZ ⟨aG [5],?_⟩ F F F F⟩,trivial⟩
    refine bf [10] (by kernel_rfl) F ⟨⟨_,F,F,cq (vs:=[(.slice (aD bB) d.next.length d.next.length)]) 1 dH ⟨aG [5],?_⟩ F F F F⟩,trivial⟩
    exact dD (by kernel_rfl) ⟨bA,bB,bC,bD,F,(.of F)⟩ (aG [0,0,1,0,0,0])
   ·refine bf [6,8] (by kernel_rfl) F ⟨⟨_,F,F,cX (m:=d.next.length) eI fC F F (by omega) (by omega) (fun bB=>⟨aG [4],?_⟩)⟩,⟨_,F,F,bs dH (fun bD=>⟨aG [4],?_⟩)⟩,trivial⟩
    ·refine bf [8] (by kernel_rfl) F ⟨⟨_,F,F,bs dH (fun bD=>⟨aG [5],?_⟩)⟩,trivial⟩
     refine bf [9] (by kernel_rfl) F ⟨⟨_,F,F,cq (vs:=[(.slice (aD bA) 1 1)]) 2 cZ ⟨aG [5],?_⟩ F F F F⟩,trivial⟩
     refine bf [10] (by kernel_rfl) F ⟨⟨_,F,F,cq (vs:=[(.slice (aD bB) d.next.length d.next.length)]) 0 dH ⟨aG [5],?_⟩ F F F F⟩,trivial⟩
     exact dD (by kernel_rfl) ⟨bA,bB,bC,bD,F,(.of F)⟩ (aG [2,0,1,0,0,0])
    refine bf [6,9] (by kernel_rfl) F ⟨⟨_,F,F,cX (m:=d.next.length) eI fC F F (by omega) (by omega) (fun bB=>⟨aG [5],?_⟩)⟩,⟨_,F,F,cq (vs:=[(.slice (aD bA) 1 1)]) 1 cZ ⟨aG [4],?_⟩ F F F F⟩,trivial⟩
    ·refine bf [9] (by kernel_rfl) F ⟨⟨_,F,F,cq (vs:=[(.slice (aD bA) 1 1)]) 2 cZ ⟨aG [5],?_⟩ F F F F⟩,trivial⟩
     refine bf [10] (by kernel_rfl) F ⟨⟨_,F,F,cq (vs:=[(.slice (aD bB) d.next.length d.next.length)]) 1 dH ⟨aG [5],?_⟩ F F F F⟩,trivial⟩
     exact dD (by kernel_rfl) ⟨bA,bB,bC,bD,F,(.of F)⟩ (aG [2,1,1,0,0,0])
    refine bf [6] (by kernel_rfl) F ⟨⟨_,F,F,cX (m:=d.next.length) eI fC F F (by omega) (by omega) (fun bB=>⟨aG [5],?_⟩)⟩,trivial⟩
    refine bf [10] (by kernel_rfl) F ⟨⟨_,F,F,cq (vs:=[(.slice (aD bB) d.next.length d.next.length)]) 1 dH ⟨aG [5],?_⟩ F F F F⟩,trivial⟩
    exact dD (by kernel_rfl) ⟨bA,bB,bC,bD,F,(.of F)⟩ (aG [2,1,1,0,0,0])
   refine bf [6,7] (by kernel_rfl) F ⟨⟨_,F,F,cX (m:=d.next.length) eI fC F F (by omega) (by omega) (fun bB=>⟨aG [4],?_⟩)⟩,⟨_,F,F,bs cZ (fun bC=>⟨aG [4],?_⟩)⟩,trivial⟩
   ·refine bf [7] (by kernel_rfl) F ⟨⟨_,F,F,bs cZ (fun bC=>⟨aG [5],?_⟩)⟩,trivial⟩
    refine bf [9] (by kernel_rfl) F ⟨⟨_,F,F,cq (vs:=[(.slice (aD bA) 1 1)]) 0 cZ ⟨aG [5],?_⟩ F F F F⟩,trivial⟩
    refine bf [10] (by kernel_rfl) F ⟨⟨_,F,F,cq (vs:=[(.slice (aD bB) d.next.length d.next.length)]) 2 dH ⟨aG [5],?_⟩ F F F F⟩,trivial⟩
    exact dD (by kernel_rfl) ⟨bA,bB,bC,bD,F,(.of F)⟩ (aG [0,1,1,0,0,0])
   refine bf [6,9] (by kernel_rfl) F ⟨⟨_,F,F,cX (m:=d.next.length) eI fC F F (by omega) (by omega) (fun bB=>⟨aG [5],?_⟩)⟩,⟨_,F,F,cq (vs:=[(.slice (aD bA) 1 1)]) 0 cZ ⟨aG [4],?_⟩ F F F F⟩,trivial⟩
   ·refine bf [9] (by kernel_rfl) F ⟨⟨_,F,F,cq (vs:=[(.slice (aD bA) 1 1)]) 1 cZ ⟨aG [5],?_⟩ F F F F⟩,trivial⟩
    refine bf [10] (by kernel_rfl) F ⟨⟨_,F,F,cq (vs:=[(.slice (aD bB) d.next.length d.next.length)]) 2 dH ⟨aG [5],?_⟩ F F F F⟩,trivial⟩
    exact dD (by kernel_rfl) ⟨bA,bB,bC,bD,F,(.of F)⟩ (aG [1,1,1,0,0,0])
   refine bf [6] (by kernel_rfl) F ⟨⟨_,F,F,cX (m:=d.next.length) eI fC F F (by omega) (by omega) (fun bB=>⟨aG [5],?_⟩)⟩,trivial⟩
   refine bf [10] (by kernel_rfl) F ⟨⟨_,F,F,cq (vs:=[(.slice (aD bB) d.next.length d.next.length)]) 2 dH ⟨aG [5],?_⟩ F F F F⟩,trivial⟩
   exact dD (by kernel_rfl) ⟨bA,bB,bC,bD,F,(.of F)⟩ (aG [1,1,1,0,0,0])
  ·refine bf [2,7,8] (by kernel_rfl) F ⟨⟨_,F,F,cR (v:=(vI d.start)) cL bF F F F (fun bA=>⟨aG [3],?_⟩)⟩,⟨_,F,F,bs cZ (fun bC=>⟨aG [3],?_⟩)⟩,⟨_,F,F,bs dH (fun bD=>⟨aG [3],?_⟩)⟩,trivial⟩
   ·refine bf [7,8] (by kernel_rfl) F ⟨⟨_,F,F,bs cZ (fun bC=>⟨aG [4],?_⟩)⟩,⟨_,F,F,bs dH (fun bD=>⟨aG [4],?_⟩)⟩,trivial⟩
    ·refine bf [8] (by kernel_rfl) F ⟨⟨_,F,F,bs dH (fun bD=>⟨aG [5],?_⟩)⟩,trivial⟩
     refine bf [9] (by kernel_rfl) F ⟨⟨_,F,F,cq (vs:=[(.slice (aD bA) 1 1)]) 1 cZ ⟨aG [5],?_⟩ F F F F⟩,trivial⟩
     refine bf [10] (by kernel_rfl) F ⟨⟨_,F,F,cq (vs:=[(.slice (aD bB) d.next.length d.next.length)]) 0 dH ⟨aG [5],?_⟩ F F F F⟩,trivial⟩
     exact dD (by kernel_rfl) ⟨bA,bB,bC,bD,F,(.of F)⟩ (aG [1,0,0,0,0,0])
    refine bf [7] (by kernel_rfl) F ⟨⟨_,F,F,bs cZ (fun bC=>⟨aG [5],?_⟩)⟩,trivial⟩
    refine bf [9] (by kernel_rfl) F ⟨⟨_,F,F,cq (vs:=[(.slice (aD bA) 1 1)]) 0 cZ ⟨aG [5],?_⟩ F F F F⟩,trivial⟩
    refine bf [10] (by kernel_rfl) F ⟨⟨_,F,F,cq (vs:=[(.slice (aD bB) d.next.length d.next.length)]) 1 dH ⟨aG [5],?_⟩ F F F F⟩,trivial⟩
    exact dD (by kernel_rfl) ⟨bA,bB,bC,bD,F,(.of F)⟩ (aG [0,0,0,0,0,0])
   ·refine bf [2,8] (by kernel_rfl) F ⟨⟨_,F,F,cR (v:=(vI d.start)) cL bF F F F (fun bA=>⟨aG [4],?_⟩)⟩,⟨_,F,F,bs dH (fun bD=>⟨aG [4],?_⟩)⟩,trivial⟩
    ·refine bf [8] (by kernel_rfl) F ⟨⟨_,F,F,bs dH (fun bD=>⟨aG [5],?_⟩)⟩,trivial⟩
     refine bf [9] (by kernel_rfl) F ⟨⟨_,F,F,cq (vs:=[(.slice (aD bA) 1 1)]) 2 cZ ⟨aG [5],?_⟩ F F F F⟩,trivial⟩
     refine bf [10] (by kernel_rfl) F ⟨⟨_,F,F,cq (vs:=[(.slice (aD bB) d.next.length d.next.length)]) 0 dH ⟨aG [5],?_⟩ F F F F⟩,trivial⟩
     exact dD (by kernel_rfl) ⟨bA,bB,bC,bD,F,(.of F)⟩ (aG [2,0,0,0,0,0])
    refine bf [2] (by kernel_rfl) F ⟨⟨_,F,F,cR (v:=(vI d.start)) cL bF F F F (fun bA=>⟨aG [5],?_⟩)⟩,trivial⟩
    refine bf [9] (by kernel_rfl) F ⟨⟨_,F,F,cq (vs:=[(.slice (aD bA) 1 1)]) 2 cZ ⟨aG [5],?_⟩ F F F F⟩,trivial⟩
    refine bf [10] (by kernel_rfl) F ⟨⟨_,F,F,cq (vs:=[(.slice (aD bB) d.next.length d.next.length)]) 1 dH ⟨aG [5],?_⟩ F F F F⟩,trivial⟩
    exact dD (by kernel_rfl) ⟨bA,bB,bC,bD,F,(.of F)⟩ (aG [2,1,0,0,0,0])
   refine bf [2,7] (by kernel_rfl) F ⟨⟨_,F,F,cR (v:=(vI d.start)) cL bF F F F (fun bA=>⟨aG [4],?_⟩)⟩,⟨_,F,F,bs cZ (fun bC=>⟨aG [4],?_⟩)⟩,trivial⟩
   ·refine bf [7] (by kernel_rfl) F ⟨⟨_,F,F,bs cZ (fun bC=>⟨aG [5],?_⟩)⟩,trivial⟩
    refine bf [9] (by kernel_rfl) F ⟨⟨_,F,F,cq (vs:=[(.slice (aD bA) 1 1)]) 0 cZ ⟨aG [5],?_⟩ F F F F⟩,trivial⟩
    refine bf [10] (by kernel_rfl) F ⟨⟨_,F,F,cq (vs:=[(.slice (aD bB) d.next.length d.next.length)]) 2 dH ⟨aG [5],?_⟩ F F F F⟩,trivial⟩
    exact dD (by kernel_rfl) ⟨bA,bB,bC,bD,F,(.of F)⟩ (aG [0,1,0,0,0,0])
   refine bf [2] (by kernel_rfl) F ⟨⟨_,F,F,cR (v:=(vI d.start)) cL bF F F F (fun bA=>⟨aG [5],?_⟩)⟩,trivial⟩
   refine bf [9] (by kernel_rfl) F ⟨⟨_,F,F,cq (vs:=[(.slice (aD bA) 1 1)]) 1 cZ ⟨aG [5],?_⟩ F F F F⟩,trivial⟩
   refine bf [10] (by kernel_rfl) F ⟨⟨_,F,F,cq (vs:=[(.slice (aD bB) d.next.length d.next.length)]) 2 dH ⟨aG [5],?_⟩ F F F F⟩,trivial⟩
   exact dD (by kernel_rfl) ⟨bA,bB,bC,bD,F,(.of F)⟩ (aG [1,1,0,0,0,0])
  ·refine bf [2,6,8] (by kernel_rfl) F ⟨⟨_,F,F,cR (v:=(vI d.start)) cL bF F F F (fun bA=>⟨aG [3],?_⟩)⟩,⟨_,F,F,cX (m:=d.next.length) eI fC F F (by omega) (by omega) (fun bB=>⟨aG [3],?_⟩)⟩,⟨_,F,F,bs dH (fun bD=>⟨aG [3],?_⟩)⟩,trivial⟩
   ·refine bf [6,8] (by kernel_rfl) F ⟨⟨_,F,F,cX (m:=d.next.length) eI fC F F (by omega) (by omega) (fun bB=>⟨aG [4],?_⟩)⟩,⟨_,F,F,bs dH (fun bD=>⟨aG [4],?_⟩)⟩,trivial⟩
    ·refine bf [8] (by kernel_rfl) F ⟨⟨_,F,F,bs dH (fun bD=>⟨aG [5],?_⟩)⟩,trivial⟩
     refine bf [9] (by kernel_rfl) F ⟨⟨_,F,F,cq (vs:=[(.slice (aD bA) 1 1)]) 3 cZ ⟨aG [5],?_⟩ F F F F⟩,trivial⟩
     refine bf [10] (by kernel_rfl) F ⟨⟨_,F,F,cq (vs:=[(.slice (aD bB) d.next.length d.next.length)]) 0 dH ⟨aG [5],?_⟩ F F F F⟩,trivial⟩
     exact dD (by kernel_rfl) ⟨bA,bB,bC,bD,F,(.of F)⟩ (aG [3,0,1,0,0,0])
    refine bf [6,9] (by kernel_rfl) F ⟨⟨_,F,F,cX (m:=d.next.length) eI fC F F (by omega) (by omega) (fun bB=>⟨aG [5],?_⟩)⟩,⟨_,F,F,cq (vs:=[(.slice (aD bA) 1 1)]) 2 cZ ⟨aG [4],?_⟩ F F F F⟩,trivial⟩
    ·refine bf [9] (by kernel_rfl) F ⟨⟨_,F,F,cq (vs:=[(.slice (aD bA) 1 1)]) 3 cZ ⟨aG [5],?_⟩ F F F F⟩,trivial⟩
     refine bf [10] (by kernel_rfl) F ⟨⟨_,F,F,cq (vs:=[(.slice (aD bB) d.next.length d.next.length)]) 1 dH ⟨aG [5],?_⟩ F F F F⟩,trivial⟩
     exact dD (by kernel_rfl) ⟨bA,bB,bC,bD,F,(.of F)⟩ (aG [3,1,1,0,0,0])
    refine bf [6] (by kernel_rfl) F ⟨⟨_,F,F,cX (m:=d.next.length) eI fC F F (by omega) (by omega) (fun bB=>⟨aG [5],?_⟩)⟩,trivial⟩
    refine bf [10] (by kernel_rfl) F ⟨⟨_,F,F,cq (vs:=[(.slice (aD bB) d.next.length d.next.length)]) 1 dH ⟨aG [5],?_⟩ F F F F⟩,trivial⟩
    exact dD (by kernel_rfl) ⟨bA,bB,bC,bD,F,(.of F)⟩ (aG [3,1,1,0,0,0])
   ·refine bf [2,8] (by kernel_rfl) F ⟨⟨_,F,F,cR (v:=(vI d.start)) cL bF F F F (fun bA=>⟨aG [4],?_⟩)⟩,⟨_,F,F,bs dH (fun bD=>⟨aG [4],?_⟩)⟩,trivial⟩
    ·refine bf [8] (by kernel_rfl) F ⟨⟨_,F,F,bs dH (fun bD=>⟨aG [5],?_⟩)⟩,trivial⟩
     refine bf [9] (by kernel_rfl) F ⟨⟨_,F,F,cq (vs:=[(.slice (aD bA) 1 1)]) 3 cZ ⟨aG [5],?_⟩ F F F F⟩,trivial⟩
     refine bf [10] (by kernel_rfl) F ⟨⟨_,F,F,cq (vs:=[(.slice (aD bB) d.next.length d.next.length)]) 0 dH ⟨aG [5],?_⟩ F F F F⟩,trivial⟩
     exact dD (by kernel_rfl) ⟨bA,bB,bC,bD,F,(.of F)⟩ (aG [3,0,0,0,0,0])
    refine bf [2] (by kernel_rfl) F ⟨⟨_,F,F,cR (v:=(vI d.start)) cL bF F F F (fun bA=>⟨aG [5],?_⟩)⟩,trivial⟩
    refine bf [9] (by kernel_rfl) F ⟨⟨_,F,F,cq (vs:=[(.slice (aD bA) 1 1)]) 3 cZ ⟨aG [5],?_⟩ F F F F⟩,trivial⟩
    refine bf [10] (by kernel_rfl) F ⟨⟨_,F,F,cq (vs:=[(.slice (aD bB) d.next.length d.next.length)]) 1 dH ⟨aG [5],?_⟩ F F F F⟩,trivial⟩
    exact dD (by kernel_rfl) ⟨bA,bB,bC,bD,F,(.of F)⟩ (aG [3,1,0,0,0,0])
   refine bf [2,6] (by kernel_rfl) F ⟨⟨_,F,F,cR (v:=(vI d.start)) cL bF F F F (fun bA=>⟨aG [4],?_⟩)⟩,⟨_,F,F,cX (m:=d.next.length) eI fC F F (by omega) (by omega) (fun bB=>⟨aG [4],?_⟩)⟩,trivial⟩
   ·refine bf [6,9] (by kernel_rfl) F ⟨⟨_,F,F,cX (m:=d.next.length) eI fC F F (by omega) (by omega) (fun bB=>⟨aG [5],?_⟩)⟩,⟨_,F,F,cq (vs:=[(.slice (aD bA) 1 1)]) 2 cZ ⟨aG [4],?_⟩ F F F F⟩,trivial⟩
    ·refine bf [9] (by kernel_rfl) F ⟨⟨_,F,F,cq (vs:=[(.slice (aD bA) 1 1)]) 3 cZ ⟨aG [5],?_⟩ F F F F⟩,trivial⟩
     refine bf [10] (by kernel_rfl) F ⟨⟨_,F,F,cq (vs:=[(.slice (aD bB) d.next.length d.next.length)]) 2 dH ⟨aG [5],?_⟩ F F F F⟩,trivial⟩
     exact dD (by kernel_rfl) ⟨bA,bB,bC,bD,F,(.of F)⟩ (aG [3,2,1,0,0,0])
    refine bf [6] (by kernel_rfl) F ⟨⟨_,F,F,cX (m:=d.next.length) eI fC F F (by omega) (by omega) (fun bB=>⟨aG [5],?_⟩)⟩,trivial⟩
    refine bf [10] (by kernel_rfl) F ⟨⟨_,F,F,cq (vs:=[(.slice (aD bB) d.next.length d.next.length)]) 2 dH ⟨aG [5],?_⟩ F F F F⟩,trivial⟩
    exact dD (by kernel_rfl) ⟨bA,bB,bC,bD,F,(.of F)⟩ (aG [3,2,1,0,0,0])
   refine bf [2] (by kernel_rfl) F ⟨⟨_,F,F,cR (v:=(vI d.start)) cL bF F F F (fun bA=>⟨aG [5],?_⟩)⟩,trivial⟩
   refine bf [9] (by kernel_rfl) F ⟨⟨_,F,F,cq (vs:=[(.slice (aD bA) 1 1)]) 3 cZ ⟨aG [5],?_⟩ F F F F⟩,trivial⟩
   refine bf [10] (by kernel_rfl) F ⟨⟨_,F,F,cq (vs:=[(.slice (aD bB) d.next.length d.next.length)]) 2 dH ⟨aG [5],?_⟩ F F F F⟩,trivial⟩
   exact dD (by kernel_rfl) ⟨bA,bB,bC,bD,F,(.of F)⟩ (aG [3,2,0,0,0,0])
  refine bf [2,6,7] (by kernel_rfl) F ⟨⟨_,F,F,cR (v:=(vI d.start)) cL bF F F F (fun bA=>⟨aG [3],?_⟩)⟩,⟨_,F,F,cX (m:=d.next.length) eI fC F F (by omega) (by omega) (fun bB=>⟨aG [3],?_⟩)⟩,⟨_,F,F,bs cZ (fun bC=>⟨aG [3],?_⟩)⟩,trivial⟩
  ·refine bf [6,7] (by kernel_rfl) F ⟨⟨_,F,F,cX (m:=d.next.length) eI fC F F (by omega) (by omega) (fun bB=>⟨aG [4],?_⟩)⟩,⟨_,F,F,bs cZ (fun bC=>⟨aG [4],?_⟩)⟩,trivial⟩
   ·refine bf [7] (by kernel_rfl) F ⟨⟨_,F,F,bs cZ (fun bC=>⟨aG [5],?_⟩)⟩,trivial⟩
    refine bf [9] (by kernel_rfl) F ⟨⟨_,F,F,cq (vs:=[(.slice (aD bA) 1 1)]) 0 cZ ⟨aG [5],?_⟩ F F F F⟩,trivial⟩
    refine bf [10] (by kernel_rfl) F ⟨⟨_,F,F,cq (vs:=[(.slice (aD bB) d.next.length d.next.length)]) 3 dH ⟨aG [5],?_⟩ F F F F⟩,trivial⟩
    exact dD (by kernel_rfl) ⟨bA,bB,bC,bD,F,(.of F)⟩ (aG [0,2,1,0,0,0])
   refine bf [6,9] (by kernel_rfl) F ⟨⟨_,F,F,cX (m:=d.next.length) eI fC F F (by omega) (by omega) (fun bB=>⟨aG [5],?_⟩)⟩,⟨_,F,F,cq (vs:=[(.slice (aD bA) 1 1)]) 0 cZ ⟨aG [4],?_⟩ F F F F⟩,trivial⟩
   ·refine bf [9] (by kernel_rfl) F ⟨⟨_,F,F,cq (vs:=[(.slice (aD bA) 1 1)]) 1 cZ ⟨aG [5],?_⟩ F F F F⟩,trivial⟩
    refine bf [10] (by kernel_rfl) F ⟨⟨_,F,F,cq (vs:=[(.slice (aD bB) d.next.length d.next.length)]) 3 dH ⟨aG [5],?_⟩ F F F F⟩,trivial⟩
    exact dD (by kernel_rfl) ⟨bA,bB,bC,bD,F,(.of F)⟩ (aG [1,2,1,0,0,0])
   refine bf [6] (by kernel_rfl) F ⟨⟨_,F,F,cX (m:=d.next.length) eI fC F F (by omega) (by omega) (fun bB=>⟨aG [5],?_⟩)⟩,trivial⟩
   refine bf [10] (by kernel_rfl) F ⟨⟨_,F,F,cq (vs:=[(.slice (aD bB) d.next.length d.next.length)]) 3 dH ⟨aG [5],?_⟩ F F F F⟩,trivial⟩
   exact dD (by kernel_rfl) ⟨bA,bB,bC,bD,F,(.of F)⟩ (aG [1,2,1,0,0,0])
  ·refine bf [2,7] (by kernel_rfl) F ⟨⟨_,F,F,cR (v:=(vI d.start)) cL bF F F F (fun bA=>⟨aG [4],?_⟩)⟩,⟨_,F,F,bs cZ (fun bC=>⟨aG [4],?_⟩)⟩,trivial⟩
   ·refine bf [7] (by kernel_rfl) F ⟨⟨_,F,F,bs cZ (fun bC=>⟨aG [5],?_⟩)⟩,trivial⟩
    refine bf [9] (by kernel_rfl) F ⟨⟨_,F,F,cq (vs:=[(.slice (aD bA) 1 1)]) 0 cZ ⟨aG [5],?_⟩ F F F F⟩,trivial⟩
    refine bf [10] (by kernel_rfl) F ⟨⟨_,F,F,cq (vs:=[(.slice (aD bB) d.next.length d.next.length)]) 3 dH ⟨aG [5],?_⟩ F F F F⟩,trivial⟩
    exact dD (by kernel_rfl) ⟨bA,bB,bC,bD,F,(.of F)⟩ (aG [0,2,0,0,0,0])
   refine bf [2] (by kernel_rfl) F ⟨⟨_,F,F,cR (v:=(vI d.start)) cL bF F F F (fun bA=>⟨aG [5],?_⟩)⟩,trivial⟩
   refine bf [9] (by kernel_rfl) F ⟨⟨_,F,F,cq (vs:=[(.slice (aD bA) 1 1)]) 1 cZ ⟨aG [5],?_⟩ F F F F⟩,trivial⟩
   refine bf [10] (by kernel_rfl) F ⟨⟨_,F,F,cq (vs:=[(.slice (aD bB) d.next.length d.next.length)]) 3 dH ⟨aG [5],?_⟩ F F F F⟩,trivial⟩
   exact dD (by kernel_rfl) ⟨bA,bB,bC,bD,F,(.of F)⟩ (aG [1,2,0,0,0,0])
  refine bf [2,6] (by kernel_rfl) F ⟨⟨_,F,F,cR (v:=(vI d.start)) cL bF F F F (fun bA=>⟨aG [4],?_⟩)⟩,⟨_,F,F,cX (m:=d.next.length) eI fC F F (by omega) (by omega) (fun bB=>⟨aG [4],?_⟩)⟩,trivial⟩
  ·refine bf [6,9] (by kernel_rfl) F ⟨⟨_,F,F,cX (m:=d.next.length) eI fC F F (by omega) (by omega) (fun bB=>⟨aG [5],?_⟩)⟩,⟨_,F,F,cq (vs:=[(.slice (aD bA) 1 1)]) 1 cZ ⟨aG [4],?_⟩ F F F F⟩,trivial⟩
   ·refine bf [9] (by kernel_rfl) F ⟨⟨_,F,F,cq (vs:=[(.slice (aD bA) 1 1)]) 2 cZ ⟨aG [5],?_⟩ F F F F⟩,trivial⟩
    refine bf [10] (by kernel_rfl) F ⟨⟨_,F,F,cq (vs:=[(.slice (aD bB) d.next.length d.next.length)]) 3 dH ⟨aG [5],?_⟩ F F F F⟩,trivial⟩
    exact dD (by kernel_rfl) ⟨bA,bB,bC,bD,F,(.of F)⟩ (aG [2,2,1,0,0,0])
   refine bf [6] (by kernel_rfl) F ⟨⟨_,F,F,cX (m:=d.next.length) eI fC F F (by omega) (by omega) (fun bB=>⟨aG [5],?_⟩)⟩,trivial⟩
   refine bf [10] (by kernel_rfl) F ⟨⟨_,F,F,cq (vs:=[(.slice (aD bB) d.next.length d.next.length)]) 3 dH ⟨aG [5],?_⟩ F F F F⟩,trivial⟩
   exact dD (by kernel_rfl) ⟨bA,bB,bC,bD,F,(.of F)⟩ (aG [2,2,1,0,0,0])
  refine bf [2] (by kernel_rfl) F ⟨⟨_,F,F,cR (v:=(vI d.start)) cL bF F F F (fun bA=>⟨aG [5],?_⟩)⟩,trivial⟩
  refine bf [9] (by kernel_rfl) F ⟨⟨_,F,F,cq (vs:=[(.slice (aD bA) 1 1)]) 2 cZ ⟨aG [5],?_⟩ F F F F⟩,trivial⟩
  refine bf [10] (by kernel_rfl) F ⟨⟨_,F,F,cq (vs:=[(.slice (aD bB) d.next.length d.next.length)]) 3 dH ⟨aG [5],?_⟩ F F F F⟩,trivial⟩
  exact dD (by kernel_rfl) ⟨bA,bB,bC,bD,F,(.of F)⟩ (aG [2,2,0,0,0,0])
 rintro ρ O ⟨bA,bB,bC,bD,rfl,hH⟩
 obtain⟨gA,rfl⟩:=hH.elim
 clear hH
 refine aj (ae (bq 1 eI) (ae (bt dj bF) (ae (bq 5 ey) (ae (G3 (i:=d.start) eI fC F F (dT (mG 3)) Bm qT (by rw[jd];exact qT)) (aq (n7 (j:=d.start.toNat) (v:=.bool true) (vs:=[(.bool true)]) (cs:=List.replicate d.next.length (.bool false)) 3 fC F F F F F (by simp) F (by first|(simp;omega)|(simp_all;omega)) ?_))))))
 let fe:Lx.Item:=oI bD 23 [(.slice (aD bB) d.next.length d.next.length)]
 refine dM (O':=[oI bC 56 [(.slice (aD bA) 1 1)],fe,av (aD bA) 1 3 1 [(vI d.start)],av (aD bB) d.next.length 4 1 (cI ((List.replicate d.next.length false).set d.start.toNat true)),jX,eh]) (by rw[show eZ (List.replicate d.next.length (.bool false)) d.start.toNat [(.bool true)]=cI ((List.replicate d.next.length false).set d.start.toNat true)from by simp[eZ]];exact ck (aY _)) ?_
 refine ah (aj (ae (dx) (ak F (ah (aj (ae (bt dj bF) (ae (bq 5 ey) (ae (bt dj bF) (aq (cq (vs:=[(vI d.vars)]) 4 bF ?_))))))))))
 refine ah (aR ?_)
 have hJ0: [oI z1 25 [(vI d.vars),(vI d.start),(.slice nb d.next.length nc),(.slice fb d.a7.length fc)],oI bC 56 [(.slice (aD bA) 1 1)],av (aD bA) 1 3 1 [(vI d.start)],oI bD 23 [(.slice (aD bB) d.next.length d.next.length)],av (aD bB) d.next.length 4 1 (cI ((List.replicate d.next.length false).set d.start.toNat true))]=[oI z1 25 [(vI d.vars),(vI d.start),(.slice nb d.next.length nc),(.slice fb d.a7.length fc)],oI bC 56 [(.slice (aD bA) 1 1)],av (aD bA) 1 3 1 (bW [d.start.toNat]),oI bD 23 [(.slice (aD bB) d.next.length d.next.length)],av (aD bB) d.next.length 4 1 (cI ((List.replicate d.next.length false).set d.start.toNat true))]:=by
  rw[show bW [d.start.toNat]=[vI d.start] by simp[cM Bm]]
 have aa9: ∀t,t<d.next.length→((List.replicate d.next.length false).set d.start.toNat true)[t]? =some (decide (t∈[d.start.toNat])):=fun t ht=>by
  by_cases e:t=d.start.toNat
  ·subst e;rw[List.getElem?_set_self (by simpa using ht)];simp
  ·rw[List.getElem?_set_ne (fun h=>e h.symm)];simp[ht,e]
 refine T.ds [eh] [(0,0),(1,0),(2,0),(3,0),(4,0),(5,0),(6,0),(7,0),(9,0),(8,1),(10,1),(11,0),(12,0),(13,0),(14,0),(15,1)] (aG [5]) ?_
 refine aw F (bt dj bF) (aw F (bq 0 ey) (aw F (nA (v:=d.vars.toNat) F (by show Value.int _ d.vars=_;rw[cM hv.v0]) (by have:=hv.v6;omega)) (aw F (bt dj fR) (aw F (bq 0 fp) (aw F (cQ fp) (aw F (bt dj bF) (aw F (bL (bq 0 ey) (v':=vI ((d.start.toNat:Nat):Int)) (by rw[cM Bm])) (aw F aI ?_))))))))
 let jy:List Lx.Item:=[oI bC 56 [(.slice (aD bA) 1 1)],fe,av (aD bA) 1 3 1 [(vI d.start)],av (aD bB) d.next.length 4 1 (cI ((List.replicate d.next.length false).set d.start.toNat true)),oI z2 25 [(vI d.vars),(vI 0),nS,nS],eh]
 have nK:=fun(w1:World) (hI:Inv w jy w1)=>(haveI:=ef hI;On w1 d.start.toNat (by omega))
 refine cH F F (bm Nt (aX nK) ?_)
 clear nK
 rintro v O' ⟨N,rfl,rfl,rfl⟩
 refine⟨aG [5],?_⟩
 let jN:Lx.Item:=oI z2 25 [(vI d.vars),(vI 0),nS,nS]
 have x_:=cj.under (B:=[jN]) (O:=jy) (Om w (Ff d) (2^d.vars.toNat) d.next.length (Lib.decDigits d.start.toNat) (.func (.func 84) #[] #[.pointer (aD z1),.pointer (aD bC),.pointer (aD bD)]) (WK d nb fb nc fc z1 bB bC bD) (fun ks=>ks.length≤d.next.length) hv.width hv.n4 (fun ks s x O hs hx _ hJ=>aa7 w d nb fb nc fc vs h hv hn z1 bB bC bD ks s x O hs hx hJ) (fun _ h=>h) [eh,oI bC 56 [(.slice (aD bA) 1 1)],av (aD bA) 1 3 1 [(vI d.start)],fe,av (aD bB) d.next.length 4 1 (cI ((List.replicate d.next.length false).set d.start.toNat true))] (by simp;omega) ⟨[d.start.toNat],(List.replicate d.next.length false).set d.start.toNat true,some ⟨bA,0,none⟩,1,F,hJ0,by simp,by simp;omega,by simp,aa9⟩) (aG [5,0,1,0,0,0])
 refine cH F F (bm aaz x_ ?_)
 clear x_
 rintro v O' ⟨A1,rfl,rb,rc,qs,N,O1,rfl,rfl,⟨os,sn,ob,oc,oQ,rfl,lZ,J0,OW,aiF⟩,hgl,aa_,hE,kw⟩
 let fA:Lx.Item:=av (aD bB) d.next.length 4 1 (cI sn)
 let fh:Lx.Item:=oI bC 56 [(.slice ob os.length oc)]
 let gP:Lx.Item:=av rb rc 56 1 (dG qs)
 let iI:Lx.Item:=av ob oc 3 1 (bW os)
 refine⟨gq ([gP]++cg 3 qs++[fh,iI,fe,fA,jN]),?_⟩
 refine eR (O':=[gP,eh,fh,iI,fe,fA,jN]++cg 3 qs) (gq []) ?_
 refine aw F aI (aw F (bI (vs:=_)) (aw F (bI (vs:=_)) (aw F (bt dj fR) ?_)))
 let lV:Value:=(.slice rb N rc)
 refine cH F F (cq (vs:=[lV]) 6 fR ⟨fz [1] [gP,eh,fh,iI,fe,fA,oI z2 25 [(vI d.vars),(vI 0),lV,nS]] (cg 3 qs) F F,?_⟩ F F F F)
 refine cA ?_
 refine aR (aj (ae (bq 2 cL) (ae (cQ cL) (ai F (ah (aV ?_))))))
 have O_:=eX lZ J0
 refine T.fq 4 1 ?_
 refine ek (fun(k:Nat) ρ O=> ∃(xp:Option Addr) (xq:Nat),O=([av xp xq 4 1 (cI ((os.take k).map fun o=>d.a7.getD o false)),gP,eh,fh,iI,fe,fA,oI z2 25 [(vI d.vars),(vI 0),lV,(.slice xp k xq)]]++(cg 3 qs))∧k≤os.length∧df [(0,oE),(1,(.pointer (aD z1))),(2,(.pointer (aD z2))),(3,vI 0),(4,vI ((0:Nat):Int)),(5,(.pointer (aD bC))),(6,(.pointer (aD bD))),(7,(.func (.func 84) #[] #[(.pointer (aD z1)),(.pointer (aD bC)),(.pointer (aD bD))])),(46,(.slice ob os.length oc)),(47,vI (os.length:Int)),(48,vI (k:Int))] ρ) (fun k=>os.length-k) 0 ?_ ?_
 ·exact⟨none,0,F,bl _,(.of F)⟩
 rintro k ρ O ⟨xp,xq,rfl,hk,hH⟩
 obtain⟨gA,rfl⟩:=hH.elim
 clear hH
 refine aj (ae cU (ah (aR (aZ F (fun hc=>?_) (fun hc=>?_)))))
 ·have Oo:k<os.length:=by omega
  have ZZ:os[k]<d.next.length:=J0 _ (aN Oo)
  have aem:os[k]<d.a7.length:=by have:=hv.fin;omega
  refine aL (aR (aV (aj (ae (dX (i:=k) cL bF F F (dT (mG 4))) (ae (cS ey F F (dT (mG 4)) iw) (ak F (ah ?_)))))))
  let pv:Lx.Item:=oI z2 25 [(vI d.vars),(vI 0),(.slice rb N rc),(.slice xp k xq)]
  refine T.ds [eh,pv] [(0,0),(1,0),(2,0),(3,0),(4,0),(5,0),(6,0),(7,1),(8,2),(9,2),(10,2)] (fz [2,6] [av xp xq 4 1 (cI ((os.take k).map fun o=>d.a7.getD o false)),gP,eh,fh,iI,fe,fA,pv] (cg 3 qs) F F) ?_
  refine aw F (bt dj dH) (aw F (bq 1 eI) (aw F (bt dj dH) (aw F (bq 0 eI) (aw F aI (aw F (dX (i:=os[k]) eI fC F F (aK h.a7)) (aw F (cS BB F F (aK h.a7) jE) ?_))))))
  let lm:List Value:=[.bool d.a7[os[k]]]
  refine cH F F (cR (v:=.bool d.a7[os[k]]) eI fC F F F (fun z3=>⟨fz [3,7] [av (aD z3) 1 4 1 lm,av xp xq 4 1 (cI ((os.take k).map fun o=>d.a7.getD o false)),gP,eh,fh,iI,fe,fA,pv] (cg 3 qs) F F,?_⟩))
  refine cy F F (dq 1 eI eI fC F F F F (by simp;omega) (by decide) (Src.row (j:=0) F (by simp)) (by simp[fF]) (by omega) (by decide) (by decide) (fun z4 KB=>?_))
  refine cy F F (eK F F (bt dj dH) ?_)
  refine cy F F (cq (vs:=[(.slice z4 (k+1) KB)]) 8 dH ?_)
  let kn:Lx.Item:=oI z2 25 [(vI d.vars),(vI 0),lV,(.slice z4 (k+1) KB)]
  refine eR (O':=([av z4 KB 4 1 ((cI ((os.take k).map fun o=>d.a7.getD o false))++lm),gP,eh,fh,iI,fe,fA,kn]++(cg 3 qs))) (kZ [1,1,1,1,1,1,1,1] [av (aD z3) 1 4 1 lm,av z4 KB 4 1 ((cI ((os.take k).map fun o=>d.a7.getD o false))++lm),gP,eh,fh,iI,fe,fA,kn] (cg 3 qs) F F) ?_
  refine cA ?_
  refine bg (ae (lR F F (by omega)) (ai F (ah ?_)))
  have zL:(List.take (k+1) os).map (fun o=>d.a7.getD o false)=(List.take k os).map (fun o=>d.a7.getD o false)++[d.a7[os[k]]]:=by
   rw[aH Oo,bj];simp[aem]
  exact⟨k+1,by omega,z4,KB,by rw[zL,show cI ((List.take k os).map (fun o=>d.a7.getD o false)++[d.a7[os[k]]])=cI ((List.take k os).map fun o=>d.a7.getD o false)++[.bool d.a7[os[k]]]from bj],by omega,(.of F)⟩
 have aba: ¬k<os.length:=by omega
 refine cG ?_
 refine aj (ae (eN 7 dj bN) (aq (cq (vs:=[(vI d.vars),(vI 0),lV,(.slice xp k xq)]) 7 bN ?_)))
 refine ak F (ah (aM (aB ?_)))
 refine j8 (vI 0) (i:=7) results52 dj F bN F F F F ?_
 have Xn:k=os.length:=by omega
 obtain⟨ho,hN9⟩:=Kd kw oQ aa_ (eX lZ J0)
 have Pb:=Oj oQ hE ho hN9
 have XY:(List.take k os).map (fun o=>d.a7.getD o false)=(eo d).a7:=by rw[br (by omega),ho];rfl
 have Ma:(eo d).next.length=N:=by rw[←Pb,hE.len]
 have hl2:(eo d).a7.length=k:=by rw[←XY,ar,cw];omega
 refine⟨[gP,av xp xq 4 1 (cI ((os.take k).map fun o=>d.a7.getD o false))]++cg 3 qs,(kZ [1,0] [av xp xq 4 1 (cI ((os.take k).map fun o=>d.a7.getD o false)),gP,eh,fh,iI,fe,fA,oI z2 25 [(vI d.vars),(vI 0),lV,(.slice xp k xq)]] (cg 3 qs) F F),rb,rc,xp,xq,qs,?_,by rw[XY],Pb⟩
 show Value.tuple #[Value.agg (List.toArray [vI d.vars,vI 0,.slice rb N rc,.slice xp k xq]),_]=Value.tuple #[Value.agg (List.toArray [vI d.vars,vI 0,.slice rb (eo d).next.length rc,.slice xp (eo d).a7.length xq]),_]
 rw[Ma,hl2]
theorem WI (w:World) [dA prog w] (d:cV) (nb fb:Option Addr) (nc fc:Nat) (vs:List Value) (h:jB w d nb vs fb) (hb:d.next.length<9223372036854775807) (w7: ∀r∈d.next,r.length<9223372036854775807) (zH:d.a7.length<9223372036854775807) (he:dL d≠0):
  cn prog 23 [.agg (fE d nb nc fb fc).toArray] w fun v N=>v=.tuple #[.agg #[vI 0,vI 0,nS,nS],vI (dL d:Int)]∧N=[]:=by
 refine aE func23 F ntmps23 F ?_
 refine aj (aq (dE (cs:=[(vI d.vars),(vI d.start),(.slice nb d.next.length nc),(.slice fb d.a7.length fc)]) (fun b1=>?_)))
 refine aq (bs bN (fun b2=>?_))
 refine ak F (ah (aj (ae (eN 1 dj bN) ?_)))
 have DJ:=fun(w1:World) (hI:Inv w [oI b2 25 [(vI 0),(vI 0),nS,nS],oI b1 25 [(vI d.vars),(vI d.start),(.slice nb d.next.length nc),(.slice fb d.a7.length fc)]] w1)=>(haveI:=ef hI;Gv w1 d nb fb nc fc vs (hI.CU h) hb w7 zH he)
 refine aq (bm S3 (aX DJ) ?_)
 clear DJ
 rintro v O' ⟨N,rfl,rfl,rfl⟩
 refine ai F (ae (bI (vs:=_)) (ae (bI (vs:=_)) (aq (bs cZ (fun b3=>?_)))))
 refine aq (cq (vs:=[nS]) 0 cZ ?_)
 refine ak F (ah (aR (aj (ai F (ae (aC dW (ax (by omega))) (ah ?_))))))
 refine b_ ?_
 refine aj (ae (cT jG bN F) (ai F (aq (cq (vs:=[(vI 0),(vI 0),nS,nS]) 1 bN ?_))))
 refine ak F (ah (aM (aB ?_)))
 refine j8 (vI (dL d:Int)) (i:=1) results23 dj F bN F F F F ?_
 exact⟨[],ck (cr _),F,F⟩
theorem aaZ (w:World) [dA prog w] (d:cV) (nb fb:Option Addr) (nc fc:Nat) (vs:List Value) (h:jB w d nb vs fb) (hv:Valid d) (hn:d.next.length<10000) (hqv:Valid (quo d (iq d d.next.length))) (hqn:(quo d (iq d d.next.length)).next.length<10000):
  cn prog 23 [.agg (fE d nb nc fb fc).toArray] w fun v N=> ∃C2 C3 pt pu qs,v=.tuple #[.agg (fE (eo (quo d (iq d d.next.length))) C2 C3 pt pu).toArray,vI 0]∧N=[av C2 C3 56 1 (dG qs),av pt pu 4 1 (cI (eo (quo d (iq d d.next.length))).a7)]++cg 3 qs∧nums qs=(eo (quo d (iq d d.next.length))).next:=by
 refine aE func23 F ntmps23 F ?_
 obtain⟨cs,xH⟩: ∃cs,iq d d.next.length=cs:=⟨_,F⟩
 rw[xH]at hqv hqn⊢
 have oO:cs.length=d.next.length:=xH▸fD d _
 have Fb: ∀x∈cs,x<10000:=xH▸N4 hn _
 have Bm:=hv.s0
 have RZ:=hv.s1
 have TY:=hv.n0
 have hn4:=hv.n4
 have qT:d.start.toNat<cs.length:=by omega
 have hb:d.next.length<9223372036854775807:=by omega
 let kn:Value:=(.slice fb d.a7.length fc)
 let lm:Value:=(.slice nb d.next.length nc)
 refine aj (aq (dE (cs:=[(vI d.vars),(vI d.start),lm,kn]) (fun z1=>?_)))
 refine aq (bs bN (fun z2=>?_))
 refine ak F (ah (aj (ae (eN 1 dj bN) ?_)))
 let eh:Lx.Item:=oI z1 25 [(vI d.vars),(vI d.start),(.slice nb d.next.length nc),(.slice fb d.a7.length fc)]
 let fh:Lx.Item:=oI z2 25 [(vI 0),(vI 0),nS,nS]
 have DJ:=fun(w1:World) (hI:Inv w [fh,eh] w1)=>(haveI:=ef hI;J2 w1 d nb fb nc fc vs (hI.CU h) hv hn)
 refine aq (bm S3 (aX DJ) ?_)
 clear DJ
 rintro v O' ⟨N,rfl,cb,cc,rfl,rfl⟩
 rw[xH]
 refine ai F (ae (bI (vs:=_)) (ae (bI (vs:=_)) (aq (bs cZ (fun z3=>?_)))))
 refine aq (cq (vs:=[(.slice cb d.next.length cc)]) 0 cZ ?_)
 refine ak F (ah (aR (aj (ai F (ae dW (ah (a8 (aL (aR ?_)))))))))
 let fA:Lx.Item:=oI z3 56 [(.slice cb d.next.length cc)]
 let gP:Lx.Item:=av cb cc 3 1 (bW cs)
 refine T.ds [fA,gP,eh] [(0,0),(1,0),(2,0),(3,0),(4,0),(5,0),(6,0),(7,0),(8,1),(9,2)] (aG [0,0,1]) ?_
 refine aw F (bt dj bF) (aw F (bq 2 ey) (aw F (bq 0 cL) (aw F (bt dj bF) (aw F (bq 2 ey) (aw F (G3 (i:=d.start) cL bF F F (dT (mG 1)) Bm (oO▸qT) (by rw[ar];exact qT)) (aw F (cS ey F F (dT (mG 1)) (show(bW cs)[d.start.toNat]? =some (vN (cs.getD d.start.toNat 0)) by rw[iw qT];simp[qT])) (aw F (cT (cs:=[(vI d.vars),vN (cs.getD d.start.toNat 0),nS,nS]) jG bN (by kernel_rfl)) ?_)))))))
 refine cH F F (bs bN (fun z4=>⟨aG [1,1,2],?_⟩))
 refine cy F F (cq (vs:=[(vI d.vars),vN (cs.getD d.start.toNat 0),nS,nS]) 0 bN ?_)
 refine cA ?_
 refine aR (aj (ae (eN 4 dj bN) ?_))
 let jX:Lx.Item:=oI z4 25 [(vI d.vars),vN (cs.getD d.start.toNat 0),nS,nS]
 have yg:=fun(w1:World) (hI:Inv w [jX,fA,gP,fh,eh] w1)=>(haveI:=ef hI;Te w1 d nb fb nc fc)
 refine aq (bm S4 (aX yg) ?_)
 clear yg
 rintro v O' ⟨N,rfl,bR,rfl,rfl⟩
 refine ah (T.fq 4 1 ?_)
 refine T.fq 56 1 ?_
 refine dc (O':=[oI bR 25 [(vI d.vars),(vI d.start),lm,kn],jX,av none 0 56 1 (dG []),av none 0 4 1 (cI []),fA,gP,fh,eh]) (aG [2,2,0,0,0,0,0,0]) ?_
 refine aV ?_
 refine T.rangeFunc (first:=[]) (fG:=[(.pointer (aD bR))]) F S7 (fun yl yq Ww=>?_)
 refine cj.mono (cj.sub (O':=oI bR 25 [(vI d.vars),(vI d.start),lm,kn]::(dY yl (lp yq none)::[jX,av none 0 56 1 (dG []),av none 0 4 1 (cI []),fA,gP,fh,eh])) (aG [1,0,0,0,0,0,0,0,0]) (Tf w d nb fb nc fc vs h hb bR (.func (.yield yl) #[] #[]) (fun k O=> ∃(ob xp:Option Addr) (oc xq:Nat) (qs:List Rec) (fs:List Bool),O=dY yl (lp yq none)::([oI z4 25 [(vI d.vars),(vN (cs.getD d.start.toNat 0)),(.slice ob qs.length oc),(.slice xp fs.length xq)],av ob oc 56 1 (dG qs),av xp xq 4 1 (cI fs),fA,gP,fh,eh]++(cg 3 qs))∧k≤d.next.length∧nums qs=(iZ d cs k).1∧fs=(iZ d cs k).2) (fun _=>False) ?_ _ ?_)) ?_
 ·intro k gw vb vc O g1 s1 hJ
  obtain⟨ob,xp,oc,xq,qs,fs,rfl,hk,Dh,oJ⟩:=hJ
  refine eH.yield Ww F F ?_
  have hkc:k<cs.length:=by omega
  have Jh:qs.length=(iZ d cs k).1.length:=by rw[←Dh];simp
  have ug:fs.length=(iZ d cs k).1.length:=by rw[oJ];exact(lq d cs k).1.symm
  have hqk:=(lq d cs k).2
  have Wy:k<d.a7.length:=by have:=hv.fin;omega
  have OS:d.next[k].length≤64:=by
   have:=hv.len _ (aN gw);have:=hv.width;omega
  have uv: ∀j (hj:j<d.next[k].length),0≤d.next[k][j]∧d.next[k][j].toNat<cs.length:=fun j hj=>by have:=hv.ok _ (aN gw) _ (aN hj);omega
  refine aj (ak F (ah (bg (ak F (ah (aV (aR (aR ?_))))))))
  let fe:Lx.Item:=oI z4 25 [(vI d.vars),(vN (cs.getD d.start.toNat 0)),(.slice ob qs.length oc),(.slice xp fs.length xq)]
  let iI:Lx.Item:=av xp xq 4 1 (cI fs)
  let lV:Lx.Item:=av ob oc 56 1 (dG qs)
  refine T.ds [fe,fA,gP] [(0,0),(1,0),(2,0),(3,0),(4,0),(5,0),(6,0),(7,0)] (fz [0,2,2] [fe,lV,iI,fA,gP,fh,eh] (cg 3 qs) F F) ?_
  refine aw F (bq 1 cL) (aw F aI (aw F (dX (i:=k) cL bF F F (dT (mG 2))) (aw F (cS ey F F (dT (mG 2)) iw) (aw F (bt dj fR) (aw F (bq 0 fp) (aw F (cQ fp) (aw F cU ?_)))))))
  refine cA ?_
  refine aZ F (fun hc=>?_) (fun hc=>?_)
  ·have yo:cs[k]<qs.length:=by omega
   have aa0:iZ d cs (k+1)=iZ d cs k:=by rw[iZ,aJ (by simp[hkc];omega)]
   refine cG ?_
   refine .inl ⟨F,ob,xp,oc,xq,qs,fs,F,by omega,?_,?_⟩
   ·rw[aa0];exact Dh
   ·rw[aa0];exact oJ
  have SE: ¬cs[k]<qs.length:=by omega
  have aa1:iZ d cs (k+1)=((iZ d cs k).1++[(gj cs d.next[k]).map fun c:Nat=>(c:Int)],(iZ d cs k).2++[d.a7[k]]):=by rw[iZ,aA (by simp[hkc];omega)];simp[gw,Wy]
  refine aL (aj (ak F (ah (aR (aj (ai F (ae (cQ cL) (ai F (ah (aV (T.fq 3 1 ?_)))))))))))
  let sQ:Value:=(.slice vb d.next[k].length vc)
  refine ek (fun(j:Nat) ρ O=> ∃(kb:Option Addr) (kc:Nat),O=([av kb kc 3 1 (bW ((gj cs d.next[k]).take j)),fe,lV,iI,fA,gP,fh,eh]++(cg 3 qs))∧j≤d.next[k].length∧df [(0,(.agg #[(vI d.vars),(vI d.start),lm,kn])),(1,(.pointer (aD z1))),(2,(.pointer (aD z2))),(3,vI 0),(4,(.pointer (aD z3))),(5,vI 0),(6,(.pointer (aD z4))),(7,vI (k:Int)),(8,sQ),(9,(.slice kb j kc)),(41,sQ),(42,vI (d.next[k].length:Int)),(43,vI (j:Int))] ρ) (fun j=>d.next[k].length-j) 0 ?_ ?_
  ·exact⟨none,0,F,bl _,(.of F)⟩
  rintro j ρ O ⟨kb,kc,rfl,hj,hH⟩
  obtain⟨gA,rfl⟩:=hH.elim
  clear hH
  refine aj (ae cU (ah (aR (aZ F (fun hc=>?_) (fun hc=>?_)))))
  ·have mn:j<d.next[k].length:=by omega
   have htj:=(uv j mn).2
   refine aL (aR (aV (aj (ae (dX (i:=j) cL bF F F (aK s1)) (ae (cS ey F F (aK s1) gL) (ak F (ah (bg (ai F (ae (bq 4 cL) (ai F (ae (G3 (i:=d.next[k][j]) cL bF F F (dT (mG 5)) (uv j mn).1 (oO▸(uv j mn).2) (by rw[ar];exact(uv j mn).2)) (ae (cS ey F F (dT (mG 5)) (iw (uv j mn).2)) (aq (cR (v:=vN (cs[d.next[k][j].toNat])) cL bF F F F (fun z5=>?_))))))))))))))))
   refine aq (dq 1 cL cL bF F F F F (by rw[ar,cw,iS];omega) (by decide) (Src.row (j:=0) F (by simp)) (by simp[fF]) (by omega) (by decide) (by decide) (fun z6 Jd=>?_))
   refine ak F ?_
   let se:Lx.Item:=av z6 Jd 3 1 ((bW ((gj cs d.next[k]).take j))++[vN (cs[d.next[k][j].toNat])])
   refine dM (O':=([se,fe,lV,iI,fA,gP,fh,eh]++(cg 3 qs))) (kZ [1,1,1,1,1,1,1,1] [av (aD z5) 1 3 1 [vN (cs[d.next[k][j].toNat])],se,fe,lV,iI,fA,gP,fh,eh] (cg 3 qs) F F) ?_
   refine ah (bg (ae (lR F F (by omega)) (ai F (ah ?_))))
   have zL:(gj cs d.next[k]).take (j+1)=(gj cs d.next[k]).take j++[cs[d.next[k][j].toNat]]:=by rw[aH (by rw[iS];exact mn),EP mn (uv j mn).2]
   exact⟨j+1,by omega,z6,Jd,by rw[zL,show bW ((gj cs d.next[k]).take j++[cs[d.next[k][j].toNat]])=bW ((gj cs d.next[k]).take j)++[vN (cs[d.next[k][j].toNat])]from bj],by omega,(.of F)⟩
  have R1: ¬j<d.next[k].length:=by omega
  refine cG ?_
  have hjf:j=d.next[k].length:=by omega
  have hR:av kb kc 3 1 (bW ((gj cs d.next[k]).take j))=Rec.qt 3 ⟨kb,kc,(gj cs d.next[k]).map fun c:Nat=>(c:Int)⟩:=by
   rw[br (by rw[iS];omega)];simp[Rec.qt,Function.comp_def]
  refine Lk (fun ρ O=> ∃(wY:Option Addr) (wZ:Nat) (tf:Option Addr) (tF:Nat),O=([oI z4 25 [(vI d.vars),(vN (cs.getD d.start.toNat 0)),(.slice wY (qs.length+1) wZ),(.slice tf (fs.length+1) tF)],av wY wZ 56 1 ((dG qs)++[(.slice kb j kc)]),av tf tF 4 1 ((cI fs)++[(.bool d.a7[k])]),fA,gP,fh,eh]++(cg 3 (qs++[⟨kb,kc,(gj cs d.next[k]).map fun c:Nat=>(c:Int)⟩])))∧df [(0,(.agg #[(vI d.vars),(vI d.start),lm,kn])),(1,(.pointer (aD z1))),(2,(.pointer (aD z2))),(3,vI 0),(4,(.pointer (aD z3))),(5,vI 0),(6,(.pointer (aD z4))),(7,vI (k:Int)),(8,sQ),(9,(.slice kb j kc)),(41,sQ),(42,vI (d.next[k].length:Int)),(43,vI (j:Int))] ρ) ?_ ?_
  ·let jy:Lx.Item:=av kb kc 3 1 (bW ((gj cs d.next[k]).take j))
   refine IZ [fe,eh] [15,17] 18 mixed F (fz [1,6] [jy,fe,lV,iI,fA,gP,fh,eh] (cg 3 qs) F F) (fun _ _ _ _ h=>h) ?_
   refine gJ 0 F (by kernel_rfl) (bt dj fR) ?_
   refine gJ 1 F (by kernel_rfl) (bq 0 fp) ?_
   refine gJ 2 F (by kernel_rfl) aI ?_
   refine gJ 5 F (by kernel_rfl) (bt dj dH) ?_
   refine gJ 6 F (by kernel_rfl) (bq 0 eI) ?_
   refine gJ 7 F (by kernel_rfl) (bt dj dH) ?_
   refine gJ 8 F (by kernel_rfl) (bq 1 eI) ?_
   refine gJ 9 F (by kernel_rfl) aI ?_
   refine gJ 10 F (by kernel_rfl) (dX (i:=k) eI fC F F (aK h.a7) Wy (by rw[ar];exact Wy)) ?_
   refine gJ 11 F (by kernel_rfl) (cS BB F F (aK h.a7) (jE Wy)) ?_
   refine gf [3,12] (by kernel_rfl) F ⟨⟨_,F,F,cR (v:=(.slice kb j kc)) fp cZ F F F (fun zA=>⟨.inr (fz [2,7] [av (aD zA) 1 56 1 [(.slice kb j kc)],jy,fe,lV,iI,fA,gP,fh,eh] (cg 3 qs) F F),?_⟩)⟩,⟨_,F,F,cR (v:=(.bool d.a7[k])) eI fC F F F (fun zB=>⟨.inr (fz [2,7] [av (aD zB) 1 4 1 [(.bool d.a7[k])],jy,fe,lV,iI,fA,gP,fh,eh] (cg 3 qs) F F),?_⟩)⟩,trivial⟩ (by kernel_rfl)
   ·let jN:Lx.Item:=av (aD zA) 1 56 1 [(.slice kb j kc)]
    refine gf [4,12] (by kernel_rfl) F ⟨⟨_,F,F,dq 3 fp fp cZ F F F F (by rw[ar];omega) (by decide) (Src.row (j:=0) F (by simp)) (by simp[fF]) (by omega) (by decide) (by decide) (fun wY wZ=>⟨.inr (fz [2,7] [jN,jy,fe,av wY wZ 56 1 ((dG qs)++[(.slice kb j kc)]),iI,fA,gP,fh,eh] (cg 3 qs) F F),?_⟩)⟩,⟨_,F,F,cR (v:=(.bool d.a7[k])) eI fC F F F (fun zB=>⟨.inr (fz [3,8] [av (aD zB) 1 4 1 [(.bool d.a7[k])],jN,jy,fe,lV,iI,fA,gP,fh,eh] (cg 3 qs) F F),?_⟩)⟩,trivial⟩ (by kernel_rfl)
    ·refine kX 14 F (by kernel_rfl) (bt dj fR) ?_
     let x9:Lx.Item:=av wY wZ 56 1 ((dG qs)++[(.slice kb j kc)])
     refine gf [12] (by kernel_rfl) F ⟨⟨_,F,F,cR (v:=(.bool d.a7[k])) eI fC F F F (fun zB=>⟨.inr (fz [3,8] [av (aD zB) 1 4 1 [(.bool d.a7[k])],jN,jy,fe,x9,iI,fA,gP,fh,eh] (cg 3 qs) F F),?_⟩)⟩,trivial⟩ (by kernel_rfl)
     refine gf [13] (by kernel_rfl) F ⟨⟨_,F,F,dq 5 eI eI fC F F F F (by rw[ar];omega) (by decide) (Src.row (j:=0) F (by simp)) (by simp[fF]) (by omega) (by decide) (by decide) (fun tf tF=>⟨.inr (fz [3,8] [av (aD zB) 1 4 1 [(.bool d.a7[k])],jN,jy,fe,x9,av tf tF 4 1 ((cI fs)++[(.bool d.a7[k])]),fA,gP,fh,eh] (cg 3 qs) F F),?_⟩)⟩,trivial⟩ (by kernel_rfl)
     refine gf [15] (by kernel_rfl) F ⟨⟨_,F,F,cq (vs:=[(.slice wY (qs.length+1) wZ)]) 3 fR ⟨.inl (by decide),?_⟩ F F F F⟩,trivial⟩ (by kernel_rfl)
     refine kX 16 F (by kernel_rfl) (bt dj dH) ?_
     refine gf [17] (by kernel_rfl) F ⟨⟨_,F,F,cq (vs:=[(.slice tf (fs.length+1) tF)]) 3 dH ⟨.inl (by decide),?_⟩ F F F F⟩,trivial⟩ (by kernel_rfl)
     exact dD (by kernel_rfl) ⟨wY,wZ,tf,tF,F,(.of F)⟩ (by show Sub _ ([av (aD zB) 1 4 1 [(.bool d.a7[k])],av (aD zA) 1 56 1 [(.slice kb j kc)],av kb kc 3 1 (bW ((gj cs d.next[k]).take j)),oI z4 25 [(vI d.vars),(vN (cs.getD d.start.toNat 0)),(.slice wY (qs.length+1) wZ),(.slice tf (fs.length+1) tF)],av wY wZ 56 1 ((dG qs)++[(.slice kb j kc)]),av tf tF 4 1 ((cI fs)++[(.bool d.a7[k])]),oI z3 56 [(.slice cb d.next.length cc)],av cb cc 3 1 (bW cs),oI z2 25 [(vI 0),(vI 0),nS,nS],oI z1 25 [(vI d.vars),(vI d.start),(.slice nb d.next.length nc),(.slice fb d.a7.length fc)]]++cg 3 qs);rw[hR];exact gq [av (aD zB) 1 4 1 [(.bool d.a7[k])],av (aD zA) 1 56 1 [(.slice kb j kc)]])
    refine gf [4] (by kernel_rfl) F ⟨⟨_,F,F,dq 4 fp fp cZ F F F F (by rw[ar];omega) (by decide) (Src.row (j:=1) F (by simp)) (by simp[fF]) (by omega) (by decide) (by decide) (fun wY wZ=>⟨.inr (fz [3,8] [av (aD zB) 1 4 1 [(.bool d.a7[k])],jN,jy,fe,av wY wZ 56 1 ((dG qs)++[(.slice kb j kc)]),iI,fA,gP,fh,eh] (cg 3 qs) F F),?_⟩)⟩,trivial⟩ (by kernel_rfl)
    refine kX 14 F (by kernel_rfl) (bt dj fR) ?_
    refine gf [13] (by kernel_rfl) F ⟨⟨_,F,F,dq 5 eI eI fC F F F F (by rw[ar];omega) (by decide) (Src.row (j:=0) F (by simp)) (by simp[fF]) (by omega) (by decide) (by decide) (fun tf tF=>⟨.inr (fz [3,8] [av (aD zB) 1 4 1 [(.bool d.a7[k])],jN,jy,fe,av wY wZ 56 1 ((dG qs)++[(.slice kb j kc)]),av tf tF 4 1 ((cI fs)++[(.bool d.a7[k])]),fA,gP,fh,eh] (cg 3 qs) F F),?_⟩)⟩,trivial⟩ (by kernel_rfl)
    refine gf [15] (by kernel_rfl) F ⟨⟨_,F,F,cq (vs:=[(.slice wY (qs.length+1) wZ)]) 3 fR ⟨.inl (by decide),?_⟩ F F F F⟩,trivial⟩ (by kernel_rfl)
    refine kX 16 F (by kernel_rfl) (bt dj dH) ?_
    refine gf [17] (by kernel_rfl) F ⟨⟨_,F,F,cq (vs:=[(.slice tf (fs.length+1) tF)]) 3 dH ⟨.inl (by decide),?_⟩ F F F F⟩,trivial⟩ (by kernel_rfl)
    exact dD (by kernel_rfl) ⟨wY,wZ,tf,tF,F,(.of F)⟩ (by show Sub _ ([av (aD zB) 1 4 1 [(.bool d.a7[k])],av (aD zA) 1 56 1 [(.slice kb j kc)],av kb kc 3 1 (bW ((gj cs d.next[k]).take j)),oI z4 25 [(vI d.vars),(vN (cs.getD d.start.toNat 0)),(.slice wY (qs.length+1) wZ),(.slice tf (fs.length+1) tF)],av wY wZ 56 1 ((dG qs)++[(.slice kb j kc)]),av tf tF 4 1 ((cI fs)++[(.bool d.a7[k])]),oI z3 56 [(.slice cb d.next.length cc)],av cb cc 3 1 (bW cs),oI z2 25 [(vI 0),(vI 0),nS,nS],oI z1 25 [(vI d.vars),(vI d.start),(.slice nb d.next.length nc),(.slice fb d.a7.length fc)]]++cg 3 qs);rw[hR];exact gq [av (aD zB) 1 4 1 [(.bool d.a7[k])],av (aD zA) 1 56 1 [(.slice kb j kc)]])
   refine gf [3] (by kernel_rfl) F ⟨⟨_,F,F,cR (v:=(.slice kb j kc)) fp cZ F F F (fun zA=>⟨.inr (fz [3,8] [av (aD zA) 1 56 1 [(.slice kb j kc)],av (aD zB) 1 4 1 [(.bool d.a7[k])],jy,fe,lV,iI,fA,gP,fh,eh] (cg 3 qs) F F),?_⟩)⟩,trivial⟩ (by kernel_rfl)
   refine gf [4] (by kernel_rfl) F ⟨⟨_,F,F,dq 4 fp fp cZ F F F F (by rw[ar];omega) (by decide) (Src.row (j:=0) F (by simp)) (by simp[fF]) (by omega) (by decide) (by decide) (fun wY wZ=>⟨.inr (fz [3,8] [av (aD zA) 1 56 1 [(.slice kb j kc)],av (aD zB) 1 4 1 [(.bool d.a7[k])],jy,fe,av wY wZ 56 1 ((dG qs)++[(.slice kb j kc)]),iI,fA,gP,fh,eh] (cg 3 qs) F F),?_⟩)⟩,trivial⟩ (by kernel_rfl)
   refine kX 14 F (by kernel_rfl) (bt dj fR) ?_
   refine gf [13] (by kernel_rfl) F ⟨⟨_,F,F,dq 5 eI eI fC F F F F (by rw[ar];omega) (by decide) (Src.row (j:=1) F (by simp)) (by simp[fF]) (by omega) (by decide) (by decide) (fun tf tF=>⟨.inr (fz [3,8] [av (aD zA) 1 56 1 [(.slice kb j kc)],av (aD zB) 1 4 1 [(.bool d.a7[k])],jy,fe,av wY wZ 56 1 ((dG qs)++[(.slice kb j kc)]),av tf tF 4 1 ((cI fs)++[(.bool d.a7[k])]),fA,gP,fh,eh] (cg 3 qs) F F),?_⟩)⟩,trivial⟩ (by kernel_rfl)
   refine gf [15] (by kernel_rfl) F ⟨⟨_,F,F,cq (vs:=[(.slice wY (qs.length+1) wZ)]) 3 fR ⟨.inl (by decide),?_⟩ F F F F⟩,trivial⟩ (by kernel_rfl)
   refine kX 16 F (by kernel_rfl) (bt dj dH) ?_
   refine gf [17] (by kernel_rfl) F ⟨⟨_,F,F,cq (vs:=[(.slice tf (fs.length+1) tF)]) 3 dH ⟨.inl (by decide),?_⟩ F F F F⟩,trivial⟩ (by kernel_rfl)
   exact dD (by kernel_rfl) ⟨wY,wZ,tf,tF,F,(.of F)⟩ (by show Sub _ ([av (aD zA) 1 56 1 [(.slice kb j kc)],av (aD zB) 1 4 1 [(.bool d.a7[k])],av kb kc 3 1 (bW ((gj cs d.next[k]).take j)),oI z4 25 [(vI d.vars),(vN (cs.getD d.start.toNat 0)),(.slice wY (qs.length+1) wZ),(.slice tf (fs.length+1) tF)],av wY wZ 56 1 ((dG qs)++[(.slice kb j kc)]),av tf tF 4 1 ((cI fs)++[(.bool d.a7[k])]),oI z3 56 [(.slice cb d.next.length cc)],av cb cc 3 1 (bW cs),oI z2 25 [(vI 0),(vI 0),nS,nS],oI z1 25 [(vI d.vars),(vI d.start),(.slice nb d.next.length nc),(.slice fb d.a7.length fc)]]++cg 3 qs);rw[hR];exact gq [av (aD zA) 1 56 1 [(.slice kb j kc)],av (aD zB) 1 4 1 [(.bool d.a7[k])]])
  rintro ρ O ⟨wY,wZ,tf,tF,rfl,hH⟩
  obtain⟨gA,rfl⟩:=hH.elim
  clear hH
  refine .inl ⟨F,wY,tf,wZ,tF,qs++[⟨kb,kc,(gj cs d.next[k]).map fun c:Nat=>(c:Int)⟩],fs++[d.a7[k]],?_,by omega,?_,?_⟩
  ·simp[Rec.val,iS,hjf]
  ·rw[aa1,←Dh];simp
  ·rw[aa1,oJ]
 ·refine⟨none,none,0,0,[],[],?_,bl _,F,F⟩
  rfl
 rintro v O' (⟨ob,xp,oc,xq,qs,fs,rfl,hk,Dh,oJ⟩|hF)
 rotate_left
 ·exact hF.elim
 refine⟨none,_,F,?_⟩
 refine aR ?_
 have Jh:qs.length=(quo d cs).next.length:=by rw[show qs.length=(nums qs).length by simp,Dh];rfl
 obtain rfl:fs=(quo d cs).a7:=oJ
 rw[Jh]
 refine bg (ae (eN 0 dj bN) ?_)
 let pv:Lx.Item:=oI z4 25 [(vI d.vars),(vN (cs.getD d.start.toNat 0)),(.slice ob ((quo d cs).next.length) oc),(.slice xp ((quo d cs).a7.length) xq)]
 let oE:Lx.Item:=oI z1 25 [(vI d.vars),(vI d.start),(.slice nb d.next.length nc),(.slice fb d.a7.length fc)]
 let qM:Lx.Item:=av xp xq 4 1 (cI (quo d cs).a7)
 let wP:Lx.Item:=oI z3 56 [(.slice cb d.next.length cc)]
 let wQ:Lx.Item:=av ob oc 56 1 (dG qs)
 let Co:Lx.Item:=av cb cc 3 1 (bW cs)
 have DD:=fun(w1:World) (hI:Inv w ([pv,wQ,qM,wP,Co,fh,oE]++(cg 3 qs)) w1)=>(haveI:=ef hI;Rt w1 (quo d cs) ob xp oc xq (dG qs) ⟨hI.gV (mG 1),(show nums qs=(quo d cs).next from Dh)▸hI.X4 (fun q hq=>ao _ (List.mem_map_of_mem (f:=Rec.qt 3) hq)),hI.gV (mG 2)⟩ hqv hqn)
 refine aq (bm aav (aX DD) ?_)
 clear DD
 rintro v O' ⟨N,rfl,C2,C3,pt,pu,qs',rfl,rfl,Pb⟩
 refine dM (O':=([av C2 C3 56 1 (dG qs'),av pt pu 4 1 (cI (eo (quo d cs)).a7),pv,wQ,qM,wP,Co,fh,oE]++((cg 3 qs')++(cg 3 qs)))) (gq []) ?_
 refine ae (bI (vs:=_)) (ae (bI (vs:=_)) (aq (cq (vs:=[(vI (eo (quo d cs)).vars),(vI (eo (quo d cs)).start),(.slice C2 ((eo (quo d cs)).next.length) C3),(.slice pt ((eo (quo d cs)).a7.length) pu)]) 7 bN ?_)))
 refine ak F (ah (aM (aB ?_)))
 refine j8 (vI 0) (i:=7) results23 dj F bN F F F F ?_
 exact⟨[av C2 C3 56 1 (dG qs'),av pt pu 4 1 (cI (eo (quo d cs)).a7)]++cg 3 qs',gq ([pv,wQ,qM,wP,Co,oI z2 25 [(vI (eo (quo d cs)).vars),(vI (eo (quo d cs)).start),(.slice C2 ((eo (quo d cs)).next.length) C3),(.slice pt ((eo (quo d cs)).a7.length) pu)],oE]++cg 3 qs),C2,C3,pt,pu,qs',F,F,Pb⟩
theorem aec (w:World) [dA prog w] (d:cV) (nb fb:Option Addr) (nc fc:Nat) (vs:List Value) (h:jB w d nb vs fb) (hb:d.next.length<9223372036854775807) (w7: ∀r∈d.next,r.length<9223372036854775807) (zH:d.a7.length<9223372036854775807) (hn:Valid d→d.next.length<10000):
  cn prog 23 [.agg (fE d nb nc fb fc).toArray] w fun v N=> ∃C2 C3 pt pu qs,v=.tuple #[.agg (fE (CA d) C2 C3 pt pu).toArray,.int .i64 (dL d:Int)]∧N=[av C2 C3 56 1 (dG qs),av pt pu 4 1 (cI (CA d).a7)]++cg 3 qs∧nums qs=(CA d).next:=by
 unfold CA
 by_cases he:dL d=0
 ·have hv:=eF.1 he
  obtain⟨q1,q2⟩:=H1 hv d.next.length
  rw[he,aJ F]
  exact aaZ w d nb fb nc fc vs h hv (hn hv) q1 (by have:=hn hv;omega)
 ·rw[aA he]
  refine(gn 56 1 (gn 4 1 (WI w d nb fb nc fc vs h hb w7 zH he))).mono ?_
  rintro v N ⟨O2,rfl,O3,rfl,rfl,rfl⟩
  exact⟨none,0,none,0,[],F,F,F⟩
theorem gG.u8 {P:Program} {kt:TypeId} {k:IntKind} (hu:P.underlying kt=some (.int k)):gG P kt (fun a:Nat=>Value.int .u8 (a:Int)) where
 check:=fun e a w=>by
  show(Instr.checkKey e (9999+1) kt _).run P w=_
  rw[Instr.checkKey]
  simp[bw hu,str]
 find:=fun es ks a w h=>by
  have key: ∀(es:List MapEntry) (ks:List Nat) (i:Nat),es.map (·.key)=ks.map (fun a:Nat=>Value.int .u8 (a:Int))→Instr.findNow (.int k) (.int .u8 (a:Int)) es i=some (lT a ks es i):=by
   intro es
   induction es with
   |nil=>intro ks i h;cases ks<;>simp_all[Instr.findNow,lT]
   |cons e es ih=>
    intro ks i h
    cases ks with
    |nil=>simp at h
    |cons b ks=>
     simp only[cD,List.cons.injEq]at h
     simp only[Instr.findNow,h.1,Instr.sameNow,if_true,lT]
     by_cases e:a=b
     ·simp[e]
     ·have:((a:Int)==(b:Int))=false:=by rw[beq_eq_false_iff_ne];omega
      simp[this,e,ih ks (i+1) h.2]
  simp[Instr.findKey,bw hu,key es ks 0 h]
def jD:Nat→List UInt8×List UInt8×List UInt8
 |4=>([40],[46],[41])|5=>([40],[124],[41])|6=>([40],[38],[41])|7=>([40,126],[],[41])|8=>([40],[],[42,41])|9=>([40,62],[],[41])|10=>([40,60],[],[41])|_=>([],[],[])
def dU (n:Nat):Nat:=if n=4∨n=5∨n=6 then 2 else if n=7∨n=8∨n=9∨n=10 then 1 else 0
def Ec (n:Nat):Value:=.agg #[vI (dU n:Int),str (jD n).1,str (jD n).2.1,str (jD n).2.2]
abbrev AS (m:Nat):Lx.Item:=dO (fun a:Nat=>Value.int .u8 (a:Int)) Ec m [(4,4),(5,5),(6,6),(7,7),(8,8),(9,9),(10,10)]
theorem uw (n:Nat):((mq n [(4,4),(5,5),(6,6),(7,7),(8,8),(9,9),(10,10)]).map Ec).getD (.agg #[vI 0,str [],str [],str []])=Ec n:=by
 by_cases h:4≤n∧n≤10
 ·obtain⟨h1,h2⟩:=h
  have:n=4∨n=5∨n=6∨n=7∨n=8∨n=9∨n=10:=by omega
  rcases this with rfl|rfl|rfl|rfl|rfl|rfl|rfl<;>rfl
 ·have h4:n≠4:=by omega
  have h5:n≠5:=by omega
  have h6:n≠6:=by omega
  have h7:n≠7:=by omega
  have h8:n≠8:=by omega
  have h9:n≠9:=by omega
  have wU:n≠10:=by omega
  have hx:jD n=([],[],[]):=by unfold jD;split<;>first|omega|rfl
  have hc:dU n=0:=by unfold dU;rw[aA (by omega),aA (by omega)]
  unfold Ec;rw[hx,hc]
  simp[mq,h4,h5,h6,h7,h8,h9,wU]
def BF (v p n:Nat):Nat:=if 2^v≤(p|||n)then 7 else if p&&&n≠0 then 2 else 0
def oF (v:Nat) (x:eC):Nat:=if x.op<1∨10<x.op then 6 else if(x.op≠3∧(x.p|||x.n)≠0)∨(dU x.op<1∧x.a≠0)∨(dU x.op<2∧x.b≠0)then 2 else if x.op=3 then BF v x.p x.n else 0
theorem pW (w:World) [dA prog w]:
  cn prog 56 [] w fun v N=> ∃m,v=.map (some m)∧N=[AS m]:=by
 refine aE func56 F ntmps56 F ?_
 refine aj (ak F (ah (aj (aq (l7 (fun a:Nat=>Value.int .u8 (a:Int)) Ec (fun m1=>?_))))))
 refine ae (cT (cs:=[vI 2,(str [40]),(str [46]),(str [41])]) s_ lX (by kernel_rfl)) (aq (gg (a:=(4:Nat)) (v:=(4:Nat)) 0 wW (gG.u8 gH) F F F F (by decide) ?_))
 refine ae (cT (cs:=[vI 2,(str [40]),(str [124]),(str [41])]) s_ lX (by kernel_rfl)) (aq (gg (a:=(5:Nat)) (v:=(5:Nat)) 0 wW (gG.u8 gH) F F F F (by decide) ?_))
 refine ae (cT (cs:=[vI 2,(str [40]),(str [38]),(str [41])]) s_ lX (by kernel_rfl)) (aq (gg (a:=(6:Nat)) (v:=(6:Nat)) 0 wW (gG.u8 gH) F F F F (by decide) ?_))
 refine ae (cT (cs:=[vI 1,(str [40,126]),(str []),(str [41])]) s_ lX (by kernel_rfl)) (aq (gg (a:=(7:Nat)) (v:=(7:Nat)) 0 wW (gG.u8 gH) F F F F (by decide) ?_))
 refine ae (cT (cs:=[vI 1,(str [40]),(str []),(str [42,41])]) s_ lX (by kernel_rfl)) (aq (gg (a:=(8:Nat)) (v:=(8:Nat)) 0 wW (gG.u8 gH) F F F F (by decide) ?_))
 refine ae (cT (cs:=[vI 1,(str [40,62]),(str []),(str [41])]) s_ lX (by kernel_rfl)) (aq (gg (a:=(9:Nat)) (v:=(9:Nat)) 0 wW (gG.u8 gH) F F F F (by decide) ?_))
 refine ae (cT (cs:=[vI 1,(str [40,60]),(str []),(str [41])]) s_ lX (by kernel_rfl)) (aq (gg (a:=(10:Nat)) (v:=(10:Nat)) 0 wW (gG.u8 gH) F F F F (by decide) ?_))
 refine ai F (ak F (ah (aM (aB ?_))))
 refine aT (.map (some m1)) results56 F ?_
 exact⟨[AS m1],Sub.rf,m1,F,F⟩
theorem Gl (w:World) [dA prog w] (p n v:Nat) (hp:p<256) (hn:n<256) (hv:v≤6):
  cn prog 171 [.agg #[v8 p,v8 n],vN v] w fun r N=>r=vI (BF v p n:Int)∧N=[]:=by
 refine aE func171 F ntmps171 F ?_
 have Kt:2^v≤2^6:=bV (by decide) hv
 have hor:(p|||n)<2^8:=Nat.or_lt_two_pow hp hn
 refine aj (aq (dE (cs:=[v8 p,v8 n]) (fun n5=>?_)))
 refine ak F (ah (aR (aV (aR (aj (ai F (ae (aC cU (am (by omega))) (ai F (aF aI (aF (aC ij (am (by omega))) (ae bX (ak F (ah (a8 ?_))))))))))))))
 refine fS [(0,0),(1,0),(2,0),(3,0),(4,0),(5,0),(6,0),(7,0),(8,0),(9,0)] ?_
 refine aw F (bt lA eD) (aw F (bq 0 gH) (aw F (bt lA eD) (aw F (bq 0 gH) (aw F (T5 (a:=p) (b:=n) .u8 F F (by simp only[IntKind.bits];omega) (by simp only[IntKind.bits];omega)) (aw F (fU gH ey F (gD (by omega))) (aw F aI (aw F (nA (v:=v) F F (by omega)) (aw F kV (aw F cx ?_)))))))))
 refine cA ?_
 refine aZ F (fun hc=>?_) (fun hc=>?_)
 ·have acv:p|||n≥2^v:=by omega
  refine aj (ak F (ah (aM (aB ?_))))
  refine aT (vI 7) results171 F ?_
  exact⟨[],Sub.z,by unfold BF;rw[aJ (by omega)];rfl,F⟩
 have acw: ¬p|||n≥2^v:=by omega
 refine aj (ae (bt lA eD) (ae (bq 0 gH) (ae (bt lA eD) (ae (bq 0 gH) (ae (G5 (a:=p) (b:=n) .u8 F F (by show _<256;omega) (by show _<256;omega)) (ae dW (ak F (ah (aZ F (fun hc=>?_) (fun hc=>?_))))))))))
 ·have vQ:p&&&n≠0:=by omega
  refine aj (ak F (ah (aM (aB ?_))))
  refine aT (vI 2) results171 F ?_
  exact⟨[],Sub.z,by unfold BF;rw[aA (by omega),aJ (by omega)];rfl,F⟩
 have xF: ¬p&&&n≠0:=by omega
 refine aL (aj (ak F (ah (aM (aB ?_)))))
 refine aT (vI 0) results171 F ?_
 exact⟨[],Sub.z,by unfold BF;rw[aA (by omega),aA (by omega)];rfl,F⟩
end Go.Proofs.YtgdbfideeeegmaaGreatDoor

