/- Contracts of functions; conditions: those each theorem names. -/
import Derived.Test.YtgdbfideeeegmaaGreatDoorB1
set_option linter.unusedSectionVars false
set_option linter.unusedSimpArgs false
set_option linter.unusedVariables false
set_option linter.unnecessarySimpa false
set_option maxHeartbeats 8000000
set_option maxRecDepth 20000
namespace Go.Lx
open Go.RowKit Go.Proofs.YtgdbfideeeegmaaGreatDoor
def kV:c_:=⟨1,0,[[0,1],[2,3],[0,1],[2,3]],[false,false,true,true]⟩
def TJ:c_:=⟨0,0,[[1],[2],[2]],[false,true,false]⟩
theorem Kg:Valid kV:=eL.1 (by decide)
theorem Kh:Valid TJ:=eL.1 (by decide)
theorem Rn:jD TJ=TJ:=by kernel_rfl
theorem Ro:MI TJ=H6:=by kernel_rfl
theorem Rq:Q7 TJ=0:=by kernel_rfl
theorem Rr:jD kV=kV:=by kernel_rfl
theorem ZL:u3 AE=.iG (.star (.letter 0 0)) (.iG (.letter 1 0) (.letter 0 0)):=by kernel_rfl
theorem Rs:u3 u0=.iG (.ahead (.iG (.letter 0 0) (.letter 2 0))) (.star (.letter 0 0)):=by kernel_rfl
theorem okL {v:Nat} (hv:v≤6) (p n:Nat) {B:Nat} (hB:3≤B):kZ v (.letter p n) B:=bE (oU (gl p n) hv (aI 1)).qJ.len hB
theorem xE {v:Nat} (hv:v≤6) (p n:Nat):fV (v:Int) 3 (minOf v (fM (.letter p n))) (fM (.letter p n)):=dw hv (by decide) (t:=.letter p n) F (okL hv p n (aI 3))
theorem okS {v:Nat} (hv:v≤6):kZ v (.star (.letter 0 0)) 4096:=
 ⟨okL hv 0 0 (by decide),u4 (xE hv 0 0).valid (bE (ck (by decide) (Nat.succ_le_succ (xE hv 0 0).len)) (by decide))⟩
theorem okP {v:Nat} (hv:v≤6) (p n q m:Nat):kZ v (.iG (.letter p n) (.letter q m)) 4096:=
 ⟨okL hv p n (by decide),okL hv q m (by decide),lu (xE hv p n).valid (xE hv q m).valid (bE (Nat.mul_le_mul (xE hv p n).len (ck (by decide) (xE hv q m).len)) (by decide))⟩
theorem ZM {v:Nat} (hv:v≤6) (p n q m:Nat):fV (v:Int) 24 (minOf v (fM (.iG (.letter p n) (.letter q m)))) (fM (.iG (.letter p n) (.letter q m))):=
 lw hv (by decide) (xE hv p n).toHasL (xE hv q m).toHasL (lu (xE hv p n).valid (xE hv q m).valid (Nat.mul_le_mul (xE hv p n).len (ck (by decide) (xE hv q m).len)))
theorem D8 (u:List Nat):rM (fM (.letter 0 0)) u=true:=by
 rw[sK]
 induction u with
 |nil=>exact .nil
 |cons x u ih=>
  refine jh.tP (x:=[x]) ?_ ih
  show([x].length==1&& [x].all (gl 0 0))=true
  simp[gl]
theorem Rt {p n:Nat} {y:List Nat} (h:fM (.letter p n) y=true): ∃x,y=[x]∧gl p n x=true:=by
 have h:(y.length==1&&y.all (gl p n))=true:=h
 rw[ar,beq_iff_eq]at h
 obtain⟨x,rfl⟩:=List.length_eq_one_iff.1 h.1
 exact⟨x,F,by simpa using h.2⟩
theorem TK {v:Nat} (hv:v≤6):HasL (v:Int) 1 (gg (v:Int) true) (fM (.star (.letter 0 0))):=
 ⟨(fw hv).valid,(fw hv).len,F,fun w hw=>by rw[(fw hv).jf w hw];exact(D8 w).symm⟩
theorem M5 {p n q m:Nat} {w:List Nat}:fM (.iG (.letter p n) (.letter q m)) w=true↔ ∃a b,w=[a,b]∧gl p n a=true∧gl q m b=true:=by
 constructor
 ·intro h
  obtain⟨y1,y2,rfl,h3,h4⟩:=ir.1 h
  obtain⟨a,rfl,ha⟩:=Rt h3
  obtain⟨b,rfl,hb⟩:=Rt h4
  exact⟨a,b,F,ha,hb⟩
 ·rintro⟨a,b,rfl,ha,hb⟩
  refine ir.2 ⟨[a],[b],F,?_,?_⟩
  ·show([a].length==1&& [a].all (gl p n))=true
   simp[ha]
  ·show([b].length==1&& [b].all (gl q m))=true
   simp[hb]
theorem sink {E:c_} {L s:Nat} (h: ∀x,x<L→fm E s x=s): ∀(u:List Nat),(∀x∈u,x<L)→runN E s u=s
 | [],_=>rfl
 |x::u,hu=>by
  show runN E (fm E s x) u=s
  rw[h x (hu x (by simp))]
  exact sink h u fun y hy=>hu y (by simp[hy])
def VG:c_:=⟨1,0,[[1,2],[1,1],[3,3],[1,1]],[false,false,false,true]⟩
theorem Ru:HasL (1:Nat) 4 VG (fM (.iG (.letter 1 0) (.letter 0 0))):=by
 refine⟨eL.1 (by decide),by decide,F,fun w hw=>?_⟩
 have hs:=sink (E:=VG) (L:=2) (s:=1) (by decide)
 rw[dN,M5]
 match w,hw with
 | [],_=>exact⟨fun h=>absurd h (by decide),fun⟨a,b,h,_⟩=>by cases h⟩
 | [a],hw=>
  have: ∀a,a<2→jf VG [a]=false:=by decide
  exact⟨fun h=>absurd h (by rw[this a (hw a (by simp))];decide),fun⟨a,b,h,_⟩=>by cases h⟩
 | [a,b],hw=>
  have: ∀a,a<2→ ∀b,b<2→jf VG [a,b]=gl 1 0 a:=by decide
  rw[this a (hw a (by simp)) b (hw b (by simp))]
  exact⟨fun h=>⟨a,b,F,h,by simp[gl]⟩,fun⟨a',b',h,h2,_⟩=>by cases h;exact h2⟩
 |a::b::c::u,hw=>
  have: ∀a,a<2→ ∀b,b<2→ ∀c,c<2→runN VG 0 [a,b,c]=1:=by decide
  refine⟨fun h=>?_,fun⟨a,b,h,_⟩=>by cases h⟩
  have h:dR VG (runN VG 0 ([a,b,c]++u))=true:=h
  rw[lE,this a (hw a (by simp)) b (hw b (by simp)) c (hw c (by simp)),hs u fun x hx=>hw x (by simp[hx])]at h
  exact absurd h (by decide)
theorem ad9:AF 1 AE 4096:=by
 unfold AF;rw[aq (by decide),ZL]
 have h1:=dw (v:=1) (by decide) (aI 4096) (t:=.star (.letter 0 0)) F (okS (by decide))
 have h2:=ZM (v:=1) (by decide) 1 0 0 0
 exact⟨okS (by decide),okP (by decide) 1 0 0 0,lu h1.valid h2.valid (bE (Nat.mul_le_mul (h1.w5 (TK (by decide))) (ck (by decide) (h2.w5 Ru))) (by decide))⟩
def Rv:c_:=⟨2,0,[[1,1,1,1],[2,2,3,3],[2,2,2,2],[3,3,3,3]],[false,false,false,true]⟩
theorem Rw:fV (2:Nat) 4 Rv (iV (fM (.iG (.letter 0 0) (.letter 2 0))) fun _=>true):=by
 refine⟨⟨eL.1 (by decide),by decide,F,fun w hw=>?_⟩,by kernel_rfl⟩
 have s2:=sink (E:=Rv) (L:=4) (s:=2) (by decide)
 have s3:=sink (E:=Rv) (L:=4) (s:=3) (by decide)
 rw[dN,ir]
 have qm: ∀x y:List Nat,w=x++y→fM (.iG (.letter 0 0) (.letter 2 0)) x=true→ ∃a b,w=a::b::y∧gl 2 0 b=true:=fun x y h h2=>by
  obtain⟨a,b,rfl,_,hb⟩:=M5.1 h2
  exact⟨a,b,h,hb⟩
 match w,hw,qm with
 | [],_,qm=>exact⟨fun h=>absurd h (by decide),fun⟨x,y,h,h2,_⟩=>by obtain⟨a,b,h3,_⟩:=qm x y h h2;cases h3⟩
 | [a],hw,qm=>
  have: ∀a,a<4→jf Rv [a]=false:=by decide
  exact⟨fun h=>absurd h (by rw[this a (hw a (by simp))];decide),fun⟨x,y,h,h2,_⟩=>by obtain⟨a,b,h3,_⟩:=qm x y h h2;cases h3⟩
 |a::b::u,hw,qm=>
  have hu: ∀x∈u,x<4:=fun x hx=>hw x (by simp[hx])
  have e:jf Rv (a::b::u)=gl 2 0 b:=by
   have: ∀a,a<4→ ∀b,b<4→runN Rv 0 [a,b]=if gl 2 0 b=true then 3 else 2:=by decide
   show dR Rv (runN Rv 0 ([a,b]++u))=_
   rw[lE,this a (hw a (by simp)) b (hw b (by simp))]
   split
   ·rename_i h;rw[s3 u hu,h];rfl
   ·rename_i h;rw[s2 u hu,Bool.eq_false_iff.2 h];rfl
  rw[e]
  exact⟨fun h=>⟨[a,b],u,F,M5.2 ⟨a,b,F,by simp[gl],h⟩,F⟩,fun⟨x,y,h,h2,_⟩=>by obtain⟨a',b',h3,h4⟩:=qm x y h h2;cases h3;exact h4⟩
def exJ:c_:=⟨2,0,[[0,0,0,0]],[true]⟩
theorem Ry:fV (2:Nat) 4 exJ (fM (.star (.letter 0 0))):=by
 have h:=TK (v:=2) (by decide)
 rw[show gg ((2:Nat):Int) true=exJ by kernel_rfl]at h
 exact⟨h.le (by decide),by kernel_rfl⟩
def Qo:List Lf:=[⟨9,Rv,[1],false⟩,⟨0,exJ,[],true⟩]
theorem Ki:jN 2 (u3 u0)=Qo∧Kj 2 (u3 u0)=[0]:=by
 rw[Rs]
 have e1:jN 2 (.iG (.ahead (.iG (.letter 0 0) (.letter 2 0))) (.star (.letter 0 0)))=[⟨9,minOf 2 (iV (fM (.iG (.letter 0 0) (.letter 2 0))) fun _=>true),[1],false⟩,⟨0,minOf 2 (fM (.star (.letter 0 0))),[],true⟩]:=rfl
 rw[e1,←iC Rw (by decide),←iC Ry (by decide)]
 exact⟨F,F⟩
theorem ZN:okB 2 (u3 u0) 4096:=by
 rw[Rs]
 have h2:=ZM (v:=2) (by decide) 0 0 2 0
 have hs:=fw (v:=2) (by decide)
 exact⟨⟨okP (by decide) 0 0 2 0,lu h2.valid hs.valid (bE (Nat.mul_le_mul h2.len (ck (by decide) hs.len)) (by decide))⟩,okS (by decide)⟩
theorem VH:iW Qo 2:=by
 have h:=Cn (v:=2) (by decide) (aI 4096) (t:=u3 u0) (by rw[Rs];rfl) (by rw[Rs];decide) ZN
 rw[Ki.1]at h;exact h
theorem aea:AF 2 u0 4096:=by
 unfold AF;rw[aB (by decide)]
 refine⟨ZN,?_⟩
 unfold VI
 rw[Ki.1,Ki.2]
 exact VJ VH ⟨F,F,F,F,F,F,F⟩ (by decide)
theorem ZO:rN (jN 2 (u3 u0)) 19:=by rw[Ki.1];exact H7 (by decide)
theorem ZP: ∀r,r<4→ ∀a,a<2→ ∀b,b<2→fm kV (fm kV r a) b=2*a+b:=by decide
theorem ZQ: ∀a,a<2→ ∀b,b<2→dR kV (2*a+b)=gl 1 0 a:=by decide
theorem GB: ∀(u:List Nat) (r:Nat),r<4→iS (1:Nat) u→runN kV r u<4
 | [],r,h,_=>h
 |x::u,r,h,hw=>by
  have hx:x<2:=hw x (by simp)
  have: ∀r,r<4→ ∀a,a<2→fm kV r a<4:=by decide
  exact GB u (fm kV r x) (this r h x hx) fun y hy=>hw y (by simp[hy])
theorem Rz (w:List Nat) (hw:iS (1:Nat) w):jf kV w=fM (u3 AE) w:=by
 rw[ZL,dN]
 constructor
 ·intro h
  rcases List.eq_nil_or_concat w with rfl|⟨x,b,rfl⟩
  ·exact absurd h (by decide)
  ·rcases List.eq_nil_or_concat x with rfl|⟨x,a,rfl⟩
   ·have hb:b<2:=hw b (by simp)
    have: ∀b,b<2→jf kV [b]=false:=by decide
    have h:jf kV [b]=true:=h
    rw[this b hb]at h;cases h
   ·rw[List.concat_eq_append,List.concat_eq_append]at*
    have ha:a<2:=hw a (by simp)
    have hb:b<2:=hw b (by simp)
    have hx:runN kV 0 x<4:=GB x 0 (by decide) fun y hy=>hw y (by simp[hy])
    have h:dR kV (runN kV 0 (x++[a]++[b]))=true:=h
    rw[lE,lE]at h
    have h:dR kV (fm kV (fm kV (runN kV 0 x) a) b)=true:=h
    rw[ZP _ hx a ha b hb,ZQ a ha b hb]at h
    refine ir.2 ⟨x,[a]++[b],by simp,D8 x,ir.2 ⟨[a],[b],F,?_,?_⟩⟩
    ·show([a].length==1&& [a].all (gl 1 0))=true
     simp[h]
    ·show([b].length==1&& [b].all (gl 0 0))=true
     simp[gl]
 ·intro h
  obtain⟨x,y,rfl,_,h2⟩:=ir.1 h
  obtain⟨y1,y2,rfl,h3,h4⟩:=ir.1 h2
  obtain⟨a,rfl,ha⟩:=Rt h3
  obtain⟨b,rfl,_⟩:=Rt h4
  have Vs:a<2:=hw a (by simp)
  have FW:b<2:=hw b (by simp)
  have hx:runN kV 0 x<4:=GB x 0 (by decide) fun y hy=>hw y (by simp[hy])
  show dR kV (runN kV 0 (x++([a]++[b])))=true
  rw[lE,lE]
  show dR kV (fm kV (fm kV (runN kV 0 x) a) b)=true
  rw[ZP _ hx a Vs b FW,ZQ a Vs b FW,ha]
theorem M6:fV (1:Nat) 4096 kV (nw 1 AE):=by
 unfold nw;rw[aq (by decide)]
 exact⟨⟨Kg,by decide,F,Rz⟩,Rr⟩
theorem ZR {M:c_} (h:fV (1:Nat) 4096 M (nw 1 AE)):M=kV:=fV.ext h M6 fun _ _=>rfl
theorem VK {M:c_} (h:fV (2:Nat) 4096 M (nw 2 u0)) {u:List Nat} (hu: ∀x∈u,x<4) (hl:u.length≤64):k_ M u=0∧Av M u=qt (u.foldl (jJ Qo) (iz Qo [0])):=by
 have hw:iS (2:Nat) u:=hu
 have h0:k_ M u=0:=v7.2 ⟨h.valid,hl,h.toHasL.wd.2 hw⟩
 refine⟨h0,?_⟩
 rw[JK h0,h.jf u hw]
 unfold nw Yn;rw[aB (by decide),Ki.1,Ki.2]
theorem VL:qt ([0,3,0].foldl (jJ Qo) (iz Qo [0]))=true:=by decide+kernel
theorem VM:qt ([3,1,2].foldl (jJ Qo) (iz Qo [0]))=false:=by decide+kernel
end Go.Lx

namespace Go.Proofs.YtgdbfideeeegmaaGreatDoor
open Go.Lx Go.RowKit _root_.Go.Proofs.Tryz
theorem XX {vars:Int} {l:List Nat} (h:LH vars l=0):iS vars l:=by
 unfold LH at h
 split at h
 ·cases h
 ·split at h
  ·cases h
  ·rename_i c
   intro x hx
   simp only[df,cj,not_exists,not_and,Nat.not_le]at c
   exact c x hx
theorem PU {vars:Int} {e:List ei} {l:List Nat} {D:c_} {B:Nat} (hB:B≤4096) (h0:gJ vars e=0) (FV:e.length≤24) (hM:fV vars B D (nw vars.toNat e)) (ho:AF vars.toNat e B):mE vars e l=k_ D l∧mV vars e l=Av D l:=by
 have e0:mE vars e l=LH vars l:=aq (by rw[h0];exact fun h=>h F)
 have e1:k_ D l=LH vars l:=SO hM l
 refine⟨e0.trans e1.symm,?_⟩
 unfold mV Av
 rw[e0,e1]
 by_cases hz:LH vars l=0
 ·rw[aB hz,aB hz]
  have hw:=XX hz
  obtain⟨h1,h2,h3,h4,fs,h5,h6,h7⟩:=nG h0
  have lP:(u3 e).wf=true:=(qz h5 e.length (e.length-1) (by omega) (by omega)).2 h7
  have h8:=hM.jf l hw
  unfold jf at h8
  rw[h8,PH hB h0 ho FV hw,aco lP (bj _) (aI _)]
 ·rw[aq hz,aq hz]
def F5 (vars f_:Int) (e:List ei):Nat:=if gJ vars e=0∧(f_<1∨4096<f_)then 1 else gJ vars e
theorem PC {vars f_:Int} {e:List ei} (h:gJ vars e=0) (h2:f_<1∨4096<f_):F5 vars f_ e=1:=aB ⟨h,h2⟩
theorem Fx {vars f_:Int} {e:List ei} (h: ¬(gJ vars e=0∧(f_<1∨4096<f_))):F5 vars f_ e=gJ vars e:=aq h
structure afJ (vars f_:Int) (e:List ei) (l:List Nat) (D:c_) (er:Nat) (x:Bool) (r:Nat):Prop where
 a:F5 vars f_ e≠0∨er≠0→(F5 vars f_ e=er∨(F5 vars f_ e=0∧er=10∧(8<e.length∨f_<4096)))∧r=er∧x=false∧D.next.length=0
 b:er=0→mE vars e l=r∧mV vars e l=x∧Valid D∧jD D=D∧D.vars=vars∧(D.next.length:Int)≤f_∧D.next.length<10000
theorem afs {vars f_:Int} {e:List ei} {l:List Nat} {D:c_} {er:Nat} {x:Bool} {r:Nat} (FV:e.length≤24) (h:FrU (gJ vars e) f_ (fun M=>fV vars f_.toNat M (nw vars.toNat e)∧AF vars.toNat e f_.toNat) (¬AF vars.toNat e f_.toNat) D er) (hA:acl vars f_ e l x r):afJ vars f_ e l D er x r:=by
 obtain⟨D',er',h',hA⟩:=hA
 have hee:er'=er:=by
  rcases h with⟨e1,e2,_⟩|⟨e1,e2,e3,_⟩|⟨e1,e2,⟨e3,_,e4⟩|⟨e3,_,e4⟩⟩<;>rcases h' with⟨f1,f2,_⟩|⟨f1,f2,f3,_⟩|⟨f1,f2,⟨f3,_,f4⟩|⟨f3,_,f4⟩⟩<;>first|omega|exact absurd e4 f4|exact absurd f4 e4
 rw[hee]at h' hA
 constructor
 ·intro hz
  have hn:er≠0→r=er∧x=false:=fun c=>by
   rcases hA with⟨_,h1,h2⟩|⟨h1,_⟩
   ·exact⟨h2,h1⟩
   ·exact absurd h1 c
  rcases h with⟨e1,e2,e3⟩|⟨e1,e2,e3,e4⟩|⟨e1,e2,⟨e3,hM,e4⟩|⟨e3,e4,e5⟩⟩
  ·have:=Fx (vars:=vars) (f_:=f_) (e:=e) (fun c=>e1 c.1)
   obtain⟨h1,h2⟩:=hn (by omega)
   exact⟨.inl (by omega),h1,h2,by rw[e3];rfl⟩
  ·have:=PC (vars:=vars) (f_:=f_) (e:=e) e1 (by omega)
   obtain⟨h1,h2⟩:=hn (by omega)
   exact⟨.inl (by omega),h1,h2,by rw[e4];rfl⟩
  ·have:=Fx (vars:=vars) (f_:=f_) (e:=e) (fun c=>by omega)
   exact absurd hz (by omega)
  ·have:=Fx (vars:=vars) (f_:=f_) (e:=e) (fun c=>by omega)
   obtain⟨h1,h2⟩:=hn (by omega)
   refine⟨.inr ⟨by omega,e3,?_⟩,h1,h2,by rw[e4];rfl⟩
   by_cases c:8<e.length
   ·exact .inl c
   ·by_cases c2:f_<4096
    ·exact .inr c2
    ·have:f_=4096:=by omega
     rw[this]at e5
     exact absurd (afK e1 (by omega)) e5
 ·intro h0
  obtain⟨h1,hM,hk⟩:=wI (v:=0) (e:=e) h h0
  obtain⟨_,hM',hk'⟩:=wI (v:=0) (e:=e) h' h0
  rcases h with⟨e1,e2,_⟩|⟨e1,e2,e3,_⟩|⟨e1,e2,_⟩
  ·exact absurd h1 e1
  ·exact absurd h0 (by omega)
  ·obtain⟨m1,m2⟩:=PU (l:=l) (by omega) h1 FV hM' hk'
   have hl:=hM.len
   rcases hA with⟨c,_⟩|⟨_,c1,c2⟩
   ·exact absurd h0 c
   ·exact⟨m1.trans c2.symm,m2.trans c1.symm,hM.valid,hM.min,hM.vars,by omega,by omega⟩
theorem ZS {w:World} {d:c_} {k:DK} (h1:Sl w k.nb (dO k.qs)) (h2:nums k.qs=d.next) (h3: ∀r∈k.qs,Sl w r.b (ints r.xs)) (h4:Sl w k.fb (cO d.aT)):At w d k:=by
 refine⟨h1,?_,h4⟩
 rw[←h2]
 refine⟨by unfold dO nums;rw[ai,ai],fun i r hr=>?_⟩
 unfold nums at hr
 rw[bl]at hr
 obtain⟨q,hq,rfl⟩:=Option.map_eq_some_iff.1 hr
 exact⟨q.b,q.c,by unfold dO;rw[bl,hq];rfl,h3 q (bT hq)⟩
theorem RA (w:World) [dQ prog w] [dQ prog w] (b:Option Addr) (c:Nat) (h:Sl w b (bX AE)):cB prog 19 [.slice b AE.length c,vI 1,vI 4096] w fun v N=> ∃k,v=.tuple #[dV kV k,vI 0]∧N=[dI 56 4 3 kV k]:=by
 refine(H8 (M7 w b c AE h (by decide) (by decide) 1 4096 (fun h=>absurd h (by decide)) (K:=0) (by decide) (fun _=>u5 (by decide)) (fun _ h=>absurd h (by decide)))).mono fun v N=>?_
 rintro⟨D,k,er,rfl,rfl,⟨h1,_⟩|⟨_,h1,_⟩|⟨_,_,⟨rfl,hM,_⟩|⟨_,_,h1⟩⟩⟩
 ·exact absurd ZG h1
 ·exact absurd ⟨by decide,by decide⟩ h1
 ·have e:=ZR hM
  subst e
  exact⟨k,F,F⟩
 ·exact absurd ad9 h1
theorem RB (w:World) [dQ prog w] [dQ prog w] (b:Option Addr) (c:Nat) (h:Sl w b (bX u0)):cB prog 19 [.slice b u0.length c,vI 2,vI 4096] w fun v N=> ∃M k,v=.tuple #[dV M k,vI 0]∧N=[dI 56 4 3 M k]∧fV (2:Nat) 4096 M (nw 2 u0):=by
 refine(H8 (M7 w b c u0 h (by decide) (by decide) 2 4096 (fun _=>by decide) (K:=19) (by decide) (fun _=>u5 (by decide)) (fun _ _ _=>ZO))).mono fun v N=>?_
 rintro⟨D,k,er,rfl,rfl,⟨h1,_⟩|⟨_,h1,_⟩|⟨_,_,⟨rfl,hM,_⟩|⟨_,_,h1⟩⟩⟩
 ·exact absurd ZH h1
 ·exact absurd ⟨by decide,by decide⟩ h1
 ·exact⟨D,k,F,F,hM⟩
 ·exact absurd aea h1
theorem TL (w:World) [dQ prog w] [dQ prog w] {M:c_} (hM:fV (2:Nat) 4096 M (nw 2 u0)) (k:DK) (h:At w M k) (wb:Option Addr) (wc:Nat) (l:List Nat) (hW:Sl w wb (nY l)) (h4: ∀x∈l,x<4) (hl:l.length=3) (x:Bool) (hx:qt (l.foldl (jJ Qo) (iz Qo [0]))=x):cB prog 29 [dV M k,.slice wb 3 wc] w fun v N=>v=.tuple #[.bool x,vI 0]∧N=[]:=by
 obtain⟨h1,h2⟩:=VK hM h4 (by omega)
 have hb:=yn hM.toHasL
 have h9:=D9 w M k.nb k.fb k.nc k.fc (dO k.qs) h hb.1 hb.2.1 hb.2.2 wb wc l hW (by omega) (fun x h=>by have:=h4 x h;omega)
 rw[h1,h2,hx,hl]at h9
 exact h9
theorem eqS (w:World) [dQ prog w] [dQ prog w] (j k:DK) (h1:At w kV j) (h2:At w kV k):cB prog 16 [dV kV j,dV kV k] w fun v N=>v=.bool true∧N=[]:=
 (uy (Di w kV kV j.nb k.nb j.fb k.fb j.nc k.nc j.fc k.fc (dO j.qs) (dO k.qs) h1 h2 (by decide) (by decide) (by decide))).mono fun v N ⟨h1,O2,h2,_⟩=>⟨h2.trans (am Value.bool (aZ F)),h1⟩
theorem ZT (w:World) [dQ prog w] [dQ prog w] (k:DK) (h:At w TJ k):cB prog 14 [dV TJ k] w fun v N=> ∃b c,v=.tuple #[.slice b H6.length c,vI 0]∧N=[az b c 72 5 (bX H6)]:=by
 have h9:=Zn w TJ k h Kh (by decide) Rn
 rw[Ro,Rq]at h9
 exact h9
theorem ol (w:World) [dQ prog w]:cB prog 11 [] w fun v N=>v=.bool true∧N=[]:=by
 refine aA func11 F ntmps11 F ?_
 refine aQ (aj (aQ (TO.lc M8 (aW ZI) ?_)))
 rintro vr O' ⟨N,rfl,b1,c1,rfl,rfl⟩
 refine TO.lc H9 (aO fun w1 hI=>(haveI:=eP hI;RA w1 b1 c1 (hI.ij (mG 0)))) ?_
 rintro vr O' ⟨N,rfl,k1,rfl,rfl⟩
 refine ay (bI _) (ae (bI _) (ax (b_ bY (fun z1=>?_))))
 refine ax (c8 ((dC kV k1)) 0 bY ?_)
 refine aS ?_
 refine dW (O':=[oI z1 25 (dC kV k1),dI 56 4 3 kV k1]) (by exact Sub.k (.k .z)) ?_
 refine xU (ax (cP (m:=2) (parts:=[(0,.const (vI 0)),(1,.const (vI 1))]) (cs:=[vI 0,vI 1]) da bM (by decide) (by kernel_rfl) F (fun z2=>?_)))
 refine ax (cP (m:=2) (parts:=[(0,.const (vI 2)),(1,.const (vI 3))]) (cs:=[vI 2,vI 3]) da bM (by decide) (by kernel_rfl) F (fun z3=>?_))
 refine ax (cP (m:=2) (parts:=[(0,.const (vI 0)),(1,.const (vI 1))]) (cs:=[vI 0,vI 1]) da bM (by decide) (by kernel_rfl) F (fun z4=>?_))
 refine ax (cP (m:=2) (parts:=[(0,.const (vI 2)),(1,.const (vI 3))]) (cs:=[vI 2,vI 3]) da bM (by decide) (by kernel_rfl) F (fun z5=>?_))
 refine ax (cP (m:=4) (parts:=[(0,.tmp 17),(1,.tmp 18),(2,.tmp 19),(3,.tmp 20)]) (cs:=[(.slice (aD z2) 2 2),(.slice (aD z3) 2 2),(.slice (aD z4) 2 2),(.slice (aD z5) 2 2)]) eY eo (by decide) (by kernel_rfl) F (fun z6=>?_))
 refine ax (cP (m:=4) (parts:=[(0,.const (.bool false)),(1,.const (.bool false)),(2,.const (.bool true)),(3,.const (.bool true))]) (cs:=[.bool false,.bool false,.bool true,.bool true]) eS gq (by decide) (by kernel_rfl) F (fun z7=>?_))
 refine ae (dc [vI 1,(vI 0),(.slice (aD z6) 4 4),(.slice (aD z7) 4 4)] kg bY (by kernel_rfl)) (ax (b_ bY (fun z8=>?_)))
 refine ax (c8 [vI 1,(vI 0),(.slice (aD z6) 4 4),(.slice (aD z7) 4 4)] 0 bY ?_)
 refine bi ?_
 refine dq (O':=[bJ z6 4 56 1 [(.slice (aD z2) 2 2),(.slice (aD z3) 2 2),(.slice (aD z4) 2 2),(.slice (aD z5) 2 2)],bJ z7 4 4 1 [.bool false,.bool false,.bool true,.bool true],bJ z2 2 3 1 [vI 0,vI 1],bJ z3 2 3 1 [vI 2,vI 3],bJ z4 2 3 1 [vI 0,vI 1],bJ z5 2 3 1 [vI 2,vI 3],oI z8 25 [vI 1,(vI 0),(.slice (aD z6) 4 4),(.slice (aD z7) 4 4)],oI z1 25 (dC kV k1),dI 56 4 3 kV k1]) (by exact Sub.fz [oI z8 25 [vI 1,(vI 0),(.slice (aD z6) 4 4),(.slice (aD z7) 4 4)],bJ z7 4 4 1 [.bool false,.bool false,.bool true,.bool true]] _ (.fz [oI z8 25 [vI 1,(vI 0),(.slice (aD z6) 4 4),(.slice (aD z7) 4 4)]] _ (.fz [oI z8 25 [vI 1,(vI 0),(.slice (aD z6) 4 4),(.slice (aD z7) 4 4)],bJ z5 2 3 1 [vI 2,vI 3],bJ z4 2 3 1 [vI 0,vI 1],bJ z3 2 3 1 [vI 2,vI 3]] _ (.fz [oI z8 25 [vI 1,(vI 0),(.slice (aD z6) 4 4),(.slice (aD z7) 4 4)],bJ z5 2 3 1 [vI 2,vI 3],bJ z4 2 3 1 [vI 0,vI 1]] _ (.fz [oI z8 25 [vI 1,(vI 0),(.slice (aD z6) 4 4),(.slice (aD z7) 4 4)],bJ z5 2 3 1 [vI 2,vI 3]] _ (.fz [oI z8 25 [vI 1,(vI 0),(.slice (aD z6) 4 4),(.slice (aD z7) 4 4)]] _ (.k (.k (.k .z))))))))) ?_
 obtain⟨k3,u6⟩: ∃k:DK,k=⟨some ⟨z6,0,none⟩,4,some ⟨z7,0,none⟩,4,[⟨some ⟨z2,0,none⟩,2,[0,1]⟩,⟨some ⟨z3,0,none⟩,2,[2,3]⟩,⟨some ⟨z4,0,none⟩,2,[0,1]⟩,⟨some ⟨z5,0,none⟩,2,[2,3]⟩]⟩:=⟨_,F⟩
 refine dq (O':=(([az k3.nb k3.nc 56 1 (dO k3.qs),az k3.fb k3.fc 4 1 (cO kV.aT)]++cw 3 k3.qs)++[oI z8 25 [vI 1,(vI 0),(.slice (aD z6) 4 4),(.slice (aD z7) 4 4)],oI z1 25 (dC kV k1),dI 56 4 3 kV k1])) (by subst u6;exact Sub.rf) ?_
 refine uN (φ:=nums k3.qs=kV.next) (by subst u6;rfl) ?_
 refine dq (O':=[dI 56 4 3 kV k3,oI z8 25 (dC kV k3),oI z1 25 (dC kV k1),dI 56 4 3 kV k1]) (by subst u6;exact Sub.rf) ?_
 refine aQ (TO.lc M8 (aW ZJ) ?_)
 rintro vr O' ⟨N,rfl,b2,c2,rfl,rfl⟩
 refine TO.lc H9 (aO fun w1 hI=>(haveI:=eP hI;RB w1 b2 c2 (hI.ij (mG 0)))) ?_
 rintro vr O' ⟨N,rfl,M,k2,rfl,rfl,hM⟩
 refine ay (bI _) (ae (bI _) (ax (b_ bY (fun z9=>?_))))
 refine ax (c8 ((dC M k2)) 0 bY ?_)
 refine aS ?_
 refine dW (O':=[oI z9 25 (dC M k2),oI z8 25 (dC kV k3),oI z1 25 (dC kV k1),dI 56 4 3 M k2,dI 56 4 3 kV k3,dI 56 4 3 kV k1]) (by exact Sub.k (.fz [dI 56 4 3 M k2,az b2 c2 72 5 (bX u0),dI 56 4 3 kV k3] _ (.fz [dI 56 4 3 M k2,az b2 c2 72 5 (bX u0),dI 56 4 3 kV k3] _ (.k (.d (.k (.k .z))))))) ?_
 refine bi (aG (eR 0 dm bY) (ax (cP (m:=3) (parts:=[(0,.const (.int .u8 0)),(1,.const (.int .u8 3)),(2,.const (.int .u8 0))]) (cs:=[.int .u8 0,.int .u8 3,.int .u8 0]) kR eN (by decide) (by kernel_rfl) F (fun xV=>?_))))
 refine TO.lc M9 (aO fun w1 hI=>(haveI:=eP hI;TL w1 hM k2 (hI.at (mG 4)) (aD xV) 3 [0,3,0] (hI.ij (cs:=nY [0,3,0]) (mG 0)) (by decide) F _ VL)) ?_
 rintro vr O' ⟨N,rfl,rfl,rfl⟩
 refine ay (bI _) (ae (bI _) (aS (aS ?_)))
 refine dW (O':=[oI z9 25 (dC M k2),oI z8 25 (dC kV k3),oI z1 25 (dC kV k1),dI 56 4 3 M k2,dI 56 4 3 kV k3,dI 56 4 3 kV k1]) (by exact Sub.d (.k (.k (.k (.k (.k (.k .z))))))) ?_
 refine bi (aG (eR 0 dm bY) (ax (cP (m:=3) (parts:=[(0,.const (.int .u8 3)),(1,.const (.int .u8 1)),(2,.const (.int .u8 2))]) (cs:=[.int .u8 3,.int .u8 1,.int .u8 2]) kR eN (by decide) (by kernel_rfl) F (fun Ap=>?_))))
 refine TO.lc M9 (aO fun w1 hI=>(haveI:=eP hI;TL w1 hM k2 (hI.at (mG 4)) (aD Ap) 3 [3,1,2] (hI.ij (cs:=nY [3,1,2]) (mG 0)) (by decide) F _ VM)) ?_
 rintro vr O' ⟨N,rfl,rfl,rfl⟩
 refine ay (bI _) (ae (bI _) (aS (aS ?_)))
 refine dW (O':=[oI z9 25 (dC M k2),oI z8 25 (dC kV k3),oI z1 25 (dC kV k1),dI 56 4 3 M k2,dI 56 4 3 kV k3,dI 56 4 3 kV k1]) (by exact Sub.d (.k (.k (.k (.k (.k (.k .z))))))) ?_
 refine xU (ax (dL (v:=vI 1) da bM F F F (fun z12=>?_)))
 refine ax (dL (v:=vI 2) da bM F F F (fun sH=>?_))
 refine ax (dL (v:=vI 2) da bM F F F (fun Dc=>?_))
 refine ax (cP (m:=3) (parts:=[(0,.tmp 42),(1,.tmp 43),(2,.tmp 44)]) (cs:=[(.slice (aD z12) 1 1),(.slice (aD sH) 1 1),(.slice (aD Dc) 1 1)]) eY eo (by decide) (by kernel_rfl) F (fun H_=>?_))
 refine ax (cP (m:=3) (parts:=[(0,.const (.bool false)),(1,.const (.bool true)),(2,.const (.bool false))]) (cs:=[.bool false,.bool true,.bool false]) eS gq (by decide) (by kernel_rfl) F (fun ZU=>?_))
 refine ae (dc [(vI 0),(vI 0),(.slice (aD H_) 3 3),(.slice (aD ZU) 3 3)] kg bY (by kernel_rfl)) (TO.lc ZV (aO fun w1 hI=>(haveI:=eP hI;ZT w1 ⟨some ⟨H_,0,none⟩,3,some ⟨ZU,0,none⟩,3,[⟨some ⟨z12,0,none⟩,1,[1]⟩,⟨some ⟨sH,0,none⟩,1,[2]⟩,⟨some ⟨Dc,0,none⟩,1,[2]⟩]⟩ (ZS (hI.ij (mG 1)) F (List.forall_mem_cons.2 ⟨hI.ij (cs:=ints [1]) (mG 4),List.forall_mem_cons.2 ⟨hI.ij (cs:=ints [2]) (mG 3),List.forall_mem_cons.2 ⟨hI.ij (cs:=ints [2]) (mG 2),fun _ h=>by cases h⟩⟩⟩) (hI.ij (mG 0))))) ?_)
 rintro vr O' ⟨N,rfl,b4,c4,rfl,rfl⟩
 refine ay (bI _) (ae (bI _) (aS (aS ?_)))
 refine dW (O':=[oI z9 25 (dC M k2),oI z8 25 (dC kV k3),oI z1 25 (dC kV k1),az b4 c4 72 5 (bX H6),dI 56 4 3 M k2,dI 56 4 3 kV k3,dI 56 4 3 kV k1]) (by exact Sub.fz [az b4 c4 72 5 (bX H6),bJ ZU 3 4 1 [.bool false,.bool true,.bool false],bJ H_ 3 56 1 [(.slice (aD z12) 1 1),(.slice (aD sH) 1 1),(.slice (aD Dc) 1 1)],bJ Dc 1 3 1 [vI 2],bJ sH 1 3 1 [vI 2],bJ z12 1 3 1 [vI 1]] _ (.fz [az b4 c4 72 5 (bX H6),bJ ZU 3 4 1 [.bool false,.bool true,.bool false],bJ H_ 3 56 1 [(.slice (aD z12) 1 1),(.slice (aD sH) 1 1),(.slice (aD Dc) 1 1)],bJ Dc 1 3 1 [vI 2],bJ sH 1 3 1 [vI 2],bJ z12 1 3 1 [vI 1]] _ (.fz [az b4 c4 72 5 (bX H6),bJ ZU 3 4 1 [.bool false,.bool true,.bool false],bJ H_ 3 56 1 [(.slice (aD z12) 1 1),(.slice (aD sH) 1 1),(.slice (aD Dc) 1 1)],bJ Dc 1 3 1 [vI 2],bJ sH 1 3 1 [vI 2],bJ z12 1 3 1 [vI 1]] _ (.k (.d (.d (.d (.d (.d (.k (.k (.k .z)))))))))))) ?_
 refine bi (bo (bn bN (by first|rfl|decide)) (aN (ao (eR 2 dm bY) (ao (eR 1 dm bY) ?_))))
 refine gF F F F (eh TM (aO fun w1 hI=>(haveI:=eP hI;eqS w1 k1 k3 (hI.at (mG 6)) (hI.at (mG 5)))) ?_)
 rintro vr O' ⟨N,rfl,rfl,rfl⟩
 refine ae bw (aN (ao aw (ao (bn bN (by first|rfl|decide)) (ae bw (aN (ao aw (ae bw (aN (ao aw (ao (bn bN (by first|rfl|decide)) ?_))))))))))
 refine ae bw (aN (ao aw (ao g_ (ae bw (aN (ao aw (ao (bn bN (by first|rfl|decide)) (ae bw (aN (ao aw ?_))))))))))
 refine ao (bn bN (by first|rfl|decide)) (ae bw (aN (ao aw ?_)))
 refine gF F F F (eh M8 (aW ZK) ?_)
 rintro vr O' ⟨N,rfl,b3,c3,rfl,rfl⟩
 refine gF F F F (eh TN (aO fun w1 hI=>(haveI:=eP hI;(show cB _ _ _ _ _ from by
   have h9:=Ia w1 b4 b3 c4 c3 H6 H6 (hI.ij (mG 4)) (hI.ij (mG 0)) (by decide)
   rw[aZ F]at h9
   exact h9))) ?_)
 rintro vr O' ⟨N,rfl,rfl,rfl⟩
 refine ae bw (aR ?_)
 refine aF (.bool true) results11 F ?_
 exact⟨[],Sub.z,F,F⟩
theorem SK (w:World) [dQ prog w] [dQ prog w] (xb yb:Option Addr) (xc yc:Nat) (xs:List ei) (hX:Sl w xb (bX xs)) (hY:Sl w yb (bX xs)) (hb:xs.length<4611686018427387904):cB prog 15 [.slice xb xs.length xc,.slice yb xs.length yc] w fun v N=>v=.bool true∧N=[]:=
 (Ia w xb yb xc yc xs xs hX hY hb).mono fun v N ⟨h1,h2⟩=>⟨h1.trans (am Value.bool (aZ F)),h2⟩
theorem L0 (w:World) [dQ prog w] (b:Option Addr) (c:Nat) (e:List ei) (hE:Sl w b (bX e)) (qZ:e.length<4611686018427387904) (mh: ∀x∈e,x.p<256∧x.n<256) (vars f_:Int) (wb:Option Addr) (wc:Nat) (l:List Nat) (hW:Sl w wb (nY l)) (xM: ∀x∈l,x<256):
  cB prog 5 [.slice b e.length c,vI vars,vI f_,.slice wb l.length wc] w fun r N=>r=.bool true∧N=[]:=by
 refine aA func5 F ntmps5 F ?_
 refine aQ (aj ?_)
 let gd:Value:=(.slice wb l.length wc)
 let fR:Value:=(.slice b e.length c)
 refine fF (fun ρ O=>Sub [] O∧(e.length≤24∧l.length≤100)∧dh [(0,fR),(1,vI vars),(2,vI f_),(3,gd)] ρ) ?_ ?_
 ·refine br ?_
  refine a_ (aN (TO.lc abl (aO fun w1 hI=>(haveI:=eP hI;abX w1 b e.length c)) ?_))
  rintro vr O' ⟨N,rfl,rfl,rfl⟩
  by_cases abY:(24:Int)<((e.length:Nat):Int)
  ·refine ae (bn aw abY) ?_
   refine du (du ?_)
   refine ae bw (aN (cY (cK (aX bw ?_))))
   refine bW ?_
   refine aQ (TO.lc sh (aW ol) ?_)
   rintro vr O' ⟨N,rfl,rfl,rfl⟩
   refine aR ?_
   refine aF (.bool true) results5 F ?_
   exact⟨[],Sub.z,F,F⟩
  refine ae (aY aw abY) (ao aw (ao (cL kR) (ao gT ?_)))
  by_cases abZ:(l.length:Int)>12
  ·refine ao (bn aw abZ) ?_
   refine ao aw (ao (cL kR) (ao tg (ao bw (ae bU ?_))))
   by_cases ab0:(l.length:Int)≤64
   ·refine ae (bn aw ab0) ?_
    refine cY (cK (aX bw ?_))
    refine bW ?_
    refine aQ (TO.lc sh (aW ol) ?_)
    rintro vr O' ⟨N,rfl,rfl,rfl⟩
    refine aR ?_
    refine aF (.bool true) results5 F ?_
    exact⟨[],Sub.z,F,F⟩
   refine ae (aY aw ab0) (ao aw (ao (cL kR) (ao gT (aX bU (aL F (fun hc=>?_) (fun hc=>?_))))))
   ·have ab1:l.length>100:=by omega
    refine aQ (TO.lc sh (aW ol) ?_)
    rintro vr O' ⟨N,rfl,rfl,rfl⟩
    refine aR ?_
    refine aF (.bool true) results5 F ?_
    exact⟨[],Sub.z,F,F⟩
   have ab2: ¬l.length>100:=by omega
   refine aE ?_
   exact⟨(by exact Sub.rf),⟨by omega,by omega⟩,⟨F,F,F,F,trivial⟩⟩
  refine ao (aY aw abZ) (cY (cK (ao bU (ae bU (aN (ao aw (ao (cL kR) ?_)))))))
  refine ao gT (aX bU (aL F (fun hc=>?_) (fun hc=>?_)))
  ·have ab1:l.length>100:=by omega
   refine aQ (TO.lc sh (aW ol) ?_)
   rintro vr O' ⟨N,rfl,rfl,rfl⟩
   refine aR ?_
   refine aF (.bool true) results5 F ?_
   exact⟨[],Sub.z,F,F⟩
  have ab2: ¬l.length>100:=by omega
  refine aE ?_
  exact⟨(by exact Sub.rf),⟨by omega,by omega⟩,⟨F,F,F,F,trivial⟩⟩
 rintro ρ O ⟨hS,⟨FV,Vj⟩,hH⟩
 obtain⟨gv,rfl⟩:=hH.elim
 clear hH
 refine dq hS ?_
 refine a7 (TO.lc abm (aO fun w1 hI=>(haveI:=eP hI;abi w1 b c e (hI.sl hE) (by omega))) ?_)
 rintro vr O' ⟨N,rfl,ib,ic,rfl,rfl⟩
 refine aj (a7 (de (TO.lc H9 (aO fun w1 hI=>(haveI:=eP hI;UE w1 ib ic e (hI.ij (mG 0)) qZ mh vars f_ (fun _=>FV))) ?_)))
 rintro vr O' ⟨N,rfl,D,k,er,rfl,rfl,hF⟩
 refine ay (bI _) (ae (bI _) (ax (b_ bY (fun z1=>?_))))
 refine ax (c8 ((dC D k)) 0 bY ?_)
 refine aj ?_
 let eH:List Lx.Item:=[oI z1 25 (dC D k),dI 56 4 3 D k,az ib ic 72 5 (bX e)]
 let gn:Value:=(.slice ib e.length ic)
 let kp:Value:=(.pointer (aD z1))
 refine j_ eH [(0,fR),(1,vI vars),(2,vI f_),(3,gd),(9,gn),(10,kp),(11,vN er)] F (.of F) (fun gv=>?_)
 refine a7 (aN (de (TO.lc abn (aO fun w1 hI=>(haveI:=eP hI;afq w1 ib ic e (hI.ij (mG 2)) qZ mh vars f_ (fun _=>FV) wb wc l (hI.sl hW) (by omega) xM)) ?_)))
 rintro vr O' ⟨N,rfl,x,r,rfl,rfl,hA⟩
 refine ay (bI _) (ae (bI _) (aS (aj (br ?_))))
 have hMt:=afs FV hF hA
 refine a_ (de (TO.lc M3 (aO fun w1 hI=>(haveI:=eP hI;M2 w1 b c e (hI.sl hE) qZ mh vars)) ?_))
 rintro vr O' ⟨N,rfl,rfl,rfl⟩
 refine aj ?_
 refine j_ eH [(0,fR),(1,vI vars),(2,vI f_),(3,gd),(9,gn),(10,kp),(11,vN er),(12,.bool x),(13,vN r),(14,vN (gJ vars e))] F (.of F) (fun gv=>?_)
 refine fF (fun ρ O=>Sub eH O∧dh [(0,fR),(1,vI vars),(2,vI f_),(3,gd),(9,gn),(10,kp),(11,vN er),(12,.bool x),(13,vN r),(14,vN (F5 vars f_ e))] ρ) ?_ ?_
 ·refine br ?_
  refine a_ (ay bN ?_)
  by_cases ab3:(((gJ vars e):Nat):Int)=0
  ·refine ae (bn aw ab3) ?_
   refine ao aw (ao cV ?_)
   by_cases ab4:f_<1
   ·refine ao (bn aw ab4) ?_
    refine cK (ao bw (aX bw ?_))
    refine bW ?_
    refine a_ (aj ?_)
    exact⟨(by exact Sub.rf),⟨F,F,F,F,F,F,F,F,F,(am (Value.int .i64) (by have:=PC (vars:=vars) (f_:=f_) (e:=e) (by omega) (by omega);omega)),trivial⟩⟩
   refine ao (aY aw ab4) (ao aw (ao gT (ao bU (aX bw (aL F (fun hc=>?_) (fun hc=>?_))))))
   ·refine a_ ?_
    refine aj ?_
    exact⟨(by exact Sub.rf),⟨F,F,F,F,F,F,F,F,F,(am (Value.int .i64) (by have:=PC (vars:=vars) (f_:=f_) (e:=e) (by omega) (by omega);omega)),trivial⟩⟩
   refine aE ?_
   exact⟨(by exact Sub.rf),⟨F,F,F,F,F,F,F,F,F,(am (Value.int .i64) (by have:=Fx (vars:=vars) (f_:=f_) (e:=e) (by omega);omega)),trivial⟩⟩
  refine ae (aY aw ab3) (cK (du (ae bU ?_)))
  refine bi (bf (aE ?_))
  exact⟨(by exact Sub.rf),⟨F,F,F,F,F,F,F,F,F,(am (Value.int .i64) (by have:=Fx (vars:=vars) (f_:=f_) (e:=e) (by omega);omega)),trivial⟩⟩
 rintro ρ O ⟨hS,hH⟩
 obtain⟨gv,rfl⟩:=hH.elim
 clear hH
 refine dq hS ?_
 refine br (a7 (aN (TO.lc TN (aO fun w1 hI=>(haveI:=eP hI;SK w1 ib b ic c e (hI.ij (mG 2)) (hI.sl hE) qZ)) ?_)))
 rintro vr O' ⟨N,rfl,rfl,rfl⟩
 refine aX g_ (bf (aE (br (bo d_ ?_))))
 by_cases ab5:(((F5 vars f_ e):Nat):Int)≠0
 ·refine ae (bn aw ab5) ?_
  refine cK (aX bw ?_)
  refine bW ?_
  refine br ?_
  obtain⟨Qm,Vs,rfl,ha4⟩:=hMt.a (by omega)
  refine a_ (aN (ay bN ?_))
  by_cases TT:((F5 vars f_ e:Nat):Int)=((er:Nat):Int)
  ·refine ae (bn aw TT) ?_
   refine du (du ?_)
   refine cY (cK (du (ae bw (aS ?_))))
   refine bi ?_
   refine j_ eH [(0,fR),(1,vI vars),(2,vI f_),(3,gd),(9,gn),(10,kp),(11,vN er),(12,.bool false),(13,vN r),(14,vN (F5 vars f_ e)),(15,.bool true)] F (.of F) (fun gv=>?_)
   refine a7 (aN (ao aw (ao aw (ao (bn bN (by omega)) (ae bw (aN (ao aw (ao g_ ?_))))))))
   refine ae bw (aN (ao (bu dm fx) (ao (bF 0 eY) (ao (cL eY) (ao (bn bN (by omega)) (ae bw (aN ?_)))))))
   refine gF F F F (eh sh (aW ol) ?_)
   rintro vr O' ⟨N,rfl,rfl,rfl⟩
   refine ae bw (aR ?_)
   refine aF (.bool true) results5 F ?_
   exact⟨[],Sub.z,F,F⟩
  refine ae (aY aw TT) (ao aw (ao (bn bN (by omega)) (ao aw (ao aw (ao (bn bN (by omega)) (ao bw (ao aw ?_)))))))
  refine ao aw (ao (cL dX) (ao gT ?_))
  by_cases PD:(e.length:Int)>8
  ·refine ao (bn aw PD) ?_
   refine cK (ao bw (ao bw (ae bU (aj ?_))))
   refine j_ eH [(0,fR),(1,vI vars),(2,vI f_),(3,gd),(9,gn),(10,kp),(11,vN er),(12,.bool false),(13,vN r),(14,vN (F5 vars f_ e)),(15,.bool true)] F (.of F) (fun gv=>?_)
   refine a7 (aN (ao aw (ao aw (ao (bn bN (by omega)) (ae bw (aN (ao aw (ao g_ ?_))))))))
   refine ae bw (aN (ao (bu dm fx) (ao (bF 0 eY) (ao (cL eY) (ao (bn bN (by omega)) (ae bw (aN ?_)))))))
   refine gF F F F (eh sh (aW ol) ?_)
   rintro vr O' ⟨N,rfl,rfl,rfl⟩
   refine ae bw (aR ?_)
   refine aF (.bool true) results5 F ?_
   exact⟨[],Sub.z,F,F⟩
  refine ao (aY aw PD) (ao aw (ao (bn cV (by omega)) (ao bU (ao bw (ae bU (aj ?_))))))
  refine j_ eH [(0,fR),(1,vI vars),(2,vI f_),(3,gd),(9,gn),(10,kp),(11,vN er),(12,.bool false),(13,vN r),(14,vN (F5 vars f_ e)),(15,.bool true)] F (.of F) (fun gv=>?_)
  refine a7 (aN (ao aw (ao aw (ao (bn bN (by omega)) (ae bw (aN (ao aw (ao g_ ?_))))))))
  refine ae bw (aN (ao (bu dm fx) (ao (bF 0 eY) (ao (cL eY) (ao (bn bN (by omega)) (ae bw (aN ?_)))))))
  refine gF F F F (eh sh (aW ol) ?_)
  rintro vr O' ⟨N,rfl,rfl,rfl⟩
  refine ae bw (aR ?_)
  refine aF (.bool true) results5 F ?_
  exact⟨[],Sub.z,F,F⟩
 refine ae (aY aw ab5) (ao aw (ao d_ (aX bU (aL F (fun hc=>?_) (fun hc=>?_)))))
 ·have ahK:er≠0:=by omega
  refine br ?_
  obtain⟨Qm,Vs,rfl,ha4⟩:=hMt.a (by omega)
  refine a_ (aN (ay bN ?_))
  by_cases TT:((F5 vars f_ e:Nat):Int)=((er:Nat):Int)
  ·refine ae (bn aw TT) ?_
   refine du (du ?_)
   refine cY (cK (du (ae bw (aS ?_))))
   refine bi ?_
   refine j_ eH [(0,fR),(1,vI vars),(2,vI f_),(3,gd),(9,gn),(10,kp),(11,vN er),(12,.bool false),(13,vN r),(14,vN (F5 vars f_ e)),(15,.bool true)] F (.of F) (fun gv=>?_)
   refine a7 (aN (ao aw (ao aw (ao (bn bN (by omega)) (ae bw (aN (ao aw (ao g_ ?_))))))))
   refine ae bw (aN (ao (bu dm fx) (ao (bF 0 eY) (ao (cL eY) (ao (bn bN (by omega)) (ae bw (aN ?_)))))))
   refine gF F F F (eh sh (aW ol) ?_)
   rintro vr O' ⟨N,rfl,rfl,rfl⟩
   refine ae bw (aR ?_)
   refine aF (.bool true) results5 F ?_
   exact⟨[],Sub.z,F,F⟩
  refine ae (aY aw TT) (ao aw (ao (bn bN (by omega)) (ao aw (ao aw (ao (bn bN (by omega)) (ao bw (ao aw ?_)))))))
  refine ao aw (ao (cL dX) (ao gT ?_))
  by_cases PD:(e.length:Int)>8
  ·refine ao (bn aw PD) ?_
   refine cK (ao bw (ao bw (ae bU (aj ?_))))
   refine j_ eH [(0,fR),(1,vI vars),(2,vI f_),(3,gd),(9,gn),(10,kp),(11,vN er),(12,.bool false),(13,vN r),(14,vN (F5 vars f_ e)),(15,.bool true)] F (.of F) (fun gv=>?_)
   refine a7 (aN (ao aw (ao aw (ao (bn bN (by omega)) (ae bw (aN (ao aw (ao g_ ?_))))))))
   refine ae bw (aN (ao (bu dm fx) (ao (bF 0 eY) (ao (cL eY) (ao (bn bN (by omega)) (ae bw (aN ?_)))))))
   refine gF F F F (eh sh (aW ol) ?_)
   rintro vr O' ⟨N,rfl,rfl,rfl⟩
   refine ae bw (aR ?_)
   refine aF (.bool true) results5 F ?_
   exact⟨[],Sub.z,F,F⟩
  refine ao (aY aw PD) (ao aw (ao (bn cV (by omega)) (ao bU (ao bw (ae bU (aj ?_))))))
  refine j_ eH [(0,fR),(1,vI vars),(2,vI f_),(3,gd),(9,gn),(10,kp),(11,vN er),(12,.bool false),(13,vN r),(14,vN (F5 vars f_ e)),(15,.bool true)] F (.of F) (fun gv=>?_)
  refine a7 (aN (ao aw (ao aw (ao (bn bN (by omega)) (ae bw (aN (ao aw (ao g_ ?_))))))))
  refine ae bw (aN (ao (bu dm fx) (ao (bF 0 eY) (ao (cL eY) (ao (bn bN (by omega)) (ae bw (aN ?_)))))))
  refine gF F F F (eh sh (aW ol) ?_)
  rintro vr O' ⟨N,rfl,rfl,rfl⟩
  refine ae bw (aR ?_)
  refine aF (.bool true) results5 F ?_
  exact⟨[],Sub.z,F,F⟩
 have ahL: ¬er≠0:=by omega
 refine aE (br ?_)
 obtain⟨JX,FW,hbV,hbM,hbv,R6,hb4⟩:=hMt.b (by omega)
 have hbc:=eL.2 hbV
 have hBd:D.next.length<9223372036854775807∧(∀r∈D.next,r.length<9223372036854775807)∧D.aT.length<9223372036854775807:=⟨by omega,hbV.wO,by have:=hbV.fin;omega⟩
 refine a_ (ae (eR 0 dm bY) (TO.lc Bs (aO fun w1 hI=>(haveI:=eP hI;Bt w1 D k (hI.at (mG 1)) hbV hb4 hbM)) ?_))
 rintro vr O' ⟨N,rfl,k6,rfl,rfl⟩
 refine ay (bI _) (ae (bI _) (ax (b_ bY (fun z2=>?_))))
 refine ax (c8 ((dC D k6)) 0 bY ?_)
 refine aS (bq (ae (eR 2 dm bY) (TO.lc abk (aO fun w1 hI=>(haveI:=eP hI;L4 w1 D k.nb k.fb k.nc k.fc (dO k.qs) (hI.at (k:=k) (mG 3)) hBd.1 hBd.2.1 hBd.2.2)) ?_)))
 rintro vr O' ⟨N,rfl,rfl,rfl⟩
 refine ae (aY d_ (by omega)) (aN (ao (bu dm bM) (ao (bF 2 eO) (ao aw (ao (aY d_ (by omega)) (ae bU (aN (ao (bu dm fx) (ao (bF 2 eY) ?_)))))))))
 refine ao (cL eY) (ao aw (ao (aY gT (by omega)) (ae bU (aN (ao aw (ao (aY d_ (by omega)) (ae bU (aN (ao (eR 0 dm bY) ?_)))))))))
 refine ao (eR 2 dm bY) ?_
 refine gF F F F (eh TM (aO fun w1 hI=>(haveI:=eP hI;XF w1 k6 k (hI.at (mG 1)) (hI.at (mG 3)) F hBd)) ?_)
 rintro vr O' ⟨N,rfl,rfl,rfl⟩
 refine ao g_ (aX bU (bf (aE (a7 (de (TO.lc abo (aO fun w1 hI=>(haveI:=eP hI;ab6 w1 b c e (hI.sl hE) qZ mh vars wb wc l (hI.sl hW) (by omega) xM)) ?_))))))
 rintro vr O' ⟨N,rfl,rfl,rfl⟩
 refine ay (bI _) (ae (bI _) (aS (aj ?_)))
 refine j_ [oI z2 25 (dC D k6),dI 56 4 3 D k6,oI z1 25 (dC D k),dI 56 4 3 D k,az ib ic 72 5 (bX e)] [(0,fR),(1,vI vars),(2,vI f_),(3,gd),(9,gn),(10,kp),(11,vN er),(12,.bool x),(13,vN r),(14,vN (F5 vars f_ e)),(16,(.pointer (aD z2))),(17,vI 0),(18,.bool (mV vars e l)),(19,vN (mE vars e l))] F (.of F) (fun gv=>?_)
 refine a7 (ay (cg (U9 uT F F) (v':=.bool true) (by rw[FW];simp)) (aN (ao aw (ao aw (ao (bn bN (by omega)) (ae bw (aN ?_)))))))
 refine gF F F F (eh sh (aW ol) ?_)
 rintro vr O' ⟨N,rfl,rfl,rfl⟩
 refine ae bw (aR ?_)
 refine aF (.bool true) results5 F ?_
 exact⟨[],Sub.z,F,F⟩
end Go.Proofs.YtgdbfideeeegmaaGreatDoor

