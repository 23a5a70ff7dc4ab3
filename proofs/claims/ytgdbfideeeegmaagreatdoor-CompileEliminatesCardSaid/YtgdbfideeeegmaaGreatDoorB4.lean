/- Contracts of functions of the program, and what they answer. Conditions: those each theorem names. -/
import Derived.Test.YtgdbfideeeegmaaGreatDoorB3
import Derived.Test.YtgdbfideeeegmaaGreatDoorB2
import Derived.Test.YtgdbfideeeegmaaGreatDoorA9
import Derived.Test.YtgdbfideeeegmaaGreatDoorA2
import Derived.Test.YtgdbfideeeegmaaGreatDoorA7
import Derived.Test.YtgdbfideeeegmaaGreatDoorB0
import Derived.Test.YtgdbfideeeegmaaGreatDoorA8
import Derived.Test.YtgdbfideeeegmaaGreatDoorB1
import Derived.Test.YtgdbfideeeegmaaGreatDoorA1
set_option linter.unusedSectionVars false
set_option linter.unusedSimpArgs false
set_option linter.unusedVariables false
set_option linter.unnecessarySimpa false
set_option maxHeartbeats 8000000
set_option maxRecDepth 20000
namespace Go.Proofs.YtgdbfideeeegmaaGreatDoor
open Go.Lx Go.RowKit _root_.Go.Proofs.Tryz
def w5 (e:List dE):Rx:=jx e e.length (e.length-1)
noncomputable def qh (v:Nat) (e:List dE):Lg:=if e.any mA=true then Vx v (w5 e)else jz (w5 e)
def J7 (v:Nat) (e:List dE) (B:Nat):Prop:=if e.any mA=true then Xo v (w5 e) B else mx v (w5 e) B
theorem DY {vars:Int} {e:List dE} (h:jw vars e=0):0≤vars∧vars≤6∧0<e.length∧e.length≤64∧ ∃fs,iV vars.toNat e=.ok fs∧fs.getD (e.length-1) 0=0∧lH e e.length (e.length-1) true=true:=by
 unfold jw at h
 split at h
 ·omega
 ·split at h
  ·omega
  ·split at h
   ·omega
   ·cases hb:iV vars.toNat e with
    |error n=>simp only[hb]at h;exact absurd h (zi hb)
    |ok fs=>
     simp only[hb]at h
     split at h
     ·omega
     ·split at h
      ·rename_i h1 h2 h3 h4 h5
       exact⟨by omega,by omega,by omega,by omega,fs,F,by omega,h5⟩
      ·omega
set_option maxRecDepth 20000 in
theorem M8 (base:World) [cG Tryz.prog base] (eb:Option Addr) (ec:Nat) (e:List dE) (hE:Sl base eb (aT e)) (Kg:e.length<4611686018427387904) (qK: ∀x∈e,x.p<256∧x.n<256) (vars lX:Int) (Yf:e.any mA=true→e.length≤24) {K:Nat} (Up:K<137438953472) (zh: ∀cb,VK cb eb e.length ec vars.toNat lX.toNat e)
  (hK:jw vars e=0→e.any mA=true→okB vars.toNat (w5 e) lX.toNat→p7 (mO vars.toNat (w5 e)) K):
  bw Tryz.prog base 19 [.slice eb e.length ec,.int .i64 vars,.int .i64 lX] [] (Xr (jw vars e) lX (fun M=>fm vars lX.toNat M (qh vars.toNat e)∧J7 vars.toNat e lX.toNat) (¬J7 vars.toNat e lX.toNat)):=by
 refine UV base eb e.length ec vars (jw vars e) lX _ _ (fun w1 _ hI=>LU w1 eb ec e (hI.sl hE) Kg qK vars) ?_
 intro h0 Ae Fp w8 _ cb hI eu
 obtain⟨h1,h2,h3,h4,fs,h5,h6,h7⟩:=DY h0
 obtain⟨v,rfl⟩: ∃v:Nat,vars=(v:Int):=⟨vars.toNat,by omega⟩
 obtain⟨B,rfl⟩: ∃B:Nat,lX=(B:Int):=⟨lX.toNat,by omega⟩
 simp only[Int.toNat_natCast]at*
 have Gv:B_ e (w5 e) (e.length-1):=jM h5 qK e.length (e.length-1) (by omega) (by omega)
 by_cases hl:e.any mA=true
 ·have hw:(w5 e).wf=true:=(zk h5 e.length (e.length-1) (by omega) (by omega)).2 h7
  have Kf:(w5 e).lv≤12:=by
   have:=zl h5 e.length (e.length-1) (by omega) (by omega)
   have:=Yf hl
   unfold w5;omega
  refine(IT w8 cb eb e.length ec v B eu (by omega) (by omega) (by omega) e (hI.sl hE) F h3 h4 (w5 e) Gv (zh cb) hl hw Kf Up (fun ho=>HI (by omega) (by omega) hw Kf ho) (fun ho=>hK h0 hl ho)).mono ?_ ?_
  ·rintro r O' ⟨M,k,rfl,rfl,hM,hO⟩
   exact⟨M,k,F,F,by unfold qh;rw[if_pos hl];exact hM,by unfold J7;rw[if_pos hl];exact hO⟩
  ·intro hz;unfold J7;rw[if_pos hl];exact hz
 ·have YY:e.any mA=false:=by simpa using hl
  have hp:(w5 e).plain=true:=qU h5 (fun x hx=>by
   have:=List.any_eq_false.1 YY x hx
   unfold mA at this
   simp only[Bool.or_eq_true,decide_eq_true_eq]at this
   omega) e.length (e.length-1) (by omega) (by omega)
  refine(FV w8 cb eb e.length ec v B eu (by omega) (by omega) (by omega) e (hI.sl hE) F h3 h4 (w5 e) Gv (zh cb).pl YY hp).mono ?_ ?_
  ·rintro r O' ⟨M,k,rfl,rfl,hM,hO⟩
   exact⟨M,k,F,F,by unfold qh;rw[if_neg hl];exact hM,by unfold J7;rw[if_neg hl];exact hO⟩
  ·intro hz;unfold J7;rw[if_neg hl];exact hz
def FrU (E:Nat) (lX:Int) (G:bY→Prop) (Z:Prop) (D:bY) (er:Nat):Prop:=
 (E≠0∧er=E∧D=J0)∨(E=0∧ ¬(1≤lX∧lX≤4096)∧er=1∧D=J0)∨(E=0∧(1≤lX∧lX≤4096)∧((er=0∧G D)∨(er=10∧D=J0∧Z)))
theorem M7 {base:World} {eb:Option Addr} {ec E n:Nat} {vars lX:Int} {G:bY→Prop} {Z:Prop} (h:bw Tryz.prog base 19 [.slice eb n ec,.int .i64 vars,.int .i64 lX] [] (Xr E lX G Z)):
  bs Tryz.prog 19 [.slice eb n ec,.int .i64 vars,.int .i64 lX] base fun v N=> ∃D k er,v=.tuple #[dV D k,.int .i64 ((er:Nat):Int)]∧N=[dI 56 4 3 D k]∧FrU E lX G Z D er:=by
 refine(yu 56 4 3 h).post ?_
 rintro v O' ⟨O2,rfl,h⟩
 rcases h with⟨h1,rfl,rfl⟩|⟨h1,h2,rfl,rfl⟩|⟨h1,h2,⟨M,k,rfl,rfl,hG⟩|⟨rfl,rfl,hZ⟩⟩
 ·exact⟨_,Sub.rf,J0,Ru,E,F,F,.inl ⟨h1,F,F⟩⟩
 ·exact⟨_,Sub.rf,J0,Ru,1,F,F,.inr (.inl ⟨h1,h2,F,F⟩)⟩
 ·exact⟨_,au [1] F,M,k,0,F,F,.inr (.inr ⟨h1,h2,.inl ⟨F,hG⟩⟩)⟩
 ·exact⟨_,Sub.rf,J0,Ru,10,F,F,.inr (.inr ⟨h1,h2,.inr ⟨F,F,hZ⟩⟩)⟩
end Go.Proofs.YtgdbfideeeegmaaGreatDoor

namespace Go.Lx
open Go.RowKit
def fo {α:Type} (n:Nat) (k:Nat→α):α:=Nat.rec (motive:=fun _=>α) (k 0) (fun m _=>k (Nat.succ m)) n
end Go.Lx

namespace Go.Lx
open Go.RowKit
set_option maxRecDepth 100000
theorem fm.M6 {v:Nat} {B n:Nat} {M D:bY} {p:Lg} (h:fm (v:Int) B M p) (hD:HasL (v:Int) n D p):M.next.length≤n:=by
 have h1:=hD.rn
 rw[fm.ext h h1 fun _ _=>rfl];exact h1.len
end Go.Lx

namespace Go.Lx
open Go.RowKit
def kH:Nat→List (List Nat)
 |0=>[[]]
 |n+1=>kH n++(kH n).map (· ++[n])
theorem td: ∀n,(kH n).length=2^n
 |0=>rfl
 |n+1=>by
  show(kH n++(kH n).map (· ++[n])).length=_
  rw[List.length_append,List.length_map,td n,Nat.pow_succ];omega
theorem ym (p:Nat→Bool): ∀n,(List.range n).filter p∈kH n
 |0=>by simp[kH]
 |n+1=>by
  rw[List.range_succ,List.filter_append]
  show _∈kH n++(kH n).map (· ++[n])
  have ih:=ym p n
  cases h:p n with
  |true=>rw[show[n].filter p=[n] by simp[h]];exact List.mem_append.2 (.inr (List.mem_map.2 ⟨_,ih,F⟩))
  |false=>rw[show[n].filter p=[] by simp[h],List.append_nil];exact List.mem_append.2 (.inl ih)
theorem nm: ∀ {n:Nat} {l:List Nat},l∈kH n→l.Pairwise (· < ·)∧ ∀x∈l,x<n
 |0,l,h=>by simp[kH]at h;subst h;exact⟨List.Pairwise.nil,fun x hx=>by simp at hx⟩
 |n+1,l,h=>by
  rcases List.mem_append.1 (show l∈kH n++(kH n).map (· ++[n])from h)with h|h
  ·have:=nm h;exact⟨this.1,fun x hx=>by have:=this.2 x hx;omega⟩
  ·obtain⟨m,hm,rfl⟩:=List.mem_map.1 h
   have:=nm hm
   refine⟨List.pairwise_append.2 ⟨this.1,List.pairwise_singleton _ _,fun x hx y hy=>?_⟩,fun x hx=>?_⟩
   ·rw[List.mem_singleton.1 hy];exact this.2 x hx
   ·rcases List.mem_append.1 hx with hx|hx
    ·have:=this.2 x hx;omega
    ·rw[List.mem_singleton.1 hx];omega
theorem te {n:Nat} {l:List Nat} (h1:l.Pairwise (· < ·)) (h2: ∀x∈l,x<n):l∈kH n:=by
 have:l=(List.range n).filter (fun x=>l.contains x):=wy h1 (List.Pairwise.filter _ List.pairwise_lt_range) fun y=>by
  simp only[List.mem_filter,List.mem_range,List.contains_iff_mem]
  exact⟨fun h=>⟨h2 y h,h⟩,fun h=>h.2⟩
 rw[this];exact ym _ _
theorem EW {α:Type} [Nonempty α] {G:α→Prop} {kf:α→Key} {nx:α→Nat→α} {fn:α→Bool} {L:Nat} (h:LY G kf nx fn L) {s:α} (hs:G s) (Q:List α) (hQ: ∀q,q∈Q↔G q) {B:Nat} (hB:Q.length≤B):CT (zI G kf nx) L (kf s) B:=by
 refine⟨Q.map kf,⟨List.mem_map.2 ⟨s,(hQ s).2 hs,F⟩,fun k hk x hx=>?_⟩,by simpa using hB⟩
 obtain⟨q,hq,rfl⟩:=List.mem_map.1 hk
 rw[sT h ((hQ q).1 hq) hx]
 exact List.mem_map.2 ⟨_,(hQ _).2 (h.My q x ((hQ q).1 hq) hx),F⟩
theorem uB {a b:bY} (ha:Valid a) (hb:Valid b) {B:Nat} (h:a.next.length*2^b.next.length≤B):yX a b (cJ a) B:=by
 refine EW (Ej ha hb) (.start ha.toVal hb.toVal) ((List.range a.next.length).flatMap fun s=>(kH b.next.length).map fun l=>(s,l)) (fun q=>?_) ?_
 ·simp only[List.mem_flatMap,List.mem_range,List.mem_map]
  constructor
  ·rintro⟨s,hs,l,hl,rfl⟩;exact⟨hs,(nm hl).1,(nm hl).2⟩
  ·rintro⟨h1,h2,h3⟩;exact⟨q.1,h1,q.2,te h2 h3,F⟩
 ·rw[List.length_flatMap]
  simp only[List.length_map,td]
  rw[show(fun _:Nat=>2^b.next.length)=Function.const Nat (2^b.next.length)from F,List.map_const,List.sum_replicate_nat,List.length_range]
  exact h
theorem HF {a:bY} (ha:Valid a) {B:Nat} (h:2^(a.next.length+1)≤B):CX a (cJ a) B:=by
 refine EW (yY ha) (.start ha.toVal) ((kH a.next.length).map (fun l=>(true,l))++(kH a.next.length).map (fun l=>(false,l))) (fun q=>?_) ?_
 ·simp only[List.mem_append,List.mem_map]
  constructor
  ·rintro(⟨l,hl,rfl⟩|⟨l,hl,rfl⟩)<;>exact⟨(nm hl).1,(nm hl).2⟩
  ·rintro⟨h1,h2⟩
   obtain⟨f,l⟩:=q
   cases f with
   |true=>exact .inl ⟨l,te h1 h2,F⟩
   |false=>exact .inr ⟨l,te h1 h2,F⟩
 ·rw[List.length_append,List.length_map,List.length_map,td]
  rw[Nat.pow_succ]at h;omega
end Go.Lx

namespace Go.Lx
open Go.RowKit Go.Proofs.YtgdbfideeeegmaaGreatDoor
section
variable (ls:List Lf)
def BS:Nat→List (List Ob)
 |0=>[[]]
 |k+1=>BS k++(BS k).flatMap fun o=>(List.range (lf ls k).d.next.length).map fun s=>o++[(k,s)]
def Rn:Nat→Nat
 |0=>1
 |k+1=>Rn k*((lf ls k).d.next.length+1)
def Gd:Nat→List Cf
 |0=>[]
 |k+1=>Gd k++(BS ls k).flatMap fun o=>(List.range (lf ls k).d.next.length).map fun s=>⟨(k:Int),s,o⟩
variable {ls}
theorem JH {α β:Type} (l:List α) (n:Nat) (f:α→Nat→β):(l.flatMap fun o=>(List.range n).map fun s=>f o s).length=l.length*n:=by
 induction l with
 |nil=>simp
 |cons a l ih=>rw[List.flatMap_cons,List.length_append,List.length_map,List.length_range,ih,List.length_cons,Nat.succ_mul];omega
theorem wG: ∀k,(BS ls k).length=Rn ls k
 |0=>rfl
 |k+1=>by
  show(BS ls k++_).length=Rn ls k*_
  rw[List.length_append,JH,wG k,Nat.mul_succ];omega
theorem BT: ∀k,(Gd ls k).length+1=Rn ls k
 |0=>rfl
 |k+1=>by
  show(Gd ls k++_).length+1=Rn ls k*_
  rw[List.length_append,JH,wG k,Nat.mul_succ];have:=BT k;omega
theorem pw: ∀ {k:Nat} {o:List Ob},eE ls k o→o∈BS ls k
 |0,o,h=>by
  cases o with
  |nil=>exact List.mem_singleton.2 F
  |cons p o=>exact absurd (h.2 p (by simp)).1 (by omega)
 |k+1,o,h=>by
  show o∈BS ls k++_
  rcases List.eq_nil_or_concat o with rfl|⟨o,p,rfl⟩
  ·exact List.mem_append.2 (.inl (pw .nil))
  ·rw[List.concat_eq_append]at h⊢
   have h1:=List.pairwise_append.1 h.1
   have hp:=h.2 p (by simp)
   have eU: ∀q∈o,q.1<p.1:=fun q hq=>h1.2.2 q hq p (by simp)
   rcases Nat.lt_or_ge p.1 k with c|c
   ·refine List.mem_append.2 (.inl (pw ⟨h.1,fun q hq=>⟨?_,(h.2 q hq).2⟩⟩))
    rcases List.mem_append.1 hq with hq|hq
    ·have:=eU q hq;omega
    ·rw[List.mem_singleton.1 hq];exact c
   ·have e:p.1=k:=by omega
    refine List.mem_append.2 (.inr (List.mem_flatMap.2 ⟨o,pw ⟨h1.1,fun q hq=>⟨by have:=eU q hq;omega,(h.2 q (by simp[hq])).2⟩⟩,List.mem_map.2 ⟨p.2,List.mem_range.2 (by rw[←e];exact hp.2),?_⟩⟩))
    rw[←e]
theorem BU {n:Nat} {s:Nat} {o:List Ob}: ∀ {k:Nat},n<k→s<(lf ls n).d.next.length→eE ls n o→(⟨(n:Int),s,o⟩:Cf)∈Gd ls k
 |0,h,_,_=>absurd h (by omega)
 |k+1,h,hs,ho=>by
  show _∈Gd ls k++_
  rcases Nat.lt_or_ge n k with c|c
  ·exact List.mem_append.2 (.inl (BU c hs ho))
  ·have e:n=k:=by omega
   subst e
   exact List.mem_append.2 (.inr (List.mem_flatMap.2 ⟨o,pw ho,List.mem_map.2 ⟨s,List.mem_range.2 hs,F⟩⟩))
theorem K5 {K:Nat} (h:2*Rn ls ls.length≤K+1):p7 ls K:=fun l hn hg=>by
 have:=s6 hn (m:=(BS ls ls.length).map (fun o=>(⟨-1,0,o⟩:Cf))++Gd ls ls.length) fun c hc=>by
  rcases hg c hc with⟨h1,h2,h3⟩|⟨k,h1,hk,h2,h3⟩
  ·exact List.mem_append.2 (.inl (List.mem_map.2 ⟨c.o,pw h3,by obtain⟨a,b,d⟩:=c;simp only at h1 h2;rw[h1,h2]⟩))
  ·refine List.mem_append.2 (.inr ?_)
   obtain⟨a,b,d⟩:=c
   simp only at h1 h2 h3
   rw[h1];exact BU hk h2 h3
 rw[List.length_append,List.length_map,wG]at this
 have:=BT (ls:=ls) ls.length
 omega
end
theorem SO (n:Nat):cT n=0∨cT n=1∨cT n=2:=by
 unfold cT
 split
 ·exact .inr (.inr F)
 ·split
  ·exact .inr (.inl F)
  ·exact .inl F
end Go.Lx

namespace Go.Proofs.YtgdbfideeeegmaaGreatDoor
open Go.Lx Go.RowKit _root_.Go.Proofs.Tryz
end Go.Proofs.YtgdbfideeeegmaaGreatDoor

namespace Go.Proofs.YtgdbfideeeegmaaGreatDoor
open Go.Lx Go.RowKit _root_.Go.Proofs.Tryz
end Go.Proofs.YtgdbfideeeegmaaGreatDoor

namespace Go.Proofs.YtgdbfideeeegmaaGreatDoor
open Go.Lx Go.RowKit _root_.Go.Proofs.Tryz
end Go.Proofs.YtgdbfideeeegmaaGreatDoor

namespace Go.Lx
open Go.RowKit Go.Proofs.YtgdbfideeeegmaaGreatDoor
def Yt (L x:Nat):PP:=(0,[⟨3,x,L-1-x,0,0⟩])
def J4:PP:=(1,[⟨1,0,0,0,0⟩])
def Vt:PP:=(2,[⟨2,0,0,0,0⟩])
def vv (m:bY) (s t:Nat):Nat→PP
 |0=>if s=t then Vt else J4
 |x+1=>if dJ m s x=t then qC (vv m s t x) (Yt (cJ m) x)else vv m s t x
def fU (m:bY):Nat→Nat→Nat→PP
 |0,s,t=>vv m s t (cJ m)
 |k+1,s,t=>qC (fU m k s t) (oK (oK (fU m k s k) (rF (fU m k k k))) (fU m k k t))
def qF (m:bY):Nat→PP
 |0=>J4
 |t+1=>if dK m t=true then qC (qF m t) (fU m m.next.length 0 t)else qF m t
def wZ (m:bY):PP:=qF m m.next.length
def w0 (m:bY):Nat:=if(wZ m).1=3 then 4 else 0
def sN (m:bY):List dE:=if(wZ m).1=3 then[]else(wZ m).2
theorem vw {L x:Nat} (h:x<L) (hL:L≤256):dv (Yt L x):=.one (by decide) (by decide) (by omega) (by omega)
theorem vx:dv J4:=.one (by decide) (by decide) (by decide) (by decide)
theorem Hk:dv Vt:=.one (by decide) (by decide) (by decide) (by decide)
theorem oO {m:bY} (hL:cJ m≤256) (s t:Nat): ∀x,x≤cJ m→dv (vv m s t x)
 |0,_=>by
  unfold vv;split
  ·exact Hk
  ·exact vx
 |x+1,h=>by
  unfold vv;split
  ·exact sJ (oO hL s t x (by omega)) (vw (by omega) hL)
  ·exact oO hL s t x (by omega)
theorem eH {m:bY} (hL:cJ m≤256): ∀k s t,dv (fU m k s t)
 |0,s,t=>oO hL s t _ (Nat.le_refl _)
 |k+1,s,t=>sJ (eH hL k s t) (ll (ll (eH hL k s k) (qD (eH hL k k k))) (eH hL k k t))
theorem jZ {m:bY} (hL:cJ m≤256): ∀t,dv (qF m t)
 |0=>vx
 |t+1=>by
  unfold qF;split
  ·exact sJ (jZ hL t) (eH hL _ _ _)
  ·exact jZ hL t
structure MR where
 b:Option Addr
 c:Nat
 l:List PR
instance:Inhabited MR:=⟨⟨none,0,[]⟩⟩
abbrev MR.val (r:MR):Value:=.slice r.b r.l.length r.c
def MR.lZ (T:TypeId) (r:MR):Item:=ak r.b r.c T 2 (dx r.l)
def dz (T:TypeId) (R:List MR):List Item:=R.map (MR.lZ T)
def jp (R:List MR):List Value:=R.map MR.val
structure ul (l:List PR) (p:List ER) (g:Nat→PP):Prop where
 pp: ∀j (h:j<l.length),l[j].pp=g j
 po: ∀x∈l,dn p x.r
theorem ul.nil {p:List ER} {g:Nat→PP}:ul [] p g:=⟨fun j h=>absurd h (by simp),fun x hx=>by simp at hx⟩
theorem ul.mono {l:List PR} {p q:List ER} {g:Nat→PP} (h:ul l p g) (hq: ∀x∈p,x∈q):ul l q g:=⟨h.pp,fun x hx=>(h.po x hx).mono hq⟩
theorem ul.snoc {l:List PR} {p:List ER} {g:Nat→PP} (h:ul l p g) {c:PR} (hc:c.pp=g l.length) (hp:dn p c.r):ul (l++[c]) p g:=by
 refine⟨fun j hj=>?_,fun x hx=>?_⟩
 ·rw[List.length_append,List.length_singleton]at hj
  rcases Nat.lt_or_ge j l.length with e|e
  ·rw[List.getElem_append_left e];exact h.pp j e
  ·have:j=l.length:=by omega
   subst this
   rw[List.getElem_append_right (Nat.le_refl _)]
   simpa using hc
 ·rcases List.mem_append.1 hx with hx|hx
  ·exact h.po x hx
  ·rw[List.mem_singleton.1 hx];exact hp
structure n8 (R:List MR) (p:List ER) (n:Nat) (f:Nat→Nat→PP):Prop where
 len: ∀r∈R,r.l.length=n
 row: ∀i (h:i<R.length),ul R[i].l p (f i)
theorem n8.nil {p:List ER} {n:Nat} {f:Nat→Nat→PP}:n8 [] p n f:=⟨fun r hr=>by simp at hr,fun i h=>absurd h (by simp)⟩
theorem n8.mono {R:List MR} {p q:List ER} {n:Nat} {f:Nat→Nat→PP} (h:n8 R p n f) (hq: ∀x∈p,x∈q):n8 R q n f:=⟨h.len,fun i hi=>(h.row i hi).mono hq⟩
theorem n8.snoc {R:List MR} {p:List ER} {n:Nat} {f:Nat→Nat→PP} (h:n8 R p n f) {r:MR} (hl:r.l.length=n) (hr:ul r.l p (f R.length)):n8 (R++[r]) p n f:=by
 refine⟨fun x hx=>?_,fun i hi=>?_⟩
 ·rcases List.mem_append.1 hx with hx|hx
  ·exact h.len x hx
  ·rw[List.mem_singleton.1 hx];exact hl
 ·rw[List.length_append,List.length_singleton]at hi
  rcases Nat.lt_or_ge i R.length with e|e
  ·rw[List.getElem_append_left e];exact h.row i e
  ·have:i=R.length:=by omega
   subst this
   rw[List.getElem_append_right (Nat.le_refl _)]
   simpa using hr
def gJ (R:List MR) (n:Nat):List Value:=jp R++List.replicate (n-R.length) (.slice none 0 0)
theorem kz {R:List MR} {n:Nat} (h:R.length≤n):(gJ R n).length=n:=by unfold gJ jp;rw[List.length_append,List.length_map,List.length_replicate];omega
theorem KF {R:List MR} {n:Nat} (h:R.length<n):(gJ R n)[R.length]? =some (.slice none 0 0):=by
 unfold gJ jp
 rw[List.getElem?_append_right (by simp),List.length_map,Nat.sub_self,show n-R.length=(n-R.length-1)+1 by omega,List.replicate_succ];rfl
theorem rI {R:List MR} {n:Nat} (h:R.length<n) (r:MR):(gJ R n).set R.length r.val=gJ (R++[r]) n:=by
 unfold gJ jp
 rw[List.set_append_right _ _ (by simp),List.length_map,Nat.sub_self,show n-R.length=(n-(R++[r]).length)+1 by simp;omega,List.replicate_succ,List.map_append]
 simp
theorem xM {R:List MR} {n:Nat} (h:R.length=n):gJ R n=jp R:=by unfold gJ;rw[h,Nat.sub_self];simp
theorem mW {R:List MR} {i:Nat} (h:i<R.length):(jp R)[i]? =some R[i].val:=by unfold jp;rw[List.getElem?_map,List.getElem?_eq_getElem h];rfl
theorem mX (R:List MR):(jp R).length=R.length:=List.length_map _
theorem AE (T:TypeId) (R S:List MR):dz T (R++S)=dz T R++dz T S:=List.map_append
theorem iT {T:TypeId} {R:List MR} {i:Nat} (h:i<R.length):ak R[i].b R[i].c T 2 (dx R[i].l)∈dz T R:=List.mem_map.2 ⟨_,List.getElem_mem h,F⟩
theorem AF {R:List MR} {n:Nat} (h:R.length<n):gJ R n=gJ (R++[⟨none,0,[]⟩]) n:=by
 rw[←rI h]
 apply List.ext_getElem?
 intro i
 by_cases e:i=R.length
 ·subst e;rw[KF h,List.getElem?_set_self (by rw[kz (by omega)];exact h)];rfl
 ·rw[List.getElem?_set_ne (fun h=>e h.symm)]
theorem AG {R:List MR} {n:Nat} (h:R.length<n) (r:MR):(gJ (R++[r]) n)[R.length]? =some r.val:=by
 rw[←rI h,List.getElem?_set_self (by rw[kz (by omega)];exact h)]
theorem xN {R:List MR} {n:Nat} (h:R.length<n) (r r2:MR):(gJ (R++[r]) n).set R.length r2.val=gJ (R++[r2]) n:=by
 rw[←rI h,List.set_set,rI h]
theorem Hl {M:bY} {qs:List Rec} (h:nums qs=M.next):qs.length=M.next.length:=by rw[←h];simp
theorem yG {M:bY} {qs:List Rec} (h:nums qs=M.next) (hv:Val M) {s:Nat} (hs:s<qs.length):qs[s].xs.length=cJ M:=by
 have h1:qs[s].xs∈M.next:=by rw[←h];exact List.mem_map.2 ⟨_,List.getElem_mem hs,F⟩
 exact hv.len _ h1
theorem Sj {M:bY} {qs:List Rec} (h:nums qs=M.next) (hv:Val M) {s:Nat} (hs:s<qs.length) {x:Nat} (hx:x<cJ M):(ints qs[s].xs)[x]? =some (.int .i64 ((dJ M s x:Nat):Int)):=by
 obtain⟨_,h1,h2,h3⟩:=hv.fB (o:=s) (by rw[←Hl h];exact hs) hx
 have h4:qs[s].xs=M.next[s]:=by
  have:(nums qs)[s]? =M.next[s]? :=by rw[h]
  rw[List.getElem?_eq_getElem h1,List.getElem?_map,List.getElem?_eq_getElem hs]at this
  exact Option.some.inj this
 rw[h4,d_ h2,h3]
theorem Hm {qs:List Rec} {s:Nat} (hs:s<qs.length):(bO qs)[s]? =some (.slice qs[s].b qs[s].xs.length qs[s].c):=by
 show(qs.map Rec.val)[s]? =_
 rw[List.getElem?_map,List.getElem?_eq_getElem hs];rfl
theorem Hn {qs:List Rec} {s:Nat} (hs:s<qs.length):ak qs[s].b qs[s].c 3 1 (ints qs[s].xs)∈bl 3 qs:=List.mem_map.2 ⟨_,List.getElem_mem hs,F⟩
theorem lF {l:List PR} {i:Nat} {a:PR} (h:l[i]? =some a): ∀j (hj:j<a.cells.length),(dx l)[i*2+j]? =some a.cells[j]:=by
 obtain⟨hi,rfl⟩:=List.getElem?_eq_some_iff.1 h
 exact mr hi
theorem n8.at {R:List MR} {p:List ER} {n:Nat} {f:Nat→Nat→PP} (h:n8 R p n f) {i j:Nat} (hi:i<R.length) (hj:j<n): ∃a:PR,R[i].l[j]? =some a∧a.pp=f i j∧dn p a.r:=by
 have hl:=h.len _ (List.getElem_mem hi)
 have h1:=h.row i hi
 have qB:j<R[i].l.length:=by omega
 exact⟨R[i].l[j],List.getElem?_eq_getElem qB,h1.pp j qB,h1.po _ (List.getElem_mem qB)⟩
theorem eh {T:TypeId} {q p:List ER} {O:List Item} (h1: ∀it∈aY T q,it∈O) (h2: ∀it∈aY T p,it∈O): ∀it∈aY T (q++p),it∈O:=fun it di=>by
 rw[iw]at di
 exact(List.mem_append.1 di).elim (h1 it) (h2 it)
theorem jE {p q:List ER} {a:List PR} {c:PR} (h:dn q c.r∨ ∃x∈a,c.r=x.r) (ha: ∀x∈a,dn p x.r):dn (q++p) c.r:=by
 rcases h with h|⟨x,hx,e⟩
 ·exact h.mono fun y hy=>List.mem_append_left _ hy
 ·rw[e];exact(ha x hx).mono fun y hy=>List.mem_append_right _ hy
theorem tv (A B E X Y:List Item) (c:Item) (h:Sub (A++[c]) B):Sub (A++(E++((X++[c])++Y))) (B++(E++(X++Y))):=by
 obtain⟨l,h1,h2⟩:=h
 refine⟨l++(E++(X++Y)),?_,h2.append (List.Sublist.refl _)⟩
 refine List.Perm.trans ?_ (h1.append_right (E++(X++Y)))
 rw[List.append_assoc X,List.append_assoc A]
 refine List.Perm.append_left A ?_
 rw[←List.append_assoc E X,←List.append_assoc E X,List.singleton_append]
 exact List.perm_middle
theorem AH (A B E X Y Z:List Item) (h:Sub A B):Sub (A++(E++(X++Z))) (B++(E++(X++(Y++Z)))):=by
 obtain⟨l,h1,h2⟩:=h
 exact⟨l++(E++(X++Z)),h1.append_right _,h2.append ((List.Sublist.refl E).append ((List.Sublist.refl X).append (List.sublist_append_right Y Z)))⟩
end Go.Lx

namespace Go.Lx
open Go.RowKit Go.Proofs.YtgdbfideeeegmaaGreatDoor
abbrev PR.bU (x:PR):List Value:=[.bool (decide (x.k=1)),.bool (decide (x.k=2)),.bool (decide (x.k=3)),.slice x.r.b x.r.e.length x.r.c]
abbrev PR.w6 (x:PR):Value:=.agg #[.bool (decide (x.k=1)),.bool (decide (x.k=2)),.bool (decide (x.k=3)),.slice x.r.b x.r.e.length x.r.c]
def J9 (T:TypeId) (a:List PR) (pp:PP) (v:Value) (N:List Item):Prop:= ∃(q:List ER) (c:PR),v=c.w6∧N=aY T q∧c.pp=pp∧(dn q c.r∨ ∃x∈a,c.r=x.r)
def jJ (op:Nat) (a b:List dE):List dE:=a++b.map (cK a.length)++[⟨op,0,0,(a.length:Int)-1,if b.length=0 then 0 else((a.length+b.length:Nat):Int)-1⟩]
def AP (op:Nat) (a b:PP):PP:=if(a.1=3∨b.1=3)∨a.2.length+b.2.length>63 then(3,[])else(0,jJ op a.2 b.2)
theorem pJ (op:Nat) (a b:List dE):(jJ op a b).length=a.length+b.length+1:=by simp[jJ,Nat.add_assoc]
theorem pK {op:Nat} {a b:PP} (hb:dv b):AP op a b=kx op a b:=by
 unfold AP kx
 by_cases h:a.1=3∨b.1=3
 ·rw[if_pos (.inl h),if_pos h]
 ·rw[if_neg h]
  unfold wY
  have hn:=hb.pos (fun e=>h (.inr e))
  have e:jJ op a.2 b.2=a.2++b.2.map (cK a.2.length)++[⟨op,0,0,(a.2.length:Int)-1,((a.2.length+b.2.length:Nat):Int)-1⟩]:=by unfold jJ;rw[if_neg (by omega)]
  rw[←e,pJ]
  by_cases h2:a.2.length+b.2.length>63
  ·rw[if_pos (.inr h2),if_pos (by omega)]
  ·rw[if_neg (fun h9=>h9.elim h h2),if_neg (by omega)]
theorem FG {op:Nat} {a:PP}:AP op a (0,[])=lE op a:=by
 unfold AP lE
 by_cases h:a.1=3
 ·rw[if_pos (.inl (.inl h)),if_pos h]
 ·rw[if_neg h]
  unfold wY
  have e:jJ op a.2 []=a.2++[⟨op,0,0,(a.2.length:Int)-1,0⟩]:=by unfold jJ;simp
  rw[←e,pJ]
  show(if _∨a.2.length+0>63 then _ else _)=_
  by_cases h2:a.2.length>63
  ·rw[if_pos (.inr h2)];exact(if_pos (show 64<a.2.length+0+1 by omega)).symm
  ·rw[if_neg (fun h9=>h9.elim (fun h9=>h9.elim h (by simp)) h2)];exact(if_neg (show¬64<a.2.length+0+1 by omega)).symm
theorem vM {o:Nat} (h1:1≤o) (h8:o≤8):cT o=if o=7∨o=8 then 1 else if o=4∨o=5∨o=6 then 2 else 0:=by
 have: ∀o,o≤8→1≤o→cT o=if o=7∨o=8 then 1 else if o=4∨o=5∨o=6 then 2 else 0:=by decide
 exact this o h8 h1
theorem CK {s:Nat} {x:dE} (h1:1≤x.op) (h8:x.op≤8) (h: ¬((cT x.op:Nat):Int)≥1):cK s x=x:=by
 rw[vM h1 h8]at h
 unfold cK
 split at h
 ·exact absurd (show((1:Nat):Int)≥1 by decide) h
 ·rename_i h2
  split at h
  ·exact absurd (show((2:Nat):Int)≥1 by decide) h
  ·rename_i h3
   rw[if_neg h2,if_neg h3]
theorem CL {s:Nat} {x:dE} (h1:1≤x.op) (h8:x.op≤8) (h:((cT x.op:Nat):Int)≥1) (h2: ¬((cT x.op:Nat):Int)=2):cK s x=⟨x.op,x.p,x.n,x.a+s,x.b⟩:=by
 rw[vM h1 h8]at h h2
 unfold cK
 split at h
 ·rename_i h3;rw[if_pos h3]
 ·rename_i h3
  rw[if_neg h3]at h2
  split at h
  ·rename_i h4;rw[if_pos h4]at h2;exact absurd rfl h2
  ·exact absurd h (by decide)
theorem CM {s:Nat} {x:dE} (h1:1≤x.op) (h8:x.op≤8) (h2:((cT x.op:Nat):Int)=2):cK s x=⟨x.op,x.p,x.n,x.a+s,x.b+s⟩:=by
 rw[vM h1 h8]at h2
 unfold cK
 split at h2
 ·exact absurd h2 (by decide)
 ·rename_i h3
  rw[if_neg h3]
  split at h2
  ·rename_i h4;rw[if_pos h4]
  ·exact absurd h2 (by decide)
theorem FH {a b:PP} (h: ¬a.1=1) (hb:b.1=1):qC a b=a:=(if_neg h).trans (if_pos (.inl hb))
def jh (a:PP):Prop:=(a.1=1→a=J4)∧(a.1=2→a=Vt)
theorem m_ {k:Nat} {l:List dE} (h:k=0∨k=3):jh (k,l):=⟨fun e=>absurd (show k=1 from e) (by omega),fun e=>absurd (show k=2 from e) (by omega)⟩
theorem D4:jh J4:=⟨fun _=>rfl,fun e=>absurd (show(1:Nat)=2 from e) (by decide)⟩
theorem D5:jh Vt:=⟨fun e=>absurd (show(2:Nat)=1 from e) (by decide),fun _=>rfl⟩
theorem AQ {op:Nat} {l:List dE}:jh (wY op l):=by
 unfold wY;split
 ·exact m_ (.inr F)
 ·exact m_ (.inl F)
theorem FI {op:Nat} {a:PP}:jh (lE op a):=by
 unfold lE;split
 ·exact m_ (.inr F)
 ·exact AQ
theorem xS {op:Nat} {a b:PP}:jh (kx op a b):=by
 unfold kx;split
 ·exact m_ (.inr F)
 ·exact AQ
theorem xT {a b:PP} (ha:jh a) (hb:jh b):jh (qC a b):=by
 unfold qC;split
 ·exact hb
 ·split
  ·exact ha
  ·exact xS
theorem pL {a b:PP} (ha:jh a) (hb:jh b):jh (oK a b):=by
 unfold oK;split
 ·exact ha
 ·split
  ·exact hb
  ·exact xS
theorem qM {a:PP}:jh (rF a):=by
 unfold rF;split
 ·exact D5
 ·exact FI
theorem vO (m:bY) (s t:Nat): ∀x,jh (vv m s t x)
 |0=>by
  unfold vv;split
  ·exact D5
  ·exact D4
 |x+1=>by
  unfold vv;split
  ·exact xT (vO m s t x) (m_ (.inl F))
  ·exact vO m s t x
theorem fO (m:bY): ∀k s t,jh (fU m k s t)
 |0,s,t=>vO m s t _
 |k+1,s,t=>xT (fO m k s t) (pL (pL (fO m k s k) qM) (fO m k k t))
theorem AR {a:PP} (ha:jh a):qC a J4=a:=by
 by_cases h:a.1=1
 ·rw[ha.1 h];rfl
 ·exact FH h F
theorem vP {a b:PP} (ha:jh a) (h:a.1=1):oK a b=J4:=(if_pos (.inl h)).trans (ha.1 h)
theorem AS {a b:PP} (ha:jh a) (hb:jh b) (h:b.1=1):oK a b=J4:=by
 unfold oK
 by_cases h1:a.1=1∨b.1=2
 ·rw[if_pos h1];exact ha.1 (h1.resolve_right (by omega))
 ·rw[if_neg h1,if_pos (.inl h)];exact hb.1 h
theorem rY {a b:PP} (ha:jh a) (hb:jh b) (h1: ¬a.1=1) (h:a.1=2):oK a b=b:=by
 unfold oK
 by_cases h2:b.1=2
 ·rw[if_pos (.inr h2),ha.2 h,hb.2 h2]
 ·rw[if_neg (fun h9=>h9.elim h1 h2),if_pos (.inr h)]
theorem HN {m:bY} {k s t:Nat} (h:(fU m k s k).1=1):fU m (k+1) s t=fU m k s t:=by
 rw[fU,vP (a:=fU m k s k) (fO m k s k) h,vP (a:=J4) D4 F,AR (fO m k s t)]
theorem HO {m:bY} {k s t:Nat} (h:(fU m k k t).1=1):fU m (k+1) s t=fU m k s t:=by
 rw[fU,AS (pL (fO m k s k) qM) (fO m k k t) h,AR (fO m k s t)]
theorem AT (A B:List Item) (T:TypeId) (q p:List ER) (r:ER) (h:Sub (A++[r.lZ T]) B):Sub (A++aY T (q++(r::p))) (B++(aY T q++aY T p)):=by
 refine Sub.tr (iS (D:=[]) ?_) (Sub.sw (M:=aY T q++aY T p) h)
 rw[List.append_nil,iw,List.append_assoc A]
 refine List.Perm.append_left A ?_
 exact List.perm_middle
theorem O5 {M:bY} (hv:Val M) {s:Nat} (hs:s<M.next.length) {x:Nat} (hx:x<cJ M):(ints M.next[s])[x]? =some (.int .i64 ((dJ M s x:Nat):Int)):=by
 obtain⟨_,h1,h2,h3⟩:=hv.fB (o:=s) hs hx
 rw[d_ h2,h3]
end Go.Lx

namespace Go.Lx
open Go.RowKit Go.Proofs.YtgdbfideeeegmaaGreatDoor
def Ch (S:List UInt8) (i c:Nat):Prop:=S[i]?.map UInt8.toNat=some c
theorem Ch.lt {S:List UInt8} {i c:Nat} (h:Ch S i c):i<S.length:=by
 unfold Ch at h
 rcases Nat.lt_or_ge i S.length with e|e
 ·exact e
 ·rw[List.getElem?_eq_none e]at h;cases h
section
variable {P:Program} {base:World} {ρ:Env} {O:List Item} {dst:Option Nat} {t:TypeId} {p:String} {af:Array Edge} {g:Option (Nat×Bool)}
theorem SC {x y:Operand} {T:TypeId} {S:List UInt8} {i c:Nat} (hu:P.underlying T=some .string) (hx:ev ρ x=str S) (hy:ev ρ y=.int .i64 (i:Int)) (h:Ch S i c):QT P base ⟨dst,.index T x y,t,p,af,g⟩ ρ O (.int .u8 (c:Int)):=fun w _=>by
 obtain⟨b,hb,rfl⟩:=Option.map_eq_some_iff.1 h
 have Fp:(ByteArray.mk S.toArray)[i]? =some b:=by
  have hl:=h.lt
  rw[show(ByteArray.mk S.toArray)[i]? =some ((ByteArray.mk S.toArray)[i]'hl)from dif_pos hl]
  rw[List.getElem?_eq_getElem hl]at hb
  exact hb
 have Fe:ev ρ x=.string ⟨S.toArray⟩:=hx
 simp[execOp,Fe,hy,Instr.index,asIntOf,aV hu,Fp]
end
end Go.Lx

namespace Go.Proofs.YtgdbfideeeegmaaGreatDoor
open Go.Lx Go.RowKit _root_.Go.Proofs.Tryz
theorem rN (base:World) [cG Tryz.prog base] (rb:Nat) (S:List UInt8) (oQ:S.length≤4096) (ia c n lc:Nat) (lb:Option Addr) (h:Ch S ia c):
  bw Tryz.prog base 132 [(.pointer (aD rb))] [oI rb 149 [(str S),vN ia,(.slice lb n lc),vI 0]] (fun v O'=>v=v8 c∧O'=[oI rb 149 [(str S),vN ia,(.slice lb n lc),vI 0]]):=by
 refine av func132 F ntmps132 F ?_
 have eU:=h.lt
 refine ai (TO.qa F (ae (ax (ai (ah F (ad (aP F) (ad (aJ eN F iU F F) (ad (aO 0 oR F F F F) (ad (ar (cS F F) (decide_eq_false (by decide))) (ae (aL F (aq (ax (ax ?_))))))))))))))
 refine dO [(0,0),(1,0),(2,0),(3,0),(4,0),(5,0),(6,0),(7,0),(8,0),(9,0)] ?_
 refine am F (aF F) (am F (aP F) (am F (aJ eN F aM F F) (am F (aO 0 dh F F F F) (am F (aF F) (am F (aP F) (am F (aJ eN F CG F F) (am F (aO 0 rO F F F F) (am F (u6 rO F) (am F (ar (bo F F) (decide_eq_false (by omega))) ?_)))))))))
 refine bu ?_
 refine aL F (aq (ax ?_))
 refine dO [(0,0),(1,0),(2,0),(3,0),(4,0),(5,0),(6,0),(7,0),(8,0),(9,0)] ?_
 refine am F (aF F) (am F (aP F) (am F (aJ eN F CG F F) (am F (aO 0 rO F F F F) (am F (aF F) (am F (aP F) (am F (aJ eN F aM F F) (am F (aO 0 dh F F F F) (am F (SC (i:=ia) rO F F h) (am F (cD F) ?_)))))))))
 refine bu ?_
 refine az ?_
 refine aG (v8 c) Tryz.results132 F ?_
 exact⟨F,F⟩
theorem KO (base:World) [cG Tryz.prog base] (rb:Nat) (S:List UInt8) (oQ:S.length≤4096) (ia c n lc:Nat) (lb:Option Addr) (h:Ch S ia c):
  bw Tryz.prog base 189 [(.pointer (aD rb)),v8 c] [oI rb 149 [(str S),vN ia,(.slice lb n lc),vI 0]] (fun v O'=>v=.tuple #[]∧O'=[oI rb 149 [(str S),vN (ia+1),(.slice lb n lc),vI 0]]):=by
 refine av func189 F ntmps189 F ?_
 have eU:=h.lt
 refine ai (ah F ?_)
 have Hs:=(bw.under (A:=[oI rb 149 [(str S),vN ia,(.slice lb n lc),vI 0]]) (B:=[]) (O:=[oI rb 149 [(str S),vN ia,(.slice lb n lc),vI 0]]) (rN base rb S oQ ia c n lc lb h) (by exact Sub.rf))
 refine aj F (aI jF Hs F ?_)
 clear Hs
 rintro vr O' ⟨A9,rfl,rfl,rfl⟩
 refine TO.qa F (ae (ax (ai (ah F (ad (aP F) (ad (aJ eN F iU F F) (ad (aO 0 oR F F F F) (ad (ar (bo F F) (decide_eq_true (by decide))) (ah F (ap F F (aF F) (ap F F (aF F) (ap F F (ar (cS F F) (decide_eq_false (by omega))) (ad (bt F F) ?_)))))))))))))
 refine ae (aL F (aq (ai (ah F (ad (aP F) (ad (aJ eN F iU F F) (ad (aO 0 oR F F F F) (ad (ar (bo F F) (decide_eq_true (by decide))) (ae ?_)))))))))
 refine bg F ?_
 refine aH (ah F (ad (aP F) (ad (aJ eN F aM F F) (ad (aO 0 dh F F F F) (ad (cj (a:=ia) (b:=1) F F (by omega)) (ad (aP F) (ad (aJ eN F aM F F) (aj F (bj (vs:=[(vN (ia+1))]) 0 aM F F F F ?_)))))))))
 refine ae ?_
 refine qb.zero Tryz.results189 ?_
 exact⟨F,F⟩
theorem DT (base:World) [cG Tryz.prog base] (rb:Nat) (S:List UInt8) (ia lc:Nat) (lb:Option Addr) (l:List dE) (x:dE) (hl:l.length≤1000):
  bw Tryz.prog base 133 [(.pointer (aD rb)),x.ag] [oI rb 149 [(str S),vN ia,(.slice lb l.length lc),vI 0],ak lb lc 72 5 (aT l)] (fun v O'=> ∃wQ wR,v=vN l.length∧O'=[oI rb 149 [(str S),vN ia,(.slice wQ ((l++[x]).length) wR),vI 0],ak wQ wR 72 5 (aT (l++[x]))]):=by
 refine av func133 F ntmps133 F ?_
 refine ai (aj F (cL (cs:=x.cl) F F (fun z1=>?_)))
 refine TO.qa F (ae (ax ?_))
 refine T.ds [oI z1 72 x.cl,oI rb 149 [(str S),vN ia,(.slice lb l.length lc),vI 0]] [(0,0),(1,0),(2,0),(3,0),(4,0),(5,0),(6,1),(7,1),(8,0),(9,0),(10,2)] (by exact Sub.k (.k .z)) ?_
 refine am F (aF F) (am F (aF F) (am F (aP F) (am F (aJ eN F eT F F) (am F (aO 1 cp F F F F) (am F (cN 0 bK F bQ F F F) ?_)))))
 refine bJ F F (bH (m:=1) (parts:=[(0,_)]) (cs:=x.cl) cp bQ (by decide) (by kernel_rfl) F (fun z2=>⟨by exact Sub.d (.k (.k .z)),?_⟩))
 refine bJ F F (bX 3 cp cp bQ F F F F (by rw[bF]) (by decide) (Src.row (j:=0) F (by simp)) (by simp[dD]) (by omega) (by decide) (by decide) (fun z3 oh=>⟨by exact Sub.d (.k (.k .z)),?_⟩))
 refine am F (aP F) (am F (aJ eN F eT F F) ?_)
 refine bq F F (bj (vs:=[(.slice z3 (l.length+1) oh)]) 2 eT F F F F ?_)
 refine bu ?_
 refine ai (ah F (ad (aP F) (ad (aJ eN F eT F F) (ad (aO 2 cp F F F F) (ad (bL cp F) (ad (gI (a:=(l.length+1)) (b:=1) F F (by omega) (by omega)) (TO.qa F (ae (az (ao ?_))))))))))
 refine aG (vN ((l.length+1)-1)) Tryz.results133 F ?_
 exact⟨[oI rb 149 [(str S),vN ia,(.slice z3 (l.length+1) oh),vI 0],ak z3 oh 72 5 ((aT l)++x.cl)],(by exact Sub.d (.d (.k (.k .z)))),z3,oh,by simp,by rw[gg,List.length_append];rfl⟩
theorem SD (base:World) [cG Tryz.prog base] (rb:Nat) (S:List UInt8) (oQ:S.length≤4096) (ia n lc:Nat) (lb:Option Addr) (h1:Ch S ia 42) (h2:Ch S (ia+1) 93):
  bw Tryz.prog base 134 [(.pointer (aD rb))] [oI rb 149 [(str S),vN ia,(.slice lb n lc),vI 0]] (fun v O'=>v=.agg #[v8 0,v8 0]∧O'=[oI rb 149 [(str S),vN (ia+1+1),(.slice lb n lc),vI 0]]):=by
 refine av func134 F ntmps134 F ?_
 have eU:=h1.lt;have j3:=h2.lt
 refine ai (aj F (aR eX F (fun z1=>?_)))
 refine ae (ai (ad (bE gT eX F) (aj F (aR eX F (fun z2=>?_)))))
 refine aj F (bj (vs:=[(.int .u8 0),(.int .u8 0)]) 0 eX F F F F ?_)
 refine TO.qa F (ae (ax (ai (ah F ?_))))
 have nF:=(bw.under (A:=[oI rb 149 [(str S),vN ia,(.slice lb n lc),vI 0]]) (B:=[oI z2 129 [(.int .u8 0),(.int .u8 0)],oI z1 129 [(.int .u8 0),(.int .u8 0)]]) (O:=[oI z2 129 [(.int .u8 0),(.int .u8 0)],oI z1 129 [(.int .u8 0),(.int .u8 0)],oI rb 149 [(str S),vN ia,(.slice lb n lc),vI 0]]) (rN base rb S oQ ia 42 n lc lb h1) (by exact Sub.dL [oI z2 129 [(.int .u8 0),(.int .u8 0)],oI z1 129 [(.int .u8 0),(.int .u8 0)]] _ (.k (.k .z))))
 refine aj F (aI jF nF F ?_)
 clear nF
 rintro vr O' ⟨A9,rfl,rfl,rfl⟩
 refine ad (ar (bo F F) (decide_eq_true (by decide))) (ae ?_)
 refine bg F ?_
 refine ai (ah F (ad (aP F) (ad (aJ eN F aM F F) (ad (aO 0 dh F F F F) (ad (cj (a:=ia) (b:=1) F F (by omega)) (ad (aP F) (ad (aJ eN F aM F F) (aj F (bj (vs:=[(vN (ia+1))]) 0 aM F F F F ?_)))))))))
 refine ae (ai (ah F ?_))
 have oS:=(bw.under (A:=[oI rb 149 [(str S),(vN (ia+1)),(.slice lb n lc),vI 0]]) (B:=[oI z2 129 [(.int .u8 0),(.int .u8 0)],oI z1 129 [(.int .u8 0),(.int .u8 0)]]) (O:=[oI rb 149 [(str S),(vN (ia+1)),(.slice lb n lc),vI 0],oI z2 129 [(.int .u8 0),(.int .u8 0)],oI z1 129 [(.int .u8 0),(.int .u8 0)]]) (KO base rb S oQ (ia+1) 93 n lc lb h2) (by exact Sub.rf))
 refine aj F (aI yI oS F ?_)
 clear oS
 rintro vr O' ⟨A9,rfl,rfl,rfl⟩
 refine ae (ai (ad (cN 1 jG F eX F F F) (aj F (bj (vs:=[(.int .u8 0),(.int .u8 0)]) 2 eX F F F F ?_))))
 refine ae (az (ao ?_))
 refine bf (i:=2) Tryz.results134 jG F eX F F F ?_
 exact⟨[oI rb 149 [(str S),vN (ia+1+1),(.slice lb n lc),vI 0]],(by exact Sub.k .z),F,F⟩
theorem SE (base:World) [cG Tryz.prog base] (rb:Nat) (S:List UInt8) (oQ:S.length≤4096) (ia k n lc:Nat) (lb:Option Addr) (hk:k<6) (h1:Ch S ia (97+k)) (h2:Ch S (ia+1) 93):
  bw Tryz.prog base 134 [(.pointer (aD rb))] [oI rb 149 [(str S),vN ia,(.slice lb n lc),vI 0]] (fun v O'=>v=.agg #[v8 (0|||1*2^k),v8 0]∧O'=[oI rb 149 [(str S),vN (ia+1+1),(.slice lb n lc),vI 0]]):=by
 refine av func134 F ntmps134 F ?_
 have eU:=h1.lt;have j3:=h2.lt
 have hpk:2^k<256:=Nat.pow_lt_pow_right (a:=2) (by decide) (show k<8 by omega)
 refine ai (aj F (aR eX F (fun z1=>?_)))
 refine ae (ai (ad (bE gT eX F) (aj F (aR eX F (fun z2=>?_)))))
 refine aj F (bj (vs:=[(.int .u8 0),(.int .u8 0)]) 0 eX F F F F ?_)
 refine TO.qa F (ae (ax (ai (ah F ?_))))
 have nF:=(bw.under (A:=[oI rb 149 [(str S),vN ia,(.slice lb n lc),vI 0]]) (B:=[oI z2 129 [(.int .u8 0),(.int .u8 0)],oI z1 129 [(.int .u8 0),(.int .u8 0)]]) (O:=[oI z2 129 [(.int .u8 0),(.int .u8 0)],oI z1 129 [(.int .u8 0),(.int .u8 0)],oI rb 149 [(str S),vN ia,(.slice lb n lc),vI 0]]) (rN base rb S oQ ia (97+k) n lc lb h1) (by exact Sub.dL [oI z2 129 [(.int .u8 0),(.int .u8 0)],oI z1 129 [(.int .u8 0),(.int .u8 0)]] _ (.k (.k .z))))
 refine aj F (aI jF nF F ?_)
 clear nF
 rintro vr O' ⟨A9,rfl,rfl,rfl⟩
 refine ad (ar (bo F F) (decide_eq_false (by omega))) (ae (aL F (aq (ax (aC ?_)))))
 refine nC 3 (T.round ?_)
 refine ax (ai (ah F (ad (aP F) (ad (aJ eN F iU F F) (ad (aO 0 oR F F F F) (ad (ar (bo F F) (decide_eq_true (by decide))) (ae ?_)))))))
 refine bg F ?_
 refine aq (aC (ai (ah F ?_)))
 have rP:=(bw.under (A:=[oI rb 149 [(str S),vN ia,(.slice lb n lc),vI 0]]) (B:=[oI z2 129 [(.int .u8 0),(.int .u8 0)],oI z1 129 [(.int .u8 0),(.int .u8 0)]]) (O:=[oI rb 149 [(str S),vN ia,(.slice lb n lc),vI 0],oI z2 129 [(.int .u8 0),(.int .u8 0)],oI z1 129 [(.int .u8 0),(.int .u8 0)]]) (rN base rb S oQ ia (97+k) n lc lb h1) (by exact Sub.rf))
 refine aj F (aI jF rP F ?_)
 clear rP
 rintro vr O' ⟨A9,rfl,rfl,rfl⟩
 refine ad (ar (bo F F) (decide_eq_false (by omega))) (ah F (ay F F (ay F F (ad (aZ F F) (TO.qa F (ae (ax (ai (ah F (ae (aL F ?_)))))))))))
 refine aq (ai (ah F ?_))
 have vB:=(bw.under (A:=[oI rb 149 [(str S),vN ia,(.slice lb n lc),vI 0]]) (B:=[oI z2 129 [(.int .u8 0),(.int .u8 0)],oI z1 129 [(.int .u8 0),(.int .u8 0)]]) (O:=[oI rb 149 [(str S),vN ia,(.slice lb n lc),vI 0],oI z2 129 [(.int .u8 0),(.int .u8 0)],oI z1 129 [(.int .u8 0),(.int .u8 0)]]) (rN base rb S oQ ia (97+k) n lc lb h1) (by exact Sub.rf))
 refine aj F (aI jF vB F ?_)
 clear vB
 rintro vr O' ⟨A9,rfl,rfl,rfl⟩
 refine TO.qa F (ae (ax (ai (ah F (ad (ar (bo F F) (decide_eq_false (by omega))) (ah F (ay F F (ay F F (ad (aZ F F) (ah F (ay F F (ay F F ?_))))))))))))
 refine ad (aZ F F) (ae (aL F (aq (ax (ai (ah F (ad (aP F) (ad (aJ eN F iU F F) (ad (aO 0 oR F F F F) (ad (ar (bo F F) (decide_eq_true (by decide))) (ah F (ap F F (aF F) (ap F F (ar (bI F F) (decide_eq_false (by omega))) ?_)))))))))))))
 refine ap F F (aF F) (ap F F (aF F) (ap F F (ar (fw F F) (decide_eq_false (by omega))) (ap F F (aZ F F) (ap F F (aF F) (ap F F (aF F) (ap F F (a8 (Hc (a:=(97+k)) (b:=97) .u8 F F (by show _<256;omega) (by omega)) (v':=v8 k) (congrArg (Value.int .u8) (by omega))) (ap F F (ef eC dh F (by first|rfl|exact eZ ⟨by omega,by omega⟩|exact mm (by omega)|exact kj (by omega))) ?_)))))))
 refine ap F F (aF F) (ap F F (ar (zQ F F) (decide_eq_false (by omega))) (ap F F (aZ F F) (ad (bt F F) (ae (aL F (aq (ax (ai (ah F (ad (aP F) (ad (aJ eN F iU F F) (ad (aO 0 oR F F F F) ?_))))))))))))
 refine ad (ar (cS F F) (decide_eq_false (by decide))) (ae (aL F (aq (ai (ah F (ad (a8 (Hc (a:=(97+k)) (b:=97) .u8 F F (by show _<256;omega) (by omega)) (v':=v8 k) (congrArg (Value.int .u8) (by omega))) (ad (ef eC dh F (by first|rfl|exact eZ ⟨by omega,by omega⟩|exact mm (by omega)|exact kj (by omega))) (TO.qa F (ae (ax (ai (ah F (ae ?_)))))))))))))
 refine aL F (aH (ad (aJ jG F cP F F) (ad (aO 1 eC F F F F) (ah F (ad (ef dh MY F (by first|rfl|exact eZ ⟨by omega,by omega⟩|exact mm (by omega)|exact kj (by omega))) (ad (Ov (a:=1) (b:=k) .u8 F F (by show _≤8;omega) (by show _<256;omega)) (ad (Ou (a:=0) (b:=(1*2^k)) .u8 F F (by show _<256;omega) (by show _<256;omega)) (ad (aJ jG F cP F F) (aj F (bj (vs:=[(v8 (0|||(1*2^k)))]) 1 cP F F F F ?_))))))))))
 refine ae (aH (ah F (ad (aP F) (ad (aJ eN F aM F F) (ad (aO 0 dh F F F F) (ad (cj (a:=ia) (b:=1) F F (by omega)) (ad (aP F) (ad (aJ eN F aM F F) (aj F (bj (vs:=[(vN (ia+1))]) 0 aM F F F F ?_))))))))))
 refine ae ?_
 refine mn [oI rb 149 [(str S),(vN (ia+1)),(.slice lb n lc),vI 0],oI z2 129 [(v8 (0|||(1*2^k))),(.int .u8 0)],oI z1 129 [(.int .u8 0),(.int .u8 0)]] [(0,(.pointer (aD rb))),(2,(.pointer (aD z1))),(3,(.pointer (aD z2))),(4,vN k),(5,.bool false),(6,v8 (97+k)),(7,(.agg #[(.int .u8 0),(.int .u8 0)])),(8,(.pointer (aD rb))),(9,v8 (97+k)),(10,.bool false)] F (.of F) (fun eP=>?_)
 refine T.round ?_
 refine ax (ai (ah F (ad (aP F) (ad (aJ eN F iU F F) (ad (aO 0 oR F F F F) (ad (ar (bo F F) (decide_eq_true (by decide))) (ae ?_)))))))
 refine bg F ?_
 refine aq (aC (ai (ah F ?_)))
 have rP:=(bw.under (A:=[oI rb 149 [(str S),(vN (ia+1)),(.slice lb n lc),vI 0]]) (B:=[oI z2 129 [(v8 (0|||(1*2^k))),(.int .u8 0)],oI z1 129 [(.int .u8 0),(.int .u8 0)]]) (O:=[oI rb 149 [(str S),(vN (ia+1)),(.slice lb n lc),vI 0],oI z2 129 [(v8 (0|||(1*2^k))),(.int .u8 0)],oI z1 129 [(.int .u8 0),(.int .u8 0)]]) (rN base rb S oQ (ia+1) 93 n lc lb h2) (by exact Sub.rf))
 refine aj F (aI jF rP F ?_)
 clear rP
 rintro vr O' ⟨A9,rfl,rfl,rfl⟩
 refine ad (ar (bo F F) (decide_eq_false (by omega))) (ah F (ay F F (ay F F (ad (aZ F F) (TO.qa F (ae (ax (ai (ah F (ae (aL F ?_)))))))))))
 refine aq (ai (ah F ?_))
 have vB:=(bw.under (A:=[oI rb 149 [(str S),(vN (ia+1)),(.slice lb n lc),vI 0]]) (B:=[oI z2 129 [(v8 (0|||(1*2^k))),(.int .u8 0)],oI z1 129 [(.int .u8 0),(.int .u8 0)]]) (O:=[oI rb 149 [(str S),(vN (ia+1)),(.slice lb n lc),vI 0],oI z2 129 [(v8 (0|||(1*2^k))),(.int .u8 0)],oI z1 129 [(.int .u8 0),(.int .u8 0)]]) (rN base rb S oQ (ia+1) 93 n lc lb h2) (by exact Sub.rf))
 refine aj F (aI jF vB F ?_)
 clear vB
 rintro vr O' ⟨A9,rfl,rfl,rfl⟩
 refine TO.qa F (ae (ax (ai (ah F (ad (ar (bo F F) (decide_eq_true (by decide))) (ah F (ap F F (aF F) (ap F F (f_ F) (ad (bt F F) (ah F (ap F F (aF F) (ap F F (ar (gW F F) (decide_eq_true (by omega))) ?_))))))))))))
 refine ad (bt F F) (ae ?_)
 refine bg F ?_
 refine ai (ah F (ad (aP F) (ad (aJ eN F aM F F) (ad (aO 0 dh F F F F) (ad (cj (a:=(ia+1)) (b:=1) F F (by omega)) (ad (aP F) (ad (aJ eN F aM F F) (aj F (bj (vs:=[(vN ((ia+1)+1))]) 0 aM F F F F ?_)))))))))
 refine ae (ai (ad (cN 1 jG F eX F F F) (aj F (bj (vs:=[(v8 (0|||(1*2^k))),(.int .u8 0)]) 2 eX F F F F ?_))))
 refine ae (az (ao ?_))
 refine bf (i:=2) Tryz.results134 jG F eX F F F ?_
 exact⟨[oI rb 149 [(str S),(vN ((ia+1)+1)),(.slice lb n lc),vI 0]],(by exact Sub.k .z),F,F⟩
def sy (f:FuncId) (S:List UInt8) (ia:Nat) (l:List dE) (i ib:Nat) (m:List dE):Prop:= ∀(base:World) [cG Tryz.prog base] (rb:Nat) (lb:Option Addr) (lc:Nat),bw Tryz.prog base f [(.pointer (aD rb))] [da rb (.cells (List.toArray [(str S),vN ia,(.slice lb l.length lc),vI 0]) 149 (0,0)),ak lb lc 72 5 (aT l)] (fun v O'=> ∃wQ wR,v=vN i∧O'=[da rb (.cells (List.toArray [(str S),vN ib,(.slice wQ m.length wR),vI 0]) 149 (0,0)),ak wQ wR 72 5 (aT m)])
theorem MZ {S:List UInt8} (oQ:S.length≤4096) {ia pp:Nat} {l:List dE} (hl:l.length≤1000) (h1:Ch S ia 91) (WL: ∀(base:World) [cG Tryz.prog base] (rb:Nat) (lb:Option Addr) (n lc:Nat),bw Tryz.prog base 134 [(.pointer (aD rb))] [oI rb 149 [(str S),vN (ia+1),(.slice lb n lc),vI 0]] (fun v O'=>v=.agg #[v8 pp,v8 0]∧O'=[oI rb 149 [(str S),vN (ia+3),(.slice lb n lc),vI 0]])):sy 96 S ia l l.length (ia+3) (l++[(⟨3,pp,0,0,0⟩:dE)]):=by
 intro base _ rb lb lc
 refine av func96 F ntmps96 F ?_
 have eU:=h1.lt
 refine ai (TO.qa F (ae (ai (ah F ?_))))
 let dS:Lx.Item:=ak lb lc 72 5 (aT l)
 let gz:Value:=(.slice lb l.length lc)
 have Hs:=(bw.under (A:=[oI rb 149 [(str S),vN ia,gz,vI 0]]) (B:=[dS]) (O:=[oI rb 149 [(str S),vN ia,gz,vI 0],dS]) (rN base rb S oQ ia 91 l.length lc lb h1) (by exact Sub.rf))
 refine aj F (aI jF Hs F ?_)
 clear Hs
 rintro vr O' ⟨A9,rfl,rfl,rfl⟩
 refine TO.qa F (ae (ax (ai (ah F (ad (aP F) (ad (aJ eN F iU F F) (ad (aO 0 oR F F F F) (ad (ar (cS F F) (decide_eq_false (by decide))) (ae (aL F (aq (ai (ah F (ad (aP F) (ad (aJ eN F aM F F) (ad (aO 0 dh F F F F) ?_))))))))))))))))
 refine ad (cj (a:=ia) (b:=1) F F (by omega)) (ad (aP F) (ad (aJ eN F aM F F) (aj F (bj (vs:=[(vN (ia+1))]) 0 aM F F F F ?_))))
 refine ae (ax (ai (ah F (ae (aC (ai (ad (ar (bo F F) (decide_eq_false (by decide))) (TO.qa F (ae (aL F (ai (ad (ar (bo F F) (decide_eq_false (by decide))) (TO.qa F ?_)))))))))))))
 refine ae (aL F (ai (ad (ar (bo F F) (decide_eq_true (by decide))) (TO.qa F (ae ?_)))))
 refine bg F ?_
 refine ai (ah F ?_)
 have vC:=(bw.under (A:=[oI rb 149 [(str S),(vN (ia+1)),gz,vI 0]]) (B:=[dS]) (O:=[oI rb 149 [(str S),(vN (ia+1)),gz,vI 0],dS]) (WL base rb lb l.length lc) (by exact Sub.rf))
 refine aj F (aI OJ vC F ?_)
 clear vC
 rintro vr O' ⟨A9,rfl,rfl,rfl⟩
 refine aj F (aR eX F (fun z1=>?_))
 refine aj F (bj (vs:=[v8 pp,v8 0]) 0 eX F F F F ?_)
 refine ae (ai (ah F (ad (aJ jG F cP F F) (ad (aO 0 eC F F F F) (ad (aJ jG F cP F F) (ad (aO 0 eC F F F F) (ad (bE (cs:=[.int .u8 3,v8 pp,v8 0,(vI 0),(vI 0)]) iy bQ (by kernel_rfl)) ?_)))))))
 let gn:Lx.Item:=oI z1 129 [v8 pp,v8 0]
 have oT:=(bw.under (A:=[oI rb 149 [(str S),vN (ia+3),gz,vI 0],dS]) (B:=[gn]) (O:=[gn,oI rb 149 [(str S),vN (ia+3),gz,vI 0],dS]) (DT base rb S (ia+3) lc lb l (⟨3,pp,0,0,0⟩:dE) hl) (by exact Sub.dL [gn] _ (.dL [gn] _ (.k .z))))
 refine aj F (aI yJ oT F ?_)
 clear oT
 rintro vr O' ⟨A9,rfl,rQ,rR,rfl,rfl⟩
 refine TO.qa F (ae (az (ao ?_)))
 refine aG (vN l.length) Tryz.results96 F ?_
 exact⟨[oI rb 149 [(str S),vN (ia+3),(.slice rQ ((l++[(⟨3,pp,0,0,0⟩:dE)]).length) rR),vI 0],ak rQ rR 72 5 (aT (l++[(⟨3,pp,0,0,0⟩:dE)]))],(by exact Sub.k (.k .z)),_,_,F,F⟩
theorem vE {S:List UInt8} (oQ:S.length≤4096) {ia i ib:Nat} {l m:List dE} (h1:Ch S ia 40) (wL:sy 135 S (ia+1) l i ib m):sy 96 S ia l i ib m:=by
 intro base _ rb lb lc
 refine av func96 F ntmps96 F ?_
 have eU:=h1.lt
 refine ai (TO.qa F (ae (ai (ah F ?_))))
 have Hs:=(bw.under (A:=[oI rb 149 [(str S),vN ia,(.slice lb l.length lc),vI 0]]) (B:=[ak lb lc 72 5 (aT l)]) (O:=[oI rb 149 [(str S),vN ia,(.slice lb l.length lc),vI 0],ak lb lc 72 5 (aT l)]) (rN base rb S oQ ia 40 l.length lc lb h1) (by exact Sub.rf))
 refine aj F (aI jF Hs F ?_)
 clear Hs
 rintro vr O' ⟨A9,rfl,rfl,rfl⟩
 refine TO.qa F (ae (ax (ai (ah F (ad (aP F) (ad (aJ eN F iU F F) (ad (aO 0 oR F F F F) (ad (ar (cS F F) (decide_eq_false (by decide))) (ae (aL F (aq (ai (ah F (ad (aP F) (ad (aJ eN F aM F F) (ad (aO 0 dh F F F F) ?_))))))))))))))))
 refine ad (cj (a:=ia) (b:=1) F F (by omega)) (ad (aP F) (ad (aJ eN F aM F F) (aj F (bj (vs:=[(vN (ia+1))]) 0 aM F F F F ?_))))
 refine ae (ax (ai (ah F (ae (aC (ai (ad (ar (bo F F) (decide_eq_false (by decide))) (TO.qa F (ae (aL F (ai (ad (ar (bo F F) (decide_eq_false (by decide))) (TO.qa F ?_)))))))))))))
 refine ae (aL F (ai (ad (ar (bo F F) (decide_eq_false (by decide))) (TO.qa F (ae (aL F (ai (ad (ar (bo F F) (decide_eq_true (by decide))) (TO.qa F ?_)))))))))
 refine ae ?_
 refine bg F ?_
 refine ai (ah F ?_)
 let gN:List Lx.Item:=[oI rb 149 [(str S),(vN (ia+1)),(.slice lb l.length lc),vI 0],ak lb lc 72 5 (aT l)]
 have uT:=(bw.under (A:=gN) (B:=[]) (O:=gN) (wL base rb lb lc) (by exact Sub.rf))
 refine aj F (aI OK uT F ?_)
 clear uT
 rintro vr O' ⟨A9,rfl,rQ,rR,rfl,rfl⟩
 refine TO.qa F (ae (az (ao ?_)))
 refine aG (vN i) Tryz.results96 F ?_
 exact⟨[oI rb 149 [(str S),vN ib,(.slice rQ m.length rR),vI 0],ak rQ rR 72 5 (aT m)],(by exact Sub.rf),_,_,F,F⟩
theorem KP {S:List UInt8} (oQ:S.length≤4096) {ia i ib:Nat} {l m:List dE} (hm:m.length≤1000) (h1:Ch S ia 62) (hE:sy 96 S (ia+1) l i ib m) (h2:Ch S ib 41):sy 135 S ia l m.length (ib+1) (m++[(⟨9,0,0,(i:Int),0⟩:dE)]):=by
 intro base _ rb lb lc
 refine av func135 F ntmps135 F ?_
 have eU:=h1.lt;have j3:=h2.lt
 refine ai (TO.qa F (ae (ai (ah F ?_))))
 have nF:=(bw.under (A:=[oI rb 149 [(str S),vN ia,(.slice lb l.length lc),vI 0]]) (B:=[ak lb lc 72 5 (aT l)]) (O:=[oI rb 149 [(str S),vN ia,(.slice lb l.length lc),vI 0],ak lb lc 72 5 (aT l)]) (rN base rb S oQ ia 62 l.length lc lb h1) (by exact Sub.rf))
 refine aj F (aI jF nF F ?_)
 clear nF
 rintro vr O' ⟨A9,rfl,rfl,rfl⟩
 refine TO.qa F (ae (ai (TO.qa F (ae (ax (ai (ah F (ae (aC (ai (ad (ar (bo F F) (decide_eq_false (by omega))) (TO.qa F (ae ?_)))))))))))))
 refine aL F (ai (ad (ar (bo F F) (decide_eq_true (by omega))) (TO.qa F (ae ?_))))
 refine bg F ?_
 refine aH (TO.qa F (ae (ax (ai (ah F (ad (ar (cS F F) (decide_eq_true (by decide))) (ae ?_)))))))
 refine bg F ?_
 refine ai (ah F (ad (aP F) (ad (aJ eN F aM F F) (ad (aO 0 dh F F F F) (ad (cj (a:=ia) (b:=1) F F (by omega)) (ad (aP F) (ad (aJ eN F aM F F) (aj F (bj (vs:=[(vN (ia+1))]) 0 aM F F F F ?_)))))))))
 refine ae (ai (ah F ?_))
 let kO:List Lx.Item:=[oI rb 149 [(str S),(vN (ia+1)),(.slice lb l.length lc),vI 0],ak lb lc 72 5 (aT l)]
 have rP:=(bw.under (A:=kO) (B:=[]) (O:=kO) (hE base rb lb lc) (by exact Sub.rf))
 refine aj F (aI AM rP F ?_)
 clear rP
 rintro vr O' ⟨A9,rfl,rQ,rR,rfl,rfl⟩
 refine TO.qa F (ae (ai (ah F ?_)))
 have oU:=(bw.under (A:=[oI rb 149 [(str S),vN ib,(.slice rQ m.length rR),vI 0]]) (B:=[ak rQ rR 72 5 (aT m)]) (O:=[oI rb 149 [(str S),vN ib,(.slice rQ m.length rR),vI 0],ak rQ rR 72 5 (aT m)]) (KO base rb S oQ ib 41 m.length rR rQ h2) (by exact Sub.rf))
 refine aj F (aI yI oU F ?_)
 clear oU
 rintro vr O' ⟨A9,rfl,rfl,rfl⟩
 refine ae (ai (ah F (ah F (ah F (ad (bE (cs:=[.int .u8 9,(.int .u8 0),(.int .u8 0),vN i,(vI 0)]) iy bQ (by kernel_rfl)) ?_)))))
 let kn:List Lx.Item:=[oI rb 149 [(str S),vN (ib+1),(.slice rQ m.length rR),vI 0],ak rQ rR 72 5 (aT m)]
 have Ht:=(bw.under (A:=kn) (B:=[]) (O:=kn) (DT base rb S (ib+1) rR rQ m (⟨9,0,0,(i:Int),0⟩:dE) hm) (by exact Sub.rf))
 refine aj F (aI yJ Ht F ?_)
 clear Ht
 rintro vr O' ⟨A9,rfl,M0,M1,rfl,rfl⟩
 refine TO.qa F (ae (az (ao ?_)))
 refine aG (vN m.length) Tryz.results135 F ?_
 exact⟨[oI rb 149 [(str S),vN (ib+1),(.slice M0 ((m++[(⟨9,0,0,(i:Int),0⟩:dE)]).length) M1),vI 0],ak M0 M1 72 5 (aT (m++[(⟨9,0,0,(i:Int),0⟩:dE)]))],(by exact Sub.rf),_,_,F,F⟩
theorem Hu {S:List UInt8} (oQ:S.length≤4096) {ia i ib c0:Nat} {l m:List dE} (hm:m.length≤1000) (h1:Ch S ia c0) (rL:c0=40∨c0=91) (hE:sy 96 S ia l i ib m) (h2:Ch S ib 42) (h3:Ch S (ib+1) 41):sy 135 S ia l m.length (ib+1+1) (m++[(⟨8,0,0,(i:Int),0⟩:dE)]):=by
 intro base _ rb lb lc
 refine av func135 F ntmps135 F ?_
 have eU:=h1.lt;have j3:=h2.lt;have WM:=h3.lt
 refine ai (TO.qa F (ae (ai (ah F ?_))))
 let kP:List Lx.Item:=[oI rb 149 [(str S),vN ia,(.slice lb l.length lc),vI 0],ak lb lc 72 5 (aT l)]
 have nF:=(bw.under (A:=[oI rb 149 [(str S),vN ia,(.slice lb l.length lc),vI 0]]) (B:=[ak lb lc 72 5 (aT l)]) (O:=kP) (rN base rb S oQ ia c0 l.length lc lb h1) (by exact Sub.rf))
 refine aj F (aI jF nF F ?_)
 clear nF
 rintro vr O' ⟨A9,rfl,rfl,rfl⟩
 refine TO.qa F (ae (ai (TO.qa F (ae (ax (ai (ah F (ae (aC (ai (ad (ar (bo F F) (decide_eq_false (by omega))) (TO.qa F (ae ?_)))))))))))))
 refine aL F (ai (ad (ar (bo F F) (decide_eq_false (by omega))) (TO.qa F (ae (aL F (ai (ad (ar (bo F F) (decide_eq_false (by omega))) (TO.qa F (ae ?_)))))))))
 refine aL F (aq (ax (ai (ah F (ad (ar (cS F F) (decide_eq_false (by decide))) (ae (aL F (aq (ai (ah F ?_))))))))))
 have vF:=(bw.under (A:=kP) (B:=[]) (O:=kP) (hE base rb lb lc) (by exact Sub.rf))
 refine aj F (aI AM vF F ?_)
 clear vF
 rintro vr O' ⟨A9,rfl,rQ,rR,rfl,rfl⟩
 refine TO.qa F (ae (ax (ai (ah F ?_))))
 let um:Lx.Item:=ak rQ rR 72 5 (aT m)
 let xP:Value:=(.slice rQ m.length rR)
 have Hv:=(bw.under (A:=[oI rb 149 [(str S),vN ib,xP,vI 0]]) (B:=[um]) (O:=[oI rb 149 [(str S),vN ib,xP,vI 0],um]) (rN base rb S oQ ib 42 m.length rR rQ h2) (by exact Sub.rf))
 refine aj F (aI jF Hv F ?_)
 clear Hv
 rintro vr O' ⟨A9,rfl,rfl,rfl⟩
 refine ae (aC (ai (ad (ar (bo F F) (decide_eq_true (by decide))) (TO.qa F (ae ?_)))))
 refine bg F ?_
 refine ai (ah F (ad (aP F) (ad (aJ eN F aM F F) (ad (aO 0 dh F F F F) (ad (cj (a:=ib) (b:=1) F F (by omega)) (ad (aP F) (ad (aJ eN F aM F F) (aj F (bj (vs:=[(vN (ib+1))]) 0 aM F F F F ?_)))))))))
 refine ae (ai (ah F ?_))
 have Hw:=(bw.under (A:=[oI rb 149 [(str S),(vN (ib+1)),xP,vI 0]]) (B:=[um]) (O:=[oI rb 149 [(str S),(vN (ib+1)),xP,vI 0],um]) (KO base rb S oQ (ib+1) 41 m.length rR rQ h3) (by exact Sub.rf))
 refine aj F (aI yI Hw F ?_)
 clear Hw
 rintro vr O' ⟨A9,rfl,rfl,rfl⟩
 refine ae (ai (ah F (ah F (ad (bE (cs:=[.int .u8 8,(.int .u8 0),(.int .u8 0),vN i,(vI 0)]) iy bQ (by kernel_rfl)) ?_))))
 have vG:=(bw.under (A:=[oI rb 149 [(str S),vN (ib+1+1),xP,vI 0],um]) (B:=[]) (O:=[oI rb 149 [(str S),vN (ib+1+1),xP,vI 0],um]) (DT base rb S (ib+1+1) rR rQ m (⟨8,0,0,(i:Int),0⟩:dE) hm) (by exact Sub.rf))
 refine aj F (aI yJ vG F ?_)
 clear vG
 rintro vr O' ⟨A9,rfl,M0,M1,rfl,rfl⟩
 refine TO.qa F (ae (az (ao ?_)))
 refine aG (vN m.length) Tryz.results135 F ?_
 exact⟨[oI rb 149 [(str S),vN (ib+1+1),(.slice M0 ((m++[(⟨8,0,0,(i:Int),0⟩:dE)]).length) M1),vI 0],ak M0 M1 72 5 (aT (m++[(⟨8,0,0,(i:Int),0⟩:dE)]))],(by exact Sub.rf),_,_,F,F⟩
theorem DU {S:List UInt8} (oQ:S.length≤4096) {ia i ib j ic c0:Nat} {l m m2:List dE} (hm:m2.length≤1000) (h1:Ch S ia c0) (rL:c0=40∨c0=91) (hE:sy 96 S ia l i ib m) (h2:Ch S ib 46) (KQ:sy 96 S (ib+1) m j ic m2) (h3:Ch S ic 41):sy 135 S ia l m2.length (ic+1) (m2++[(⟨4,0,0,(i:Int),(j:Int)⟩:dE)]):=by
 intro base _ rb lb lc
 refine av func135 F ntmps135 F ?_
 have eU:=h1.lt;have j3:=h2.lt;have WM:=h3.lt
 refine ai (TO.qa F (ae (ai (ah F ?_))))
 let wP:List Lx.Item:=[oI rb 149 [(str S),vN ia,(.slice lb l.length lc),vI 0],ak lb lc 72 5 (aT l)]
 have nF:=(bw.under (A:=[oI rb 149 [(str S),vN ia,(.slice lb l.length lc),vI 0]]) (B:=[ak lb lc 72 5 (aT l)]) (O:=wP) (rN base rb S oQ ia c0 l.length lc lb h1) (by exact Sub.rf))
 refine aj F (aI jF nF F ?_)
 clear nF
 rintro vr O' ⟨A9,rfl,rfl,rfl⟩
 refine TO.qa F (ae (ai (TO.qa F (ae (ax (ai (ah F (ae (aC (ai (ad (ar (bo F F) (decide_eq_false (by omega))) (TO.qa F (ae ?_)))))))))))))
 refine aL F (ai (ad (ar (bo F F) (decide_eq_false (by omega))) (TO.qa F (ae (aL F (ai (ad (ar (bo F F) (decide_eq_false (by omega))) (TO.qa F (ae ?_)))))))))
 refine aL F (aq (ax (ai (ah F (ad (ar (cS F F) (decide_eq_false (by decide))) (ae (aL F (aq (ai (ah F ?_))))))))))
 have vF:=(bw.under (A:=wP) (B:=[]) (O:=wP) (hE base rb lb lc) (by exact Sub.rf))
 refine aj F (aI AM vF F ?_)
 clear vF
 rintro vr O' ⟨A9,rfl,rQ,rR,rfl,rfl⟩
 refine TO.qa F (ae (ax (ai (ah F ?_))))
 have Hv:=(bw.under (A:=[oI rb 149 [(str S),vN ib,(.slice rQ m.length rR),vI 0]]) (B:=[ak rQ rR 72 5 (aT m)]) (O:=[oI rb 149 [(str S),vN ib,(.slice rQ m.length rR),vI 0],ak rQ rR 72 5 (aT m)]) (rN base rb S oQ ib 46 m.length rR rQ h2) (by exact Sub.rf))
 refine aj F (aI jF Hv F ?_)
 clear Hv
 rintro vr O' ⟨A9,rfl,rfl,rfl⟩
 refine ae (aC (ai (ad (ar (bo F F) (decide_eq_false (by decide))) (TO.qa F (ae (aL F (ai (ad (ar (bo F F) (decide_eq_true (by decide))) (TO.qa F (ae ?_))))))))))
 refine bg F ?_
 refine aH (TO.qa F (ae (ai (ah F (ad (aP F) (ad (aJ eN F aM F F) (ad (aO 0 dh F F F F) (ad (cj (a:=ib) (b:=1) F F (by omega)) (ad (aP F) (ad (aJ eN F aM F F) (aj F (bj (vs:=[(vN (ib+1))]) 0 aM F F F F ?_))))))))))))
 refine ae (ai (ah F ?_))
 let pZ:List Lx.Item:=[oI rb 149 [(str S),(vN (ib+1)),(.slice rQ m.length rR),vI 0],ak rQ rR 72 5 (aT m)]
 have SF:=(bw.under (A:=pZ) (B:=[]) (O:=pZ) (KQ base rb rQ rR) (by exact Sub.rf))
 refine aj F (aI AM SF F ?_)
 clear SF
 rintro vr O' ⟨A9,rfl,OM,ON,rfl,rfl⟩
 refine TO.qa F (ae (ai (ah F ?_)))
 let qH:Lx.Item:=oI rb 149 [(str S),vN ic,(.slice OM m2.length ON),vI 0]
 have SG:=(bw.under (A:=[qH]) (B:=[ak OM ON 72 5 (aT m2)]) (O:=[qH,ak OM ON 72 5 (aT m2)]) (KO base rb S oQ ic 41 m2.length ON OM h3) (by exact Sub.rf))
 refine aj F (aI yI SG F ?_)
 clear SG
 rintro vr O' ⟨A9,rfl,rfl,rfl⟩
 refine ae (ai (ah F (ah F (ah F (ah F (ad (bE (cs:=[.int .u8 4,(.int .u8 0),(.int .u8 0),vN i,vN j]) iy bQ (by kernel_rfl)) ?_))))))
 let oP:List Lx.Item:=[oI rb 149 [(str S),vN (ic+1),(.slice OM m2.length ON),vI 0],ak OM ON 72 5 (aT m2)]
 have SH:=(bw.under (A:=oP) (B:=[]) (O:=oP) (DT base rb S (ic+1) ON OM m2 (⟨4,0,0,(i:Int),(j:Int)⟩:dE) hm) (by exact Sub.rf))
 refine aj F (aI yJ SH F ?_)
 clear SH
 rintro vr O' ⟨A9,rfl,M0,M1,rfl,rfl⟩
 refine TO.qa F (ae (az (ao ?_)))
 refine aG (vN m2.length) Tryz.results135 F ?_
 exact⟨[oI rb 149 [(str S),vN (ic+1),(.slice M0 ((m2++[(⟨4,0,0,(i:Int),(j:Int)⟩:dE)]).length) M1),vI 0],ak M0 M1 72 5 (aT (m2++[(⟨4,0,0,(i:Int),(j:Int)⟩:dE)]))],(by exact Sub.rf),_,_,F,F⟩
end Go.Proofs.YtgdbfideeeegmaaGreatDoor

namespace Go.Proofs.YtgdbfideeeegmaaGreatDoor
open Go.Lx Go.RowKit _root_.Go.Proofs.Tryz
theorem qJ (w:World) [cG Tryz.prog w] (o:Nat) (h1:1≤o) (h2:o≤10):
  bs Tryz.prog 48 [v8 o] w fun v N=>v=vI (cT o:Int)∧N=[]:=by
 refine av func48 F ntmps48 F ?_
 refine ai (TO.qa F (ae (ax (ai (ah F (ae (aC ?_)))))))
 refine fg (fun ρ O=>Sub [] O∧bZ [(0,v8 o),(2,vI 0),(3,v8 o),(4,.bool (decide (o=1∨o=2∨o=3)))] ρ) ?_ ?_
 ·refine ax ?_
  refine aH (ad (bo F F) (TO.qa F (ae (aw F (fun hc=>?_) (fun hc=>?_)))))
  ·have WN:o=1:=by omega
   refine aq ?_
   exact⟨(by exact Sub.rf),⟨F,F,F,(congrArg Value.bool (decide_eq_decide.2 (by omega))),trivial⟩⟩
  have WO: ¬o=1:=by omega
  refine ai (ad (bo F F) (TO.qa F (ae (aw F (fun hc=>?_) (fun hc=>?_)))))
  ·have WN:o=2:=by omega
   refine aq ?_
   exact⟨(by exact Sub.rf),⟨F,F,F,(congrArg Value.bool (decide_eq_decide.2 (by omega))),trivial⟩⟩
  have WO: ¬o=2:=by omega
  refine aH (ad (bo F F) (TO.qa F (ae ?_)))
  exact⟨(by exact Sub.rf),⟨F,F,F,(congrArg Value.bool (decide_eq_decide.2 (by omega))),trivial⟩⟩
 rintro ρ O ⟨hS,hH⟩
 obtain⟨eP,rfl⟩:=hH.elim
 clear hH
 refine cu hS ?_
 refine aw F (fun hc=>?_) (fun hc=>?_)
 ·refine ax ?_
  refine aH (TO.qa F (ae (az ?_)))
  refine aG (vI 0) Tryz.results48 F ?_
  exact⟨congrArg (fun n:Nat=>Value.int .i64 (n:Int)) (show 0=cT o by unfold cT;rw[if_neg (by omega),if_neg (by omega)]),F⟩
 refine fg (fun ρ O=>Sub [] O∧bZ [(0,v8 o),(2,vI 0),(3,v8 o),(4,.bool (decide (o=1∨o=2∨o=3))),(8,.bool (decide (o=7∨o=8∨o=9∨o=10)))] ρ) ?_ ?_
 ·refine ax ?_
  refine aH (ad (bo F F) (TO.qa F (ae (aw F (fun hc=>?_) (fun hc=>?_)))))
  ·have mH:o=7:=by omega
   refine aq ?_
   exact⟨(by exact Sub.rf),⟨F,F,F,F,(congrArg Value.bool (decide_eq_decide.2 (by omega))),trivial⟩⟩
  have Kk: ¬o=7:=by omega
  refine ai (ad (bo F F) (TO.qa F (ae (aw F (fun hc=>?_) (fun hc=>?_)))))
  ·have mH:o=8:=by omega
   refine aq ?_
   exact⟨(by exact Sub.rf),⟨F,F,F,F,(congrArg Value.bool (decide_eq_decide.2 (by omega))),trivial⟩⟩
  have Kk: ¬o=8:=by omega
  refine ai (ad (bo F F) (TO.qa F (ae (aw F (fun hc=>?_) (fun hc=>?_)))))
  ·have mH:o=9:=by omega
   refine aq ?_
   exact⟨(by exact Sub.rf),⟨F,F,F,F,(congrArg Value.bool (decide_eq_decide.2 (by omega))),trivial⟩⟩
  have Kk: ¬o=9:=by omega
  refine aH (ad (bo F F) (TO.qa F (ae ?_)))
  exact⟨(by exact Sub.rf),⟨F,F,F,F,(congrArg Value.bool (decide_eq_decide.2 (by omega))),trivial⟩⟩
 rintro ρ O ⟨hS,hH⟩
 obtain⟨eP,rfl⟩:=hH.elim
 clear hH
 refine cu hS ?_
 refine aw F (fun hc=>?_) (fun hc=>?_)
 ·refine ax ?_
  refine aH (TO.qa F (ae (az ?_)))
  refine aG (vI 1) Tryz.results48 F ?_
  exact⟨congrArg (fun n:Nat=>Value.int .i64 (n:Int)) (show 1=cT o by unfold cT;rw[if_neg (by omega),if_pos (by omega)]),F⟩
 refine fg (fun ρ O=>Sub [] O∧bZ [(0,v8 o),(2,vI 0),(3,v8 o),(4,.bool (decide (o=1∨o=2∨o=3))),(8,.bool (decide (o=7∨o=8∨o=9∨o=10))),(13,.bool (decide (o=4∨o=5∨o=6)))] ρ) ?_ ?_
 ·refine ax ?_
  refine aH (ad (bo F F) (TO.qa F (ae (aw F (fun hc=>?_) (fun hc=>?_)))))
  ·have kX:o=4:=by omega
   refine aq ?_
   exact⟨(by exact Sub.rf),⟨F,F,F,F,F,(congrArg Value.bool (decide_eq_decide.2 (by omega))),trivial⟩⟩
  have Hy: ¬o=4:=by omega
  refine ai (ad (bo F F) (TO.qa F (ae (aw F (fun hc=>?_) (fun hc=>?_)))))
  ·have kX:o=5:=by omega
   refine aq ?_
   exact⟨(by exact Sub.rf),⟨F,F,F,F,F,(congrArg Value.bool (decide_eq_decide.2 (by omega))),trivial⟩⟩
  have Hy: ¬o=5:=by omega
  refine aH (ad (bo F F) (TO.qa F (ae ?_)))
  exact⟨(by exact Sub.rf),⟨F,F,F,F,F,(congrArg Value.bool (decide_eq_decide.2 (by omega))),trivial⟩⟩
 rintro ρ O ⟨hS,hH⟩
 obtain⟨eP,rfl⟩:=hH.elim
 clear hH
 refine cu hS ?_
 refine aw F (fun hc=>?_) (fun hc=>?_)
 ·refine ax ?_
  refine aH (TO.qa F (ae (az ?_)))
  refine aG (vI 2) Tryz.results48 F ?_
  exact⟨congrArg (fun n:Nat=>Value.int .i64 (n:Int)) (show 2=cT o by unfold cT;rw[if_pos (by omega)]),F⟩
 refine aq (ai (TO.qa F (ae (az ?_))))
 refine aG (vI (-1)) Tryz.results48 F ?_
 exact absurd h1 (by omega)
theorem OP (w:World) [cG Tryz.prog w] (p n v:Nat) (hp:p<256) (hn:n<256) (hv:v≤6) (h0:nG v p n=0):
  bs Tryz.prog 79 [.agg #[v8 p,v8 n],vN v] w fun r N=>r=vI 0∧N=[]:=by
 refine av func79 F ntmps79 F ?_
 have hb:(p|||n)<2^v∧p&&&n=0:=by
  unfold nG at h0;split at h0<;>(try split at h0)<;>omega
 have hvt:(2:Nat)^((v:Int)).toNat=2^v:=by simp
 have Ae:p≤p|||n:=Nat.left_le_or
 have Fp:n≤p|||n:=Nat.right_le_or
 refine ai (aj F (cL (cs:=[v8 p,v8 n]) F F (fun uz=>?_)))
 refine TO.qa F (ae (ax (ai (ah F (ad (ar (bI F F) (decide_eq_false (by omega))) (ah F (ap F F (aF F) (ap F F (ar (fw F F) (decide_eq_false (by omega))) (ad (aZ F F) (ae (aL F ?_)))))))))))
 refine aq (ai (ah F ?_))
 have rS:=fun(w1:World) (hI:Inv w [oI uz 129 [v8 p,v8 n]] w1)=>(haveI:=dp hI;uR w1 (v:Int) (by omega) (by omega))
 refine aj F (aI GL (aE rS) F ?_)
 clear rS
 rintro vr O' ⟨N,rfl,rfl,rfl⟩
 refine TO.qa F (ae (ax (ai (ad (aJ jG F cP F F) (ad (aO 0 eC F F F F) (ad (ef eC dh F (by first|rfl|exact eZ ⟨by omega,by omega⟩|exact mm (by omega)|exact kj (by omega))) (ah F (ad (ar (gW F F) (decide_eq_false (by omega))) (ah F (ap F F (aJ jG F cP F F) (ap F F (aO 0 eC F F F F) (ap F F (ef eC dh F (by first|rfl|exact eZ ⟨by omega,by omega⟩|exact mm (by omega)|exact kj (by omega))) (ap F F (aF F) ?_)))))))))))))
 refine ap F F (ar (gW F F) (decide_eq_false (by omega))) (ad (aZ F F) (ae (aL F (aq (ax (ai (ad (aJ jG F cP F F) (ad (aO 0 eC F F F F) (ad (aJ jG F cP F F) (ad (aO 0 eC F F F F) (ad (DL (a:=p) (b:=n) .u8 F F (by show _<256;omega) (by show _<256;omega)) (ad (ar (cS F F) (decide_eq_false (by simp only[hb.2];decide))) (ae ?_)))))))))))))
 refine aL F (aq (ai (TO.qa F (ae (az (ao ?_))))))
 refine aG (vI 0) Tryz.results79 F ?_
 exact⟨[],Sub.z,F,F⟩
theorem KR (w:World) [cG Tryz.prog w] (x:dE) (v:Nat) (hp:x.p<256) (hn:x.n<256) (hv:v≤6) (h0:gi v x=0):
  bs Tryz.prog 47 [x.ag,vN v] w fun r N=>r=vI 0∧N=[]:=by
 refine av func47 F ntmps47 F ?_
 obtain⟨n3,rh,q1,q2,q3⟩:=lm h0
 have hp0:x.op=3∨(x.p=0∧x.n=0):=by
  by_cases h:x.op=3
  ·exact .inl h
  ·exact .inr (q1 h)
 have Vu: ¬cT x.op<1∨x.a=0:=by
  by_cases h:cT x.op<1
  ·exact .inr (q2 h)
  ·exact .inl h
 have An: ¬cT x.op<2∨x.b=0:=by
  by_cases h:cT x.op<2
  ·exact .inr (q3 h)
  ·exact .inl h
 have WL:x.op=3→nG v x.p x.n=0:=fun h=>by unfold gi at h0;rw[if_neg (by omega),if_pos h]at h0;split at h0<;>first|exact h0|omega
 clear q1 q2 q3
 refine ai (aj F (cL (cs:=x.cl) F F (fun uz=>?_)))
 refine TO.qa F (ae (ai (ad (aJ bK F cP F F) (ad (aO 0 eC F F F F) ?_))))
 have DV:=fun(w1:World) (hI:Inv w [oI uz 72 x.cl] w1)=>(haveI:=dp hI;qJ w1 x.op n3 rh)
 refine aj F (aI vH (aE DV) F ?_)
 clear DV
 rintro vr O' ⟨N,rfl,rfl,rfl⟩
 refine TO.qa F (ae (ax (ai (ah F (ad (ar (bI F F) (decide_eq_false (by omega))) (ae (aL F (aq ?_))))))))
 refine fg (fun ρ O=>Sub [oI uz 72 x.cl] O∧bZ [(0,x.ag),(1,vN v),(2,(.pointer (aD uz))),(5,vI (cT x.op:Int)),(41,.bool false)] ρ) ?_ ?_
 ·refine ax ?_
  refine aH (ad (aJ bK F cP F F) (ad (aO 0 eC F F F F) ?_))
  by_cases h3:((x.op:Nat):Int)≠3
  ·refine ad (ar (cS F F) (decide_eq_true h3)) ?_
   refine ah F (ap F F (aJ bK F cP F F) (ap F F (aO 0 eC F F F F) (ap F F (ar (cS F F) (decide_eq_false (by omega))) (ap F F (aF F) (ap F F (aJ bK F cP F F) (ap F F (aO 0 eC F F F F) (ap F F (ar (cS F F) (decide_eq_false (by omega))) ?_)))))))
   refine ap F F (aZ F F) (ad (bt F F) (ah F (ap F F (aF F) ?_)))
   by_cases rL:((cT x.op:Nat):Int)<1
   ·refine ap F F (ar (bI F F) (decide_eq_true rL)) ?_
    refine ap F F (aF F) (ap F F (aJ bK F aM F F) (ap F F (aO 0 dh F F F F) (ap F F (ar (cS F F) (decide_eq_false (by omega))) (ap F F (bt F F) (ad (aZ F F) (ah F (ap F F (aF F) ?_)))))))
    by_cases n_:((cT x.op:Nat):Int)<2
    ·refine ap F F (ar (bI F F) (decide_eq_true n_)) ?_
     refine ap F F (aF F) (ap F F (aJ bK F aM F F) (ap F F (aO 0 dh F F F F) (ap F F (ar (cS F F) (decide_eq_false (by omega))) (ap F F (bt F F) (ad (aZ F F) (ae (aL F ?_)))))))
     refine aq ?_
     exact⟨(by exact Sub.rf),(.of F)⟩
    refine ap F F (ar (bI F F) (decide_eq_false n_)) (ap F F (aF F) (ay F F (ay F F (ay F F (ap F F (aZ F F) (ad (aZ F F) (ae ?_)))))))
    refine aL F (aq ?_)
    exact⟨(by exact Sub.rf),(.of F)⟩
   refine ap F F (ar (bI F F) (decide_eq_false rL)) (ap F F (aF F) (ay F F (ay F F (ay F F (ap F F (aZ F F) (ad (aZ F F) (ah F (ap F F (aF F) ?_))))))))
   by_cases n_:((cT x.op:Nat):Int)<2
   ·refine ap F F (ar (bI F F) (decide_eq_true n_)) ?_
    refine ap F F (aF F) (ap F F (aJ bK F aM F F) (ap F F (aO 0 dh F F F F) (ap F F (ar (cS F F) (decide_eq_false (by omega))) (ap F F (bt F F) (ad (aZ F F) (ae (aL F ?_)))))))
    refine aq ?_
    exact⟨(by exact Sub.rf),(.of F)⟩
   refine ap F F (ar (bI F F) (decide_eq_false n_)) (ap F F (aF F) (ay F F (ay F F (ay F F (ap F F (aZ F F) (ad (aZ F F) (ae ?_)))))))
   refine aL F (aq ?_)
   exact⟨(by exact Sub.rf),(.of F)⟩
  refine ad (ar (cS F F) (decide_eq_false h3)) (ah F (ay F F (ay F F (ay F F (ay F F (ay F F (ay F F (ay F F ?_))))))))
  refine ay F F (ad (aZ F F) (ah F (ap F F (aF F) ?_)))
  by_cases rL:((cT x.op:Nat):Int)<1
  ·refine ap F F (ar (bI F F) (decide_eq_true rL)) ?_
   refine ap F F (aF F) (ap F F (aJ bK F aM F F) (ap F F (aO 0 dh F F F F) (ap F F (ar (cS F F) (decide_eq_false (by omega))) (ap F F (bt F F) (ad (aZ F F) (ah F (ap F F (aF F) ?_)))))))
   by_cases n_:((cT x.op:Nat):Int)<2
   ·refine ap F F (ar (bI F F) (decide_eq_true n_)) ?_
    refine ap F F (aF F) (ap F F (aJ bK F aM F F) (ap F F (aO 0 dh F F F F) (ap F F (ar (cS F F) (decide_eq_false (by omega))) (ap F F (bt F F) (ad (aZ F F) (ae (aL F ?_)))))))
    refine aq ?_
    exact⟨(by exact Sub.rf),(.of F)⟩
   refine ap F F (ar (bI F F) (decide_eq_false n_)) (ap F F (aF F) (ay F F (ay F F (ay F F (ap F F (aZ F F) (ad (aZ F F) (ae ?_)))))))
   refine aL F (aq ?_)
   exact⟨(by exact Sub.rf),(.of F)⟩
  refine ap F F (ar (bI F F) (decide_eq_false rL)) (ap F F (aF F) (ay F F (ay F F (ay F F (ap F F (aZ F F) (ad (aZ F F) (ah F (ap F F (aF F) ?_))))))))
  by_cases n_:((cT x.op:Nat):Int)<2
  ·refine ap F F (ar (bI F F) (decide_eq_true n_)) ?_
   refine ap F F (aF F) (ap F F (aJ bK F aM F F) (ap F F (aO 0 dh F F F F) (ap F F (ar (cS F F) (decide_eq_false (by omega))) (ap F F (bt F F) (ad (aZ F F) (ae (aL F ?_)))))))
   refine aq ?_
   exact⟨(by exact Sub.rf),(.of F)⟩
  refine ap F F (ar (bI F F) (decide_eq_false n_)) (ap F F (aF F) (ay F F (ay F F (ay F F (ap F F (aZ F F) (ad (aZ F F) (ae ?_)))))))
  refine aL F (aq ?_)
  exact⟨(by exact Sub.rf),(.of F)⟩
 rintro ρ O ⟨hS,hH⟩
 obtain⟨eP,rfl⟩:=hH.elim
 clear hH
 refine cu hS ?_
 refine ax (ai (ad (aJ bK F cP F F) (ad (aO 0 eC F F F F) (ad (bo F F) (ae (aw F (fun hc=>?_) (fun hc=>?_)))))))
 ·have kv:x.op=3:=by omega
  refine ai (ad (aJ bK F cP F F) (ad (aO 0 eC F F F F) (ad (aJ bK F cP F F) (ad (aO 0 eC F F F F) (ad (bE (cs:=[v8 x.p,v8 x.n]) gT eX (by kernel_rfl)) (ah F ?_))))))
  have Hz:=fun(w1:World) (hI:Inv w [oI uz 72 x.cl] w1)=>(haveI:=dp hI;OP w1 x.p x.n v hp hn hv (WL kv))
  refine aj F (aI SI (aE Hz) F ?_)
  clear Hz
  rintro vr O' ⟨N,rfl,rfl,rfl⟩
  refine TO.qa F (ae (az (ao ?_)))
  refine aG (vI 0) Tryz.results47 F ?_
  exact⟨[],Sub.z,F,F⟩
 have MF: ¬x.op=3:=by omega
 refine aq (ai (TO.qa F (ae (az (ao ?_)))))
 refine aG (vI 0) Tryz.results47 F ?_
 exact⟨[],Sub.z,F,F⟩
theorem SJ (w:World) [cG Tryz.prog w] (o:Nat):
  bs Tryz.prog 80 [v8 o] w fun v N=>v=.bool (decide (o=9)||decide (o=10))∧N=[]:=by
 refine av func80 F ntmps80 F ?_
 refine ai (TO.qa F (ae (ai (ah F ?_))))
 by_cases h9:((o:Nat):Int)=9
 ·refine ad (ar (bo F F) (decide_eq_true h9)) ?_
  refine ah F (ay F F (ay F F (ad (bt F F) (TO.qa F (ae (az ?_))))))
  refine aG (.bool true) Tryz.results80 F ?_
  exact⟨congrArg Value.bool (by rw[decide_eq_true (show o=9 by omega)];rfl),F⟩
 refine ad (ar (bo F F) (decide_eq_false h9)) (ah F (ap F F (aF F) (ap F F (bo F F) (ad (aZ F F) (TO.qa F (ae (az ?_)))))))
 refine aG (.bool (decide (((o:Nat):Int)=10))) Tryz.results80 F ?_
 exact⟨congrArg Value.bool (by rw[decide_eq_false (show¬o=9 by omega)];exact decide_eq_decide.2 (by omega)),F⟩
theorem KS (w:World) [cG Tryz.prog w] (eb:Option Addr) (ec:Nat) (e:List dE) (hE:Sl w eb (aT e)) (i:Nat) (fr:Bool) (hi:i<e.length) (n3:1≤e[i].op) (rh:e[i].op≤10) (WP:(decide (e[i].op=9)||decide (e[i].op=10))=true→(!fr)=false) (DW:1≤cT e[i].op→ ∀w1 [cG Tryz.prog w1],Inv w [] w1→bs Tryz.prog 49 [(.slice eb e.length ec),vI e[i].a,.bool (fr&&decide (e[i].op=4∨e[i].op=5))] w1 fun v N=>v=.bool false∧N=[]) (HA:2≤cT e[i].op→ ∀w1 [cG Tryz.prog w1],Inv w [] w1→bs Tryz.prog 49 [(.slice eb e.length ec),vI e[i].b,.bool (fr&&decide (e[i].op=4∨e[i].op=5))] w1 fun v N=>v=.bool false∧N=[]):
  bs Tryz.prog 49 [(.slice eb e.length ec),vN i,.bool fr] w fun v N=>v=.bool false∧N=[]:=by
 refine av func49 F ntmps49 F ?_
 refine ai (TO.qa F (ae ?_))
 refine fg (fun ρ O=>Sub [] O∧bZ [(0,(.slice eb e.length ec)),(1,vN i),(2,.bool fr)] ρ) ?_ ?_
 ·refine ax ?_
  refine aH (ah F (ah F (ad (db (i:=i) cp bQ F F (aB hE) hi (by rw[bF];omega)) (ad (bG bK F cP F F (aB hE) (by rw[bF];omega)) ?_))))
  refine ad (bS eC F F (aB hE) (fp (List.getElem?_eq_getElem hi) 0 (by show 0<5;decide))) ?_
  have rS:=fun(w1:World) (hI:Inv w [] w1)=>(haveI:=dp hI;SJ w1 e[i].op)
  refine aj F (aI SK (aE rS) F ?_)
  clear rS
  rintro vr O' ⟨N,rfl,rfl,rfl⟩
  by_cases OQ:(decide (e[i].op=9)||decide (e[i].op=10))=true
  ·refine ad (ar (aF F) (OQ)) ?_
   refine ap F F (aF F) (ap F F (f_ F) (ad (bt F F) (ae (aL (congrArg Value.bool (WP OQ)) (aq ?_)))))
   exact⟨(by exact Sub.rf),⟨F,F,F,trivial⟩⟩
  refine ad (ar (aF F) (Bool.eq_false_iff.2 OQ)) (ay F F (ay F F (ad (aZ F F) (ae (aL F (aq ?_))))))
  exact⟨(by exact Sub.rf),⟨F,F,F,trivial⟩⟩
 rintro ρ O ⟨hS,hH⟩
 obtain⟨eP,rfl⟩:=hH.elim
 clear hH
 refine cu hS ?_
 refine fg (fun ρ O=>Sub [] O∧bZ [(0,(.slice eb e.length ec)),(1,vN i),(2,.bool fr),(7,.bool (fr&&decide (e[i].op=4∨e[i].op=5)))] ρ) ?_ ?_
 ·refine aH ?_
  refine ah F ?_
  by_cases HB:fr=true
  ·refine ad (ar (aF F) (HB)) ?_
   refine ap F F (aF F) (ap F F (aF F) (ap F F (db (i:=i) cp bQ F F (aB hE) hi (by rw[bF];omega)) (ap F F (bG bK F cP F F (aB hE) (by rw[bF];omega)) ?_)))
   refine ap F F (bS eC F F (aB hE) (fp (List.getElem?_eq_getElem hi) 0 (by show 0<5;decide))) ?_
   refine ap F F (bo F F) ?_
   by_cases h4:((e[i].op:Nat):Int)=4
   ·refine ap F F (ar (aF F) (decide_eq_true h4)) ?_
    refine ay F F (ay F F (ay F F (ay F F (ay F F (ay F F (ap F F (bt F F) (ad (bt F F) (TO.qa F ?_))))))))
    refine ae ?_
    exact⟨(by exact Sub.rf),⟨F,F,F,(congrArg Value.bool (by rw[HB,decide_eq_true (show e[i].op=4∨e[i].op=5 by omega)];rfl)),trivial⟩⟩
   refine ap F F (ar (aF F) (decide_eq_false h4)) (ap F F (aF F) (ap F F (aF F) (ap F F (db (i:=i) cp bQ F F (aB hE) hi (by rw[bF];omega)) (ap F F (bG bK F cP F F (aB hE) (by rw[bF];omega)) ?_))))
   refine ap F F (bS eC F F (aB hE) (fp (List.getElem?_eq_getElem hi) 0 (by show 0<5;decide))) ?_
   refine ap F F (bo F F) (ap F F (aZ F F) (ad (bt F F) (TO.qa F (ae ?_))))
   exact⟨(by exact Sub.rf),⟨F,F,F,(congrArg Value.bool (by rw[HB,Bool.true_and];exact decide_eq_decide.2 (by omega))),trivial⟩⟩
  refine ad (ar (aF F) (Bool.eq_false_iff.2 HB)) (ay F F (ay F F (ay F F (ay F F (ay F F (ay F F (ay F F ?_)))))))
  refine ay F F (ay F F (ay F F (ay F F (ay F F (ay F F (ay F F (ad (aZ F F) (TO.qa F ?_))))))))
  refine ae ?_
  exact⟨(by exact Sub.rf),⟨F,F,F,(congrArg Value.bool (by rw[Bool.eq_false_iff.2 HB];rfl)),trivial⟩⟩
 rintro ρ O ⟨hS,hH⟩
 obtain⟨eP,rfl⟩:=hH.elim
 clear hH
 refine cu hS ?_
 refine ax (ai (ah F (ah F (ad (db (i:=i) cp bQ F F (aB hE) hi (by rw[bF];omega)) (ad (bG bK F cP F F (aB hE) (by rw[bF];omega)) ?_)))))
 refine ad (bS eC F F (aB hE) (fp (List.getElem?_eq_getElem hi) 0 (by show 0<5;decide))) ?_
 have oT:=fun(w1:World) (hI:Inv w [] w1)=>(haveI:=dp hI;qJ w1 e[i].op n3 rh)
 refine aj F (aI vH (aE oT) F ?_)
 clear oT
 rintro vr O' ⟨N,rfl,rfl,rfl⟩
 refine ae (aC (ai (ad (bo F F) (TO.qa F (ae (aw F (fun hc=>?_) (fun hc=>?_)))))))
 ·have rK:cT e[i].op=1:=by omega
  refine ai (ah F (ah F (ah F (ad (db (i:=i) cp bQ F F (aB hE) hi (by rw[bF];omega)) ?_))))
  refine ad (bG bK F aM F F (aB hE) (by rw[bF];omega)) (ad (bS dh F F (aB hE) (fp (List.getElem?_eq_getElem hi) 3 (by show 3<5;decide))) (ah F ?_))
  have SL:=fun(w1:World) (hI:Inv w [] w1)=>(haveI:=dp hI;DW (by omega) w1 hI.lY)
  refine aj F (aI DX (aE SL) F ?_)
  clear SL
  rintro vr O' ⟨N,rfl,rfl,rfl⟩
  refine TO.qa F (ae (az ?_))
  refine aG (.bool false) Tryz.results49 F ?_
  exact⟨F,F⟩
 have Sn: ¬cT e[i].op=1:=by omega
 refine ai (ad (bo F F) (TO.qa F (ae (aw F (fun hc=>?_) (fun hc=>?_)))))
 ·have YA:cT e[i].op=2:=by omega
  refine ai (ah F (ah F (ah F (ad (db (i:=i) cp bQ F F (aB hE) hi (by rw[bF];omega)) ?_))))
  refine ad (bG bK F aM F F (aB hE) (by rw[bF];omega)) (ad (bS dh F F (aB hE) (fp (List.getElem?_eq_getElem hi) 3 (by show 3<5;decide))) (ah F ?_))
  have HC:=fun(w1:World) (hI:Inv w [] w1)=>(haveI:=dp hI;DW (by omega) w1 hI.lY)
  refine aj F (aI DX (aE HC) F ?_)
  clear HC
  rintro vr O' ⟨N,rfl,rfl,rfl⟩
  refine ah F (ap F F (aF F) (ap F F (aF F) (ap F F (aF F) (ap F F (db (i:=i) cp bQ F F (aB hE) hi (by rw[bF];omega)) (ap F F (bG bK F aM F F (aB hE) (by rw[bF];omega)) ?_)))))
  refine ap F F (bS dh F F (aB hE) (fp (List.getElem?_eq_getElem hi) 4 (by show 4<5;decide))) ?_
  refine ap F F (aF F) ?_
  have SM:=fun(w1:World) (hI:Inv w [] w1)=>(haveI:=dp hI;HA (by omega) w1 hI.lY)
  refine fL F F F (aI DX (aE SM) F ?_)
  clear SM
  rintro vr O' ⟨N,rfl,rfl,rfl⟩
  refine ad (aZ F F) (TO.qa F (ae (az ?_)))
  refine aG (.bool false) Tryz.results49 F ?_
  exact⟨F,F⟩
 have YB: ¬cT e[i].op=2:=by omega
 refine aq (ai (TO.qa F (ae (az ?_))))
 refine aG (.bool false) Tryz.results49 F ?_
 exact⟨F,F⟩
theorem OR (eb:Option Addr) (ec:Nat) (e:List dE) {v:Nat} {fs:List Nat} (hb:iV v e=.ok fs): ∀(f i:Nat) (fr:Bool) (w:World) [cG Tryz.prog w] (hE:Sl w eb (aT e)) (hi:i<e.length),i<f→lH e f i fr=true→bs Tryz.prog 49 [(.slice eb e.length ec),vN i,.bool fr] w fun v N=>v=.bool false∧N=[]
 |0,i,fr,w,_,_,hi,hf,_=>absurd hf (by omega)
 |f+1,i,fr,w,_,hE,hi,hf,hv=>by
  have ht:=oV hb i hi
  obtain⟨n3,rh,_⟩:=lm (rT hb hi)
  rw[ld hi]at hv
  split at hv
  ·cases hv
  ·rename_i hn
   rw[Bool.and_eq_true,Bool.or_eq_true,Bool.or_eq_true]at hv
   refine KS w eb ec e hE i fr hi n3 rh (fun h=>?_) (fun h w2 _ nX=>?_) (fun h w2 _ nX=>?_)
   ·cases fr with
    |true=>rfl
    |false=>exact absurd ⟨by simpa using h,F⟩ hn
   ·obtain⟨j,hj,DF⟩:=ht.1 h
    rw[hj]
    have h2:=hv.1.resolve_left (by rw[decide_eq_true_eq];omega)
    rw[hj,Int.toNat_natCast]at h2
    exact OR eb ec e hb f j _ w2 (nX.sl hE) (by omega) (by omega) h2
   ·obtain⟨j,hj,DF⟩:=ht.2 h
    rw[hj]
    have h2:=hv.2.resolve_left (by rw[decide_eq_true_eq];omega)
    rw[hj,Int.toNat_natCast]at h2
    exact OR eb ec e hb f j _ w2 (nX.sl hE) (by omega) (by omega) h2
theorem xQ {fs:List Nat} {i k:Nat} (h1:k<i) (h2:k<fs.length):(aQ (fs.take i))[k]? =some (vN (fs.getD k 0)):=by
 show((fs.take i).map _)[k]? =_
 rw[List.getElem?_map,List.getElem?_take,if_pos h1,List.getD_eq_getElem?_getD,List.getElem?_eq_getElem h2];rfl
theorem SN (w:World) [cG Tryz.prog w] (eb:Option Addr) (ec:Nat) (e:List dE) (hE:Sl w eb (aT e)) (qK: ∀x∈e,x.p<256∧x.n<256) (v:Nat) (h0:jw (v:Int) e=0):
  bs Tryz.prog 22 [(.slice eb e.length ec),vN v] w fun r N=>r=vI 0∧N=[]:=by
 refine av func22 F ntmps22 F ?_
 obtain⟨_,N1,DG,CH,fs,j8,OS,WQ⟩:=DY h0
 rw[Int.toNat_natCast]at j8
 have qp:fs.length=e.length:=by
  obtain⟨gs,g1,g2,_⟩:=nH j8 e.length (Nat.le_refl _)
  rw[List.take_length,j8]at g1
  injection g1 with g1;rw[g1];exact g2
 refine ai (TO.qa F (ae (ax (ai (ah F (ad (ar (bI F F) (decide_eq_false (by omega))) (ah F (ap F F (aF F) (ap F F (ar (fw F F) (decide_eq_false (by omega))) (ad (aZ F F) (ae ?_)))))))))))
 refine aL F (aq (ax (ai (ah F (ad (bL cp F) (ad (ar (bo F F) (decide_eq_false (by omega))) (ae (aL F (aq (ax (ai (ah F (ad (bL cp F) (ad (ar (fw F F) (decide_eq_false (by omega))) (ae ?_)))))))))))))))
 refine aL F (aq (ai (TO.qa F (ae (ax (ai (TO.qa F (ae (aC (T.dt 3 1 ?_))))))))))
 let gz:Value:=(.slice eb e.length ec)
 refine cE (fun(i:Nat) ρ O=> ∃(b:Option Addr) (c:Nat),O=[ak b c 3 1 (aQ (fs.take i))]∧i≤e.length∧bZ [(0,gz),(1,vN v),(5,(.slice b i c)),(6,vN i)] ρ) (fun i=>e.length-i) 0 ?_ ?_
 ·exact⟨none,0,F,Nat.zero_le _,⟨F,F,F,F,trivial⟩⟩
 rintro i ρ O ⟨b,c,rfl,hi,hH⟩
 obtain⟨eP,rfl⟩:=hH.elim
 clear hH
 refine ax (ai (ah F (ah F (ad (bL cp F) (ad (bI F F) (ae (aw F (fun hc=>?_) (fun hc=>?_))))))))
 ·have gE:i<e.length:=by omega
  have J5:=qK _ (List.getElem_mem gE)
  have qI:=rT j8 gE
  obtain⟨n3,rh,_⟩:=lm qI
  obtain⟨g0,g1,g2,g3⟩:=DZ j8 gE
  have Vv:cT e[i].op=0∨cT e[i].op=1∨cT e[i].op=2:=SO _
  refine aq (ax (aC (ai (ah F (ah F (ad (db (i:=i) cp bQ F F (aB hE) gE (by rw[bF];omega)) (ad (dT (vs:=e[i].cl) bK F bQ F F (Nat.succ_pos _) (aB hE) (lI gE)) (ah F ?_))))))))
  let dS:List Lx.Item:=[ak b c 3 1 (aQ (fs.take i))]
  have HD:=fun(w1:World) (hI:Inv w dS w1)=>(haveI:=dp hI;KR w1 e[i] v J5.1 J5.2 (by omega) qI)
  refine aj F (aI SP (aE HD) F ?_)
  clear HD
  rintro vr O' ⟨N,rfl,rfl,rfl⟩
  refine TO.qa F (ae (ax (ai (ah F (ad (ar (cS F F) (decide_eq_false (by decide))) (ae (aL F (aq (ai (ah F (TO.qa F (ae ?_))))))))))))
  refine fg (fun ρ O=>Sub dS O∧bZ [(0,gz),(1,vN v),(5,(.slice b i c)),(6,vN i),(7,vI 0),(8,vN (if cT e[i].op=1 then fs.getD i 0 else i))] ρ) ?_ ?_
  ·refine ax ?_
   refine aH (ah F (ah F (ad (db (i:=i) cp bQ F F (aB hE) gE (by rw[bF];omega)) (ad (bG bK F cP F F (aB hE) (by rw[bF];omega)) ?_))))
   refine ad (bS eC F F (aB hE) (fp (List.getElem?_eq_getElem gE) 0 (by show 0<5;decide))) ?_
   have vB:=fun(w1:World) (hI:Inv w dS w1)=>(haveI:=dp hI;qJ w1 e[i].op n3 rh)
   refine aj F (aI vH (aE vB) F ?_)
   clear vB
   rintro vr O' ⟨N,rfl,rfl,rfl⟩
   refine ad (bo F F) (ae (aw F (fun hc=>?_) (fun hc=>?_)))
   ·have fT:cT e[i].op=1:=by omega
    obtain⟨k1,k2,k3⟩:=g1 fT
    refine ax (ai (ah F (ah F (ad (db (i:=i) cp bQ F F (aB hE) gE (by rw[bF];omega)) (ad (bG bK F aM F F (aB hE) (by rw[bF];omega)) ?_)))))
    refine ad (bS dh F F (aB hE) (fp (List.getElem?_eq_getElem gE) 3 (by show 3<5;decide))) (ah F (ad (a8 (eQ F F (by omega)) (v':=vN (i-1)) (congrArg (Value.int .i64) (by omega))) (ad (ar (cS F F) (decide_eq_false (by omega))) ?_)))
    refine ah F (ap F F (aF F) (ap F F (ar (bo F F) (decide_eq_false (by omega))) (ad (aZ F F) (ae (aL F (aq (aH (ah F (ah F (ad (a8 (eQ F F (by omega)) (v':=vN (i-1)) (congrArg (Value.int .i64) (by omega))) (ad (cq (i:=(i-1)) bT aM F F (cw (mG 0 F)) (by omega) (by rw[List.length_map,List.length_take];omega)) ?_)))))))))))
    refine ad (bS dh F F (cw (mG 0 F)) (show(aQ (fs.take i))[i-1]? =some (vN (fs.getD (i-1) 0))from xQ (by omega) (by omega))) (TO.qa F (ae ?_))
    exact⟨(by exact Sub.rf),⟨F,F,F,F,F,(congrArg (fun n9:Nat=>Value.int .i64 ((n9:Nat):Int)) (by rw[if_pos fT];exact k3.symm)),trivial⟩⟩
   have gh: ¬cT e[i].op=1:=by omega
   refine aq ?_
   exact⟨(by exact Sub.rf),⟨F,F,F,F,F,(congrArg (fun n9:Nat=>Value.int .i64 ((n9:Nat):Int)) (by rw[if_neg gh])),trivial⟩⟩
  rintro ρ O ⟨hS,hH⟩
  obtain⟨eP,rfl⟩:=hH.elim
  clear hH
  refine cu hS ?_
  refine fg (fun ρ O=>Sub dS O∧bZ [(0,gz),(1,vN v),(5,(.slice b i c)),(6,vN i),(7,vI 0),(8,vN (fs.getD i 0))] ρ) ?_ ?_
  ·refine ax ?_
   refine aH (ah F (ah F (ad (db (i:=i) cp bQ F F (aB hE) gE (by rw[bF];omega)) (ad (bG bK F cP F F (aB hE) (by rw[bF];omega)) ?_))))
   refine ad (bS eC F F (aB hE) (fp (List.getElem?_eq_getElem gE) 0 (by show 0<5;decide))) ?_
   have SQ:=fun(w1:World) (hI:Inv w dS w1)=>(haveI:=dp hI;qJ w1 e[i].op n3 rh)
   refine aj F (aI vH (aE SQ) F ?_)
   clear SQ
   rintro vr O' ⟨N,rfl,rfl,rfl⟩
   refine ad (bo F F) (ae (aw F (fun hc=>?_) (fun hc=>?_)))
   ·have vJ:cT e[i].op=2:=by omega
    obtain⟨k1,k2,k3,k4,k5,k6⟩:=g2 vJ
    refine ax (ax ?_)
    refine dO [(0,0),(1,0),(2,0),(3,0),(4,0),(5,0),(6,0),(7,0),(8,0),(9,0),(10,0),(11,0),(12,0),(13,0),(14,0),(15,0),(16,0),(17,0),(18,0),(19,0),(20,0),(21,0),(22,0),(23,0),(24,0),(25,0),(26,0),(27,0),(28,0),(29,0),(30,0),(31,0),(32,0),(33,0)] ?_
    refine am F (aF F) (am F (aF F) (am F (db (i:=i) cp bQ F F (aB hE) gE (by rw[bF];omega)) (am F (bG bK F aM F F (aB hE) (by rw[bF];omega)) ?_)))
    refine am F (bS dh F F (aB hE) (fp (List.getElem?_eq_getElem gE) 4 (by show 4<5;decide))) (am F (aF F) (am F (a8 (eQ F F (by omega)) (v':=vN (i-1)) (congrArg (Value.int .i64) (by omega))) (am F (ar (cS F F) (decide_eq_false (by omega))) ?_)))
    refine am F (aF F) ?_
    refine aS F F F (aF F) ?_
    refine aS F F F (ar (bo F F) (decide_eq_false (by omega))) ?_
    refine am F (aZ F F) (am F (aF F) ?_)
    refine aS F F F (aF F) ?_
    refine aS F F F (aF F) ?_
    refine aS F F F (a8 (eQ F F (by omega)) (v':=vN (i-1)) (congrArg (Value.int .i64) (by omega))) ?_
    refine aS F F F (cq (i:=(i-1)) bT aM F F (cw (mG 0 F)) (by omega) (by rw[List.length_map,List.length_take];omega)) ?_
    refine aS F F F (bS dh F F (cw (mG 0 F)) (show(aQ (fs.take i))[i-1]? =some (vN (fs.getD (i-1) 0))from xQ (by omega) (by omega))) ?_
    refine aS F F F (ar (bo F F) (decide_eq_false (by omega))) ?_
    refine am F (aZ F F) (am F (aF F) ?_)
    refine aS F F F (aF F) ?_
    refine aS F F F (aF F) ?_
    refine aS F F F (db (i:=i) cp bQ F F (aB hE) gE (by rw[bF];omega)) ?_
    refine aS F F F (bG bK F aM F F (aB hE) (by rw[bF];omega)) ?_
    refine aS F F F (bS dh F F (aB hE) (fp (List.getElem?_eq_getElem gE) 3 (by show 3<5;decide))) ?_
    refine aS F F F (aF F) ?_
    refine aS F F F (aF F) ?_
    refine aS F F F (a8 (eQ F F (by omega)) (v':=vN (i-1)) (congrArg (Value.int .i64) (by omega))) ?_
    refine aS F F F (cq (i:=(i-1)) bT aM F F (cw (mG 0 F)) (by omega) (by rw[List.length_map,List.length_take];omega)) ?_
    refine aS F F F (bS dh F F (cw (mG 0 F)) (show(aQ (fs.take i))[i-1]? =some (vN (fs.getD (i-1) 0))from xQ (by omega) (by omega))) ?_
    refine aS F F F (gI (a:=(fs.getD (i-1) 0)) (b:=1) F F (by omega) (by omega)) ?_
    refine aS F F F (ar (cS F F) (decide_eq_false (by omega))) ?_
    refine am F (aZ F F) ?_
    refine bu ?_
    refine aL F (aq (aH (ah F (ah F (ah F (ad (a8 (eQ F F (by omega)) (v':=vN (i-1)) (congrArg (Value.int .i64) (by omega))) (ad (cq (i:=(i-1)) bT aM F F (cw (mG 0 F)) (by omega) (by rw[List.length_map,List.length_take];omega)) (ad (bS dh F F (cw (mG 0 F)) (show(aQ (fs.take i))[i-1]? =some (vN (fs.getD (i-1) 0))from xQ (by omega) (by omega))) (ad (a8 (eQ F F (by omega)) (v':=vN (fs.getD (i-1) 0-1)) (congrArg (Value.int .i64) (by omega))) (ad (cq (i:=(fs.getD (i-1) 0-1)) bT aM F F (cw (mG 0 F)) (by omega) (by rw[List.length_map,List.length_take];omega)) (ad (bS dh F F (cw (mG 0 F)) (show(aQ (fs.take i))[(fs.getD (i-1) 0-1)]? =some (vN (fs.getD (fs.getD (i-1) 0-1) 0))from xQ (by omega) (by omega))) (TO.qa F (ae ?_)))))))))))))
    exact⟨(by exact Sub.rf),⟨F,F,F,F,F,(congrArg (fun n9:Nat=>Value.int .i64 ((n9:Nat):Int)) (by rw[k6,k4];congr 1;omega)),trivial⟩⟩
   have SS: ¬cT e[i].op=2:=by omega
   refine aq ?_
   exact⟨(by exact Sub.rf),⟨F,F,F,F,F,(congrArg (fun n9:Nat=>Value.int .i64 ((n9:Nat):Int)) (by split;rfl;exact(g3 (by omega)).symm)),trivial⟩⟩
  rintro ρ O ⟨hS,hH⟩
  obtain⟨eP,rfl⟩:=hH.elim
  clear hH
  refine cu hS ?_
  refine aH (ah F (ah F (aj F (bN (v:=vN (fs.getD i 0)) bT aM F F F (fun z1=>?_)))))
  refine aj F (bX 1 bT bT aM F F F F (by rw[List.length_map,List.length_take];omega) (by decide) (Src.row (j:=0) F (by simp)) (by simp[dD]) (by omega) (by decide) (by decide) (fun z2 vK=>?_))
  refine TO.qa F (ae (aH (ah F (ad (cj (a:=i) (b:=1) F F (by omega)) (TO.qa F (ae ?_))))))
  exact⟨i+1,by omega,[ak z2 vK 3 1 ((aQ (fs.take i))++[vN (fs.getD i 0)])],(by exact Sub.d (.k .z)),z2,vK,by rw[List.take_succ_eq_append_getElem (show i<fs.length by omega),show aQ (fs.take i++[fs[i]])=aQ (fs.take i)++[vN (fs[i])]from List.map_append,show fs.getD i 0=fs[i] by rw[List.getD_eq_getElem?_getD,List.getElem?_eq_getElem (by omega)];rfl],by omega,⟨F,F,F,F,trivial⟩⟩
 have xp: ¬i<e.length:=by omega
 have sO:i=e.length:=by omega
 refine bn ?_
 refine ax (ai (ah F (ah F (ad (bL cp F) (ad (a8 (eQ F F (by omega)) (v':=vN (e.length-1)) (congrArg (Value.int .i64) (by omega))) (ad (cq (i:=(e.length-1)) bT aM F F (cw (mG 0 F)) (by omega) (by rw[List.length_map,List.length_take];omega)) (ad (bS dh F F (cw (mG 0 F)) (show(aQ (fs.take i))[e.length-1]? =some (vN (fs.getD (e.length-1) 0))from xQ (by omega) (by omega))) (ad (ar (cS F F) (decide_eq_false (by omega))) (ae (aL F (aq (ax (ai (ah F (ah F (ad (bL cp F) (ad (a8 (eQ F F (by omega)) (v':=vN (e.length-1)) (congrArg (Value.int .i64) (by omega))) ?_)))))))))))))))))
 have M2:=fun(w1:World) (hI:Inv w [ak b c 3 1 (aQ (fs.take i))] w1)=>(haveI:=dp hI;OR eb ec e j8 e.length (e.length-1) true w1 (hI.sl hE) (by omega) (by omega) WQ)
 refine aj F (aI DX (aE M2) F ?_)
 clear M2
 rintro vr O' ⟨N,rfl,rfl,rfl⟩
 refine ae (aL F (aq (ai (TO.qa F (ae (az (ao ?_)))))))
 refine aG (vI 0) Tryz.results22 F ?_
 exact⟨[],Sub.z,F,F⟩
end Go.Proofs.YtgdbfideeeegmaaGreatDoor

