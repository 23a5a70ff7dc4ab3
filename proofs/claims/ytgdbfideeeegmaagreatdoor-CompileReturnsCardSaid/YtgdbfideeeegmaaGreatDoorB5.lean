/- Contracts of functions of the program, and what they answer. Conditions: those each theorem names. -/
import Derived.Test.YtgdbfideeeegmaaGreatDoorB3
import Derived.Test.YtgdbfideeeegmaaGreatDoorB4
import Derived.Test.YtgdbfideeeegmaaGreatDoorA2
import Derived.Test.YtgdbfideeeegmaaGreatDoorA7
import Derived.Test.YtgdbfideeeegmaaGreatDoorB1
import Derived.Test.YtgdbfideeeegmaaGreatDoorA4
import Derived.Test.YtgdbfideeeegmaaGreatDoorB2
import Derived.Test.YtgdbfideeeegmaaGreatDoorA6
import Derived.Test.YtgdbfideeeegmaaGreatDoorA5
import Derived.Test.YtgdbfideeeegmaaGreatDoorA0
set_option linter.unusedSectionVars false
set_option linter.unusedSimpArgs false
set_option linter.unusedVariables false
set_option linter.unnecessarySimpa false
set_option maxHeartbeats 8000000
set_option maxRecDepth 20000
namespace Go.Lx
open Go.RowKit Go.Proofs.YtgdbfideeeegmaaGreatDoor
theorem rv {v:Nat} (hv:v≤6): ∀ {t:Rx},t.plain=true→t.sz≤7→jY v t 4096
 | .none,_,_=>bE (HasL.not (fG hv) (by decide)).len (by decide)
 | .empty,_,_=>bE ((nG (gm 0 0) hv (bs 1)).nX).len (by decide)
 | .letter p n,_,_=>bE ((nG (gm p n) hv (a8 1)).nX).len (by decide)
 | .not a,hp,hs=>by
  have hs:a.sz+1≤7:=hs
  have ih:=rv hv (t:=a) hp (by omega)
  have h1:=fX hv (a8 4096) (t:=a) hp ih (by omega)
  have h2:=jJ a.sz (by omega)
  have h3:=(dG hv (a8 4096) (t:=a) hp ih).toHasL.H7
  have h4:(minOf v (gj a)).next.length*(minOf v (gj a)).next.length≤8*8:=Nat.mul_le_mul (by omega) (by omega)
  exact⟨ih,bE (HasL.not h3 (by omega)).len (by omega)⟩
 | .star a,hp,hs=>by
  have hs:a.sz+1≤7:=hs
  have ih:=rv hv (t:=a) hp (by omega)
  have h1:=fX hv (a8 4096) (t:=a) hp ih (by omega)
  have h2:=jJ a.sz (by omega)
  have h4:2^((minOf v (gj a)).next.length+1)≤2^9:=bO (by decide) (by omega)
  exact⟨ih,tk (dG hv (a8 4096) (t:=a) hp ih).valid (by omega)⟩
 | .je a b,hp,hs=>by
  have hs:a.sz+b.sz+1≤7:=hs
  simp only[Rx.plain,aM]at hp
  have pa:=a.dN;have pb:=b.dN
  have ia:=rv hv hp.1 (by omega)
  have ib:=rv hv hp.2 (by omega)
  have h1:=fX hv (a8 4096) hp.1 ia (by omega)
  have h2:=fX hv (a8 4096) hp.2 ib (by omega)
  have h6:vV a.sz*2^vV b.sz≤512:=by
   have: ∀i,i≤5→ ∀j,j≤5→vV i*2^vV j≤512:=by decide
   exact this _ (by omega) _ (by omega)
  have h7:(minOf v (gj a)).next.length*2^(minOf v (gj b)).next.length≤vV a.sz*2^vV b.sz:=Nat.mul_le_mul h1 (bO (by decide) h2)
  exact⟨ia,ib,mw (dG hv (a8 4096) hp.1 ia).valid (dG hv (a8 4096) hp.2 ib).valid (by omega)⟩
 | .jq a b,hp,hs=>by
  have hs:a.sz+b.sz+1≤7:=hs
  simp only[Rx.plain,aM]at hp
  have pa:=a.dN;have pb:=b.dN
  have ia:=rv hv hp.1 (by omega)
  have ib:=rv hv hp.2 (by omega)
  have h1:=bE (fX hv (a8 4096) hp.1 ia (by omega)) (jJ _ (by omega))
  have h2:=bE (fX hv (a8 4096) hp.2 ib (by omega)) (jJ _ (by omega))
  have h6:(minOf v (gj a)).next.length*(minOf v (gj b)).next.length≤8*8:=Nat.mul_le_mul h1 h2
  have ma:=dG hv (a8 4096) hp.1 ia
  have mb:=dG hv (a8 4096) hp.2 ib
  exact⟨ia,ib,A4 ma.valid mb.valid (by rw[ma.vars,mb.vars]) (a8 _) (by omega)⟩
 | .and a b,hp,hs=>by
  have hs:a.sz+b.sz+1≤7:=hs
  simp only[Rx.plain,aM]at hp
  have pa:=a.dN;have pb:=b.dN
  have ia:=rv hv hp.1 (by omega)
  have ib:=rv hv hp.2 (by omega)
  have h1:=bE (fX hv (a8 4096) hp.1 ia (by omega)) (jJ _ (by omega))
  have h2:=bE (fX hv (a8 4096) hp.2 ib (by omega)) (jJ _ (by omega))
  have h6:(minOf v (gj a)).next.length*(minOf v (gj b)).next.length≤8*8:=Nat.mul_le_mul h1 h2
  have ma:=dG hv (a8 4096) hp.1 ia
  have mb:=dG hv (a8 4096) hp.2 ib
  exact⟨ia,ib,A4 ma.valid mb.valid (by rw[ma.vars,mb.vars]) (a8 _) (by omega)⟩
 | .ahead a,hp,_=>absurd hp (by simp[Rx.plain])
 | .behind a,hp,_=>absurd hp (by simp[Rx.plain])
theorem OD {α:Type} [Nonempty α] {G:α→Prop} {kf:α→Key} {nx:α→Nat→α} {fn:α→Bool} {L:Nat} (h:Ot G kf nx fn L) {s:α} (Q:List α) (hG: ∀q∈Q,G q) (h0:s∈Q) (hc: ∀q∈Q,∀x,x<L→nx q x∈Q) {B:Nat} (hB:Q.length≤B):HI (Bi G kf nx) L (kf s) B:=by
 refine⟨Q.map kf,⟨List.mem_map.2 ⟨s,h0,F⟩,fun k hk x hx=>?_⟩,by simpa using hB⟩
 obtain⟨q,hq,rfl⟩:=List.mem_map.1 hk
 rw[uu h (hG q hq) hx]
 exact List.mem_map.2 ⟨_,hc q hq x hx,F⟩
section
variable {ls:List Lf}
structure Yt (ls:List Lf):Prop where
 len:ls.length=2
 o0:(lf ls 0).op=9
 f0:(lf ls 0).fo=[1]
 l0:(lf ls 0).la=false
 o1:(lf ls 1).op=0
 f1:(lf ls 1).fo=[]
 l1:(lf ls 1).la=true
def ML (ls:List Lf) (bh:List Nat) (q:Nat) (o:List Ob):St:=⟨bh,⟨1,q,o⟩::(if dD (lf ls 1).d q=true then[⟨-1,0,o⟩]else[])⟩
theorem Gr (c:Cf) (f:Bool) (o:List Ob) (h:c.k≠ -1):((c::(if f=true then[(⟨-1,0,o⟩:Cf)]else[])).foldl add [])=c::(if f=true then[⟨-1,0,o⟩]else[]):=by
 cases f with
 |false=>rfl
 |true=>
  show add (add [] c) ⟨-1,0,o⟩=_
  have e:add [] c=[c]:=by unfold add;rw[ay (by simp)];rfl
  rw[e];unfold add
  rw[ay (by rw[db];intro e2;exact h (by rw[←e2]))]
  rfl
theorem C_ (h:Yt ls) (f:Nat) (bh:List Nat) (o:List Ob):gX ls (f+1) bh 1 o=[⟨-1,0,o⟩]:=by
 unfold gX;rw[h.f1,h.l1];rfl
theorem LA (h:Yt ls):lF ls [0]=ML ls (ls.map fun l=>l.d.start.toNat) (lf ls 1).d.start.toNat (tA ls [] (0,(lf ls 0).d.start.toNat)):=by
 have e:gz ls (2*ls.length) (ls.map fun l=>l.d.start.toNat) 0 []=⟨1,(lf ls 1).d.start.toNat,tA ls [] (0,(lf ls 0).d.start.toNat)⟩::(if dD (lf ls 1).d (lf ls 1).d.start.toNat=true then[⟨-1,0,tA ls [] (0,(lf ls 0).d.start.toNat)⟩]else[]):=by
  rw[h.len]
  show gz ls (3+1) _ 0 []=_
  unfold gz
  rw[aR h.o0]
  show gX ls (2+1) _ 0 _=_
  unfold gX
  rw[h.f0,h.l0]
  show(gz ls (1+1) _ 1 _++[])++[]=_
  rw[cT,cT]
  unfold gz
  rw[ay (by rw[h.o1];decide),ay (by rw[h.o1];decide),C_ h 0]
  rfl
 unfold lF ML
 rw[show([0]:List Nat).flatMap (fun k=>gz ls (2*ls.length) (ls.map fun l=>l.d.start.toNat) k [])=gz ls (2*ls.length) (ls.map fun l=>l.d.start.toNat) 0 [] by simp,e,Gr _ _ _ (by show(1:Int)≠ -1;decide)]
theorem OE (h:Yt ls) (bh:List Nat) (q:Nat) (o:List Ob) (x:Nat):mZ ls (ML ls bh q o) x=ML ls [0,0] (e7 (lf ls 1).d q x) (nj ls o x):=by
 have eb:mj ls bh x=[0,0]:=by
  unfold mj
  rw[h.len,show List.range 2=[0,1]from F]
  simp only[cD,fz,h.o0,h.o1]
  rfl
 have e1:jQ ls [0,0] x ⟨1,q,o⟩=⟨1,e7 (lf ls 1).d q x,nj ls o x⟩::(if dD (lf ls 1).d (e7 (lf ls 1).d q x)=true then[⟨-1,0,nj ls o x⟩]else[]):=by
  unfold jQ
  rw[ay (by show¬(1:Int)<0;decide)]
  have e2:gX ls (2*ls.length) [0,0] 1 (nj ls o x)=[⟨-1,0,nj ls o x⟩]:=by rw[h.len];exact C_ h 3 _ _
  show _::(if _ then gX ls (2*ls.length) [0,0] 1 (nj ls o x)else[])=_
  rw[e2];rfl
 have e3:((ML ls bh q o).cf.flatMap (jQ ls [0,0] x))=jQ ls [0,0] x ⟨1,q,o⟩:=by
  unfold ML
  rw[List.flatMap_cons]
  have:(if dD (lf ls 1).d q=true then[(⟨-1,0,o⟩:Cf)]else[]).flatMap (jQ ls [0,0] x)=[]:=by
   split
   ·show jQ ls [0,0] x ⟨-1,0,o⟩++[]=[]
    unfold jQ;rw[aR (by show(-1:Int)<0;decide)];rfl
   ·rfl
  rw[this,cT]
 unfold mZ
 rw[show(ML ls bh q o).bh=bh from F,eb,e3,e1]
 unfold ML
 rw[Gr _ _ _ (by show(1:Int)≠ -1;decide)]
theorem Rz {vs:Nat} (hG:ji ls vs) (h:Yt ls) {B:Nat} (hB:2*((lf ls 1).d.next.length*((lf ls 0).d.next.length+1))≤B):HI (Bi (kV ls) St.key (mZ ls)) (2^vs) (lF ls [0]).key B:=by
 obtain⟨b0,It⟩: ∃b,b=ls.map fun l=>l.d.start.toNat:=⟨_,F⟩
 have k0:0<ls.length:=by rw[h.len];decide
 have k1:1<ls.length:=by rw[h.len];decide
 obtain⟨os,H8⟩: ∃os:List (List Ob),os=[]::(List.range (lf ls 0).d.next.length).map fun q=>[(0,q)]:=⟨_,F⟩
 have Yu: ∀o,o∈os↔o=[]∨ ∃q,q<(lf ls 0).d.next.length∧o=[(0,q)]:=fun o=>by
  rw[H8,df,iu]
  exact or_congr Iff.rfl ⟨fun⟨q,h1,h2⟩=>⟨q,List.mem_range.1 h1,h2.symm⟩,fun⟨q,h1,h2⟩=>⟨q,List.mem_range.2 h1,h2.symm⟩⟩
 have Xm: ∀q,q<(lf ls 0).d.next.length→tA ls [] (0,q)∈os:=fun q hq=>by
  rw[Yu];unfold tA;split
  ·exact .inl F
  ·exact .inr ⟨q,hq,F⟩
 have SI: ∀o∈os,fO ls 1 o:=fun o ho=>by
  rcases(Yu o).1 ho with rfl|⟨q,hq,rfl⟩
  ·exact .nil
  ·exact⟨List.pairwise_singleton _ _,fun p hp=>by rw[List.mem_singleton.1 hp];exact⟨Nat.zero_lt_one,hq⟩⟩
 have ME: ∀o∈os,∀x,x<2^vs→nj ls o x∈os:=fun o ho x hx=>by
  rcases(Yu o).1 ho with rfl|⟨q,hq,rfl⟩
  ·exact(Yu _).2 (.inl F)
  ·exact Xm _ ((hG.j4 k0).toVal.gV hq (by rw[hG.vars _ (ko k0)];exact hx)).1
 obtain⟨Q,hQ⟩: ∃Q:List St,Q=[b0,[0,0]].flatMap fun b=>(List.range (lf ls 1).d.next.length).flatMap fun q=>os.map fun o=>ML ls b q o:=⟨_,F⟩
 have hm: ∀s,s∈Q↔ ∃b q o,(b=b0∨b=[0,0])∧q<(lf ls 1).d.next.length∧o∈os∧s=ML ls b q o:=fun s=>by
  rw[hQ]
  simp only[List.mem_flatMap,iu,fj,df,List.not_mem_nil,or_false]
  constructor
  ·rintro⟨b,hb,q,hq,o,ho,rfl⟩;exact⟨b,q,o,hb,hq,ho,F⟩
  ·rintro⟨b,q,o,hb,hq,ho,rfl⟩;exact⟨b,hb,q,hq,o,ho,F⟩
 have s0:=ez (hG.j4 k0).toVal
 have s1:=ez (hG.j4 k1).toVal
 have n0:=(hG.j4 k0).n0
 have n1:=(hG.j4 k1).n0
 refine OD (F1 hG) Q (fun s hs=>?_) ?_ (fun s hs x hx=>?_) ?_
 ·obtain⟨b,q,o,hb,hq,ho,rfl⟩:=(hm s).1 hs
  refine⟨?_,?_,fun c hc=>?_⟩
  ·rcases hb with rfl|rfl
   ·rw[It];exact qJ hG
   ·refine⟨by rw[h.len];rfl,fun k hk=>?_⟩
    rw[h.len]at hk
    rcases(show k=0∨k=1 by omega)with rfl|rfl
    ·exact n0
    ·exact n1
  ·show(_::_:List Cf).Nodup
   split
   ·rw[List.nodup_cons]
    exact⟨by rw[db];intro e;have:=ax Cf.k e;simp at this,by simp⟩
   ·simp
  ·rcases List.mem_cons.1 hc with rfl|hc
   ·exact .inr ⟨1,F,k1,hq,SI o ho⟩
   ·split at hc
    ·rw[List.mem_singleton.1 hc];exact .inl ⟨F,F,(SI o ho).mono (by omega)⟩
    ·simp at hc
 ·rw[LA h,hm]
  exact⟨_,_,_,.inl It.symm,s1,Xm _ s0,F⟩
 ·obtain⟨b,q,o,hb,hq,ho,rfl⟩:=(hm s).1 hs
  rw[OE h,hm]
  exact⟨_,_,_,.inr F,((hG.j4 k1).toVal.gV hq (by rw[hG.vars _ (ko k1)];exact hx)).1,ME o ho x hx,F⟩
 ·have:Q.length=2*((lf ls 1).d.next.length*((lf ls 0).d.next.length+1)):=by
   rw[hQ]
   have hl:os.length=(lf ls 0).d.next.length+1:=by rw[H8];simp
   simp only[List.flatMap_cons,List.flatMap_nil,cT,aF,List.length_flatMap,ar,hl]
   rw[show(fun _:Nat=>(lf ls 0).d.next.length+1)=Function.const Nat ((lf ls 0).d.next.length+1)from F,List.map_const,List.sum_replicate_nat,List.length_range]
   omega
  omega
end
end Go.Lx

namespace Go.Lx
open Go.RowKit
set_option maxRecDepth 100000
theorem aa2 {v:Nat} (hv:v≤6) (h7: ∀ {t:Rx},t.plain=true→t.sz≤7→jY v t 4096→(minOf v (gj t)).next.length≤11): ∀ {t:Rx},t.plain=true→t.sz≤8→jY v t 4096
 | .none,_,_=>bE (HasL.not (fG hv) (by decide)).len (by decide)
 | .empty,_,_=>bE ((nG (gm 0 0) hv (bs 1)).nX).len (by decide)
 | .letter p n,_,_=>bE ((nG (gm p n) hv (a8 1)).nX).len (by decide)
 | .not a,hp,hs=>by
  have hs:a.sz+1≤8:=hs
  have ih:=rv hv (t:=a) hp (by omega)
  have h1:=h7 (t:=a) hp (by omega) ih
  have h3:=(dG hv (a8 4096) (t:=a) hp ih).toHasL.H7
  have h4:(minOf v (gj a)).next.length*(minOf v (gj a)).next.length≤11*11:=Nat.mul_le_mul h1 h1
  exact⟨ih,bE (HasL.not h3 (by omega)).len (by omega)⟩
 | .star a,hp,hs=>by
  have hs:a.sz+1≤8:=hs
  have ih:=rv hv (t:=a) hp (by omega)
  have h1:=h7 (t:=a) hp (by omega) ih
  have h4:2^((minOf v (gj a)).next.length+1)≤2^12:=bO (by decide) (by omega)
  exact⟨ih,tk (dG hv (a8 4096) (t:=a) hp ih).valid (by omega)⟩
 | .je a b,hp,hs=>by
  have hs:a.sz+b.sz+1≤8:=hs
  simp only[Rx.plain,aM]at hp
  have pa:=a.dN;have pb:=b.dN
  have ia:=rv hv hp.1 (by omega)
  have ib:=rv hv hp.2 (by omega)
  have h1:=fX hv (a8 4096) hp.1 ia (by omega)
  have h2:=fX hv (a8 4096) hp.2 ib (by omega)
  have h6:vV a.sz*2^vV b.sz≤2048:=by
   have: ∀i,i≤6→ ∀j,j≤6→vV i*2^vV j≤2048:=by decide
   exact this _ (by omega) _ (by omega)
  have h7:(minOf v (gj a)).next.length*2^(minOf v (gj b)).next.length≤vV a.sz*2^vV b.sz:=Nat.mul_le_mul h1 (bO (by decide) h2)
  exact⟨ia,ib,mw (dG hv (a8 4096) hp.1 ia).valid (dG hv (a8 4096) hp.2 ib).valid (by omega)⟩
 | .jq a b,hp,hs=>by
  have hs:a.sz+b.sz+1≤8:=hs
  simp only[Rx.plain,aM]at hp
  have pa:=a.dN;have pb:=b.dN
  have ia:=rv hv hp.1 (by omega)
  have ib:=rv hv hp.2 (by omega)
  have h1:=bE (fX hv (a8 4096) hp.1 ia (by omega)) (jJ _ (by omega))
  have h2:=bE (fX hv (a8 4096) hp.2 ib (by omega)) (jJ _ (by omega))
  have h6:(minOf v (gj a)).next.length*(minOf v (gj b)).next.length≤8*8:=Nat.mul_le_mul h1 h2
  have ma:=dG hv (a8 4096) hp.1 ia
  have mb:=dG hv (a8 4096) hp.2 ib
  exact⟨ia,ib,A4 ma.valid mb.valid (by rw[ma.vars,mb.vars]) (a8 _) (by omega)⟩
 | .and a b,hp,hs=>by
  have hs:a.sz+b.sz+1≤8:=hs
  simp only[Rx.plain,aM]at hp
  have pa:=a.dN;have pb:=b.dN
  have ia:=rv hv hp.1 (by omega)
  have ib:=rv hv hp.2 (by omega)
  have h1:=bE (fX hv (a8 4096) hp.1 ia (by omega)) (jJ _ (by omega))
  have h2:=bE (fX hv (a8 4096) hp.2 ib (by omega)) (jJ _ (by omega))
  have h6:(minOf v (gj a)).next.length*(minOf v (gj b)).next.length≤8*8:=Nat.mul_le_mul h1 h2
  have ma:=dG hv (a8 4096) hp.1 ia
  have mb:=dG hv (a8 4096) hp.2 ib
  exact⟨ia,ib,A4 ma.valid mb.valid (by rw[ma.vars,mb.vars]) (a8 _) (by omega)⟩
 | .ahead a,hp,_=>absurd hp (by simp[Rx.plain])
 | .behind a,hp,_=>absurd hp (by simp[Rx.plain])
end Go.Lx

namespace Go.Lx
open Go.RowKit
set_option maxRecDepth 100000
def aa3:List En:=[⟨0,0,0,0⟩,⟨1,1,0x0,1⟩,⟨4,5,0x43434343444444444321,10⟩,⟨4,4,0x3333222230302211,5⟩,⟨8,4,0x33333333303030303021110033221100,3⟩,⟨8,8,0x3333333373737373736251403322110033333333737373737362514033221100,240⟩,⟨4,5,0x22222222212121214321,10⟩,⟨3,4,0x333222303221,5⟩,⟨8,5,0x4444444444444242444444444242424244332211,25⟩,⟨5,6,0x333335353333333222224433322221,27⟩,⟨8,6,0x555555555555555554545454222222223322332222221111,41⟩,⟨4,5,0x43434343222233332211,17⟩,⟨8,7,0x65656565656565656666666666666666222222226543654322221111,41⟩,⟨8,4,0x32103113222222223210321022221111,9⟩,⟨4,4,0x3333111111113210,3⟩,⟨4,5,0x33333333222243332210,11⟩,⟨8,7,0x54635463443344334433443354635463444444445454545444332211,97⟩,⟨8,6,0x405352104444444440040440405352104433221144332211,33⟩,⟨5,5,0x3333333331434313333133221,3⟩,⟨8,6,0x332211005342110033333333535353535342110033221100,3⟩,⟨4,4,0x3333333033103210,1⟩,⟨3,4,0x222222232100,6⟩,⟨3,5,0x333333343211111,12⟩,⟨8,7,0x66666666666666664433443365666566444444446565656544332211,74⟩,⟨4,4,0x1111313111112211,7⟩,⟨3,4,0x333222333210,8⟩,⟨8,6,0x444444444444444433333333545454545444445433221100,22⟩,⟨8,4,0x33333333323232233222111033221100,6⟩,⟨8,6,0x555555555555555554324352543243525432110054321100,26⟩,⟨8,6,0x555555555555555533333333545454545455555433221100,38⟩,⟨8,8,0x7676766776767667777777777777777777553300775533007654321076543210,86⟩,⟨8,8,0x7777777777777777765476457654764576763223767632237654321076543210,86⟩]
def XP:List (Nat×Nat):=[(7424,3280899),(14848,73735),(16384,1),(17152,508218707976),(21760,142857994249),(23296,508218707978),(24576,3280907),(24832,508218707980),(25088,306637381901),(27136,443539333892),(27648,3277070),(27904,587206927),(30208,508218707984),(30464,443794194705),(30976,443539333892),(32000,287764971538),(32768,442402939667),(33280,807407636),(66320,74261),(66576,74262),(66832,508218707991),(66839,215590506498),(67082,69559390232),(67087,2162969),(67088,443539333914),(67095,69559390214),(67096,508216680476),(67080,508216488453),(71685,508218707997),(71686,508218704155),(71682,443541553413),(74498,508218704158),(78594,508218704159)]
def OX (i:Nat):En:=aa3.getD i ⟨0,0,0,0⟩
noncomputable def lk7 (l:List (Nat×Nat)) (k:Nat):Nat:=List.rec (motive:=fun _=>Nat) 0 (fun y _ ih=>cond (Nat.beq k y.1) y.2 ih) l
noncomputable def TD (m:Mc) (L:List Nat):Bool:=yO L m.s0&&(x9 L (fun s=>vW m.c fun x=>fo (m.st s x) (yO L))&&Nat.ble L.length 11)
noncomputable def okF (m:Mc) (ct:Nat):Bool:=
 Nat.blt (ct%256) 32&&(vW m.c (fun x=>Nat.blt (((ct/256)>>>(4*x))%16) (OX (ct%256)).c)&&Ub m (OX (ct%256)) (ct/256) (LR m.c (fun s x=>m.st (s/16) x*16+(OX (ct%256)).to (s%16) (((ct/256)>>>(4*x))%16)) 80 [m.s0*16] [m.s0*16]))
noncomputable def OY (key:Nat) (m:Mc):Bool:=fo (lk7 XP key) fun ct=>cond (Nat.beq ct 0) (TD m (LR m.c m.st 12 [m.s0] [m.s0])) (okF m ct)
theorem aa4:((List.range 31).all fun i=>Nat.ble (OX (i+1)).n 11&&(Nat.blt 0 (OX (i+1)).n&&vW (OX (i+1)).n fun s=>vW (OX (i+1)).c fun x=>Nat.blt ((OX (i+1)).to s x) (OX (i+1)).n))=true:=by kernel_rfl
theorem GQ {v:Nat} (hv:v≤6) {key:Nat} {m:Mc} {p:Lg} (h:OY key m=true) (hr:tL v m p): ∃D,HasL (v:Int) 11 D p:=by
 unfold OY at h
 rw[Dd]at h
 generalize lk7 XP key=ct at h
 cases hb:Nat.beq ct 0 with
 |true=>
  rw[hb]at h
  have h:TD m (LR m.c m.st 12 [m.s0] [m.s0])=true:=h
  generalize LR m.c m.st 12 [m.s0] [m.s0]=L at h
  unfold TD at h
  rw[aM,aM,uL]at h
  obtain⟨h1,h2,h3⟩:=h
  have h3:=Nat.le_of_ble_eq_true h3
  obtain⟨D,hD⟩:=sF hv hr (L:=L) (qQ.1 h1) (fun s hs x hx=>by have:=kY.1 (h2 s hs) x hx;rwa[Dd,qQ]at this) (by omega)
  exact⟨D,hD.le (bE hD.len h3)⟩
 |false=>
  rw[hb]at h
  have h:okF m ct=true:=h
  unfold okF at h
  rw[aM,aM,kY]at h
  obtain⟨h0,h1,h2⟩:=h
  have h0:ct%256<32:=Nat.le_of_ble_eq_true h0
  have KO:=Gv h2 (fun x hx=>by have:=h1 x hx;exact Nat.le_of_ble_eq_true this) hr
  have hz:ct%256≠0:=by
   intro hz
   rw[hz]at KO
   obtain⟨k,k1,_⟩:=KO
   exact absurd (k1 0 (Nat.pos_of_ne_zero (by simp))) (by show¬k 0<0;omega)
  have h4:=List.all_eq_true.1 aa4 (ct%256-1) (List.mem_range.2 (by omega))
  rw[show ct%256-1+1=ct%256 by omega,aM,aM,kY]at h4
  exact GB hv KO (Nat.le_of_ble_eq_true h4.1) (by decide) (Nat.le_of_ble_eq_true h4.2.1) (fun s hs x hx=>Nat.le_of_ble_eq_true (kY.1 (h4.2.2 s hs) x hx))
noncomputable def E9 (op i j:Nat) (f:En→En→Mc):Bool:=(IC.getD i []).all fun x=>(IC.getD j []).all fun y=>OY ((op*256+x)*256+y) (f (ml x) (ml y))
theorem tU {v:Nat} (hv:v≤6) {op i j:Nat} {f:En→En→Mc} (h:E9 op i j f=true) {a b:En} (ha:MM i a) (hb:MM j b) {p:Lg} (hr:tL v (f a b) p): ∃D,HasL (v:Int) 11 D p:=by
 obtain⟨x,hx,rfl⟩:=ha
 obtain⟨y,hy,rfl⟩:=hb
 exact GQ hv (List.all_eq_true.1 (List.all_eq_true.1 h x hx) y hy) hr
theorem s7:((IC.getD 6 []).all fun i=>OY (i*256) (np (ml i)))=true:=by kernel_rfl
theorem c15:E9 1 1 5 oH=true:=by kernel_rfl
theorem c24:E9 1 2 4 oH=true:=by kernel_rfl
theorem c33:E9 1 3 3 oH=true:=by kernel_rfl
theorem c42:E9 1 4 2 oH=true:=by kernel_rfl
theorem c51:E9 1 5 1 oH=true:=by kernel_rfl
theorem o15:E9 2 1 5 (lh or)=true:=by kernel_rfl
theorem o24:E9 2 2 4 (lh or)=true:=by kernel_rfl
theorem o33:E9 2 3 3 (lh or)=true:=by kernel_rfl
theorem a15:E9 3 1 5 (lh and)=true:=by kernel_rfl
theorem a24:E9 3 2 4 (lh and)=true:=by kernel_rfl
theorem a33:E9 3 3 3 (lh and)=true:=by kernel_rfl
theorem c7 {i j:Nat} (hi:1≤i) (hj:1≤j) (h:i+j=6):E9 1 i j oH=true:=by
 rcases(show(i=1∧j=5)∨(i=2∧j=4)∨(i=3∧j=3)∨(i=4∧j=2)∨(i=5∧j=1) by omega)with⟨rfl,rfl⟩|⟨rfl,rfl⟩|⟨rfl,rfl⟩|⟨rfl,rfl⟩|⟨rfl,rfl⟩
 ·exact c15
 ·exact c24
 ·exact c33
 ·exact c42
 ·exact c51
theorem o7 {i j:Nat} (hi:1≤i) (Ys:i≤j) (h:i+j=6):E9 2 i j (lh or)=true∧E9 3 i j (lh and)=true:=by
 rcases(show(i=1∧j=5)∨(i=2∧j=4)∨(i=3∧j=3) by omega)with⟨rfl,rfl⟩|⟨rfl,rfl⟩|⟨rfl,rfl⟩
 ·exact⟨o15,a15⟩
 ·exact⟨o24,a24⟩
 ·exact⟨o33,a33⟩
theorem Io {v:Nat} (hv:v≤6): ∀ {t:Rx},t.plain=true→t.sz=7→ ∃D,HasL (v:Int) 11 D (gj t)
 | .none,_,hs=>absurd hs (by decide)
 | .empty,_,hs=>absurd hs (by decide)
 | .letter p n,_,hs=>absurd (show 1=7 from hs) (by decide)
 | .not a,hp,hs=>by
  have hs:a.sz+1=7:=hs
  obtain⟨e,h1,h2⟩:=iH (v:=v) a hp (by omega)
  have hk:a.sz=6:=by omega
  rw[hk]at h1
  obtain⟨_,h3,h4,h5⟩:=A6 h1 (a8 6)
  have hb:e.n≤8:=h3
  obtain⟨D,hD⟩:=sF hv (Gw h2) (L:=List.range e.n) (List.mem_range.2 h4) (fun s hs x hx=>List.mem_range.2 (h5 s (List.mem_range.1 hs) x hx)) (by simp;omega)
  exact⟨D,hD.le (bE hD.len (by simp;omega))⟩
 | .star a,hp,hs=>by
  have hs:a.sz+1=7:=hs
  obtain⟨e,h1,h2⟩:=iH (v:=v) a hp (by omega)
  have hk:a.sz=6:=by omega
  rw[hk]at h1
  have hf:=(A6 h1 (a8 6)).1
  obtain⟨i,hi,rfl⟩:=h1
  exact GQ hv (List.all_eq_true.1 s7 i hi) (Df hf h2)
 | .je a b,hp,hs=>by
  have hs:a.sz+b.sz+1=7:=hs
  simp only[Rx.plain,aM]at hp
  have pa:=a.dN;have pb:=b.dN
  obtain⟨e,h1,h2⟩:=iH (v:=v) a hp.1 (by omega)
  obtain⟨f,k1,k2⟩:=iH (v:=v) b hp.2 (by omega)
  exact tU hv (c7 pa pb (by omega)) h1 k1 (Gy h2 k2)
 | .jq a b,hp,hs=>by
  have hs:a.sz+b.sz+1=7:=hs
  simp only[Rx.plain,aM]at hp
  have pa:=a.dN;have pb:=b.dN
  obtain⟨e,h1,h2⟩:=iH (v:=v) a hp.1 (by omega)
  obtain⟨f,k1,k2⟩:=iH (v:=v) b hp.2 (by omega)
  rcases Nat.le_total a.sz b.sz with c|c
  ·exact tU hv (o7 pa c (by omega)).1 h1 k1 (qR or h2 k2)
  ·exact tU hv (o7 pb c (by omega)).1 k1 h1 ((qR or k2 h2).to (q:=gj (.jq a b)) fun w=>Bool.or_comm _ _)
 | .and a b,hp,hs=>by
  have hs:a.sz+b.sz+1=7:=hs
  simp only[Rx.plain,aM]at hp
  have pa:=a.dN;have pb:=b.dN
  obtain⟨e,h1,h2⟩:=iH (v:=v) a hp.1 (by omega)
  obtain⟨f,k1,k2⟩:=iH (v:=v) b hp.2 (by omega)
  rcases Nat.le_total a.sz b.sz with c|c
  ·exact tU hv (o7 pa c (by omega)).2 h1 k1 (qR and h2 k2)
  ·exact tU hv (o7 pb c (by omega)).2 k1 h1 ((qR and k2 h2).to (q:=gj (.and a b)) fun w=>Bool.and_comm _ _)
 | .ahead a,hp,_=>absurd hp (by simp[Rx.plain])
 | .behind a,hp,_=>absurd hp (by simp[Rx.plain])
theorem ok8 {v:Nat} (hv:v≤6) {t:Rx} (hp:t.plain=true) (hs:t.sz≤8):jY v t 4096:=by
 refine aa2 hv (fun {t} hp hs ho=>?_) hp hs
 by_cases h:t.sz≤6
 ·have h1:=fX hv (a8 4096) hp ho h
  have h2:=jJ t.sz h
  omega
 ·obtain⟨D,hD⟩:=Io hv hp (show t.sz=7 by omega)
  exact(dG hv (a8 4096) hp ho).xx hD
end Go.Lx

namespace Go.Lx
open Go.RowKit Go.Proofs.YtgdbfideeeegmaaGreatDoor
abbrev PR.Zx (x:PR):List Value:=[.bool (decide (x.k=1)),.bool (decide (x.k=2)),.bool (decide (x.k=3)),.slice x.r.b x.r.e.length x.r.c]
abbrev PR.adH (x:PR):Value:=.agg #[.bool (decide (x.k=1)),.bool (decide (x.k=2)),.bool (decide (x.k=3)),.slice x.r.b x.r.e.length x.r.c]
end Go.Lx

namespace Go.Proofs.YtgdbfideeeegmaaGreatDoor
open Go.Lx Go.RowKit _root_.Go.Proofs.Tryz
end Go.Proofs.YtgdbfideeeegmaaGreatDoor

namespace Go.Proofs.YtgdbfideeeegmaaGreatDoor
open Go.Lx Go.RowKit _root_.Go.Proofs.Tryz
end Go.Proofs.YtgdbfideeeegmaaGreatDoor

namespace Go.Proofs.YtgdbfideeeegmaaGreatDoor
open Go.Lx Go.RowKit _root_.Go.Proofs.Tryz
theorem RD (w:World) [dB Tryz.prog w] (d:cM) (k:DK) (h:At w d k) (hb:d.next.length<9223372036854775807) (qV: ∀r∈d.next,r.length<9223372036854775807) (rP:d.aV.length<9223372036854775807) (he: ¬cX d=0):
  cA Tryz.prog 14 [(dV d k)] w (fun v N=> ∃b c,v=.tuple #[.slice b ([]:List eE).length c,vN (cX d)]∧N=[aq b c 72 5 (bX ([]:List eE))]):=by
 refine aG func14 F ntmps14 F ?_
 refine ai (ao F (dE (cs:=(dC d k)) F F (fun z1=>?_)))
 refine aj F (aj F (ae (ai (ad (ew 0 cS F bK F F F) ?_))))
 have tu:=fun(w1:World) (hI:Inv w [oI z1 25 (dC d k)] w1)=>(haveI:=ey hI;(show cA _ _ _ _ _ from by
   have h9:=RE w1 d k (hI.oP h) hb qV rP (fun h=>absurd (dO.2 h) he)
   exact h9))
 refine ao F (bm xm (aX tu) F ?_)
 clear tu
 rintro vr O' ⟨N,rfl,k2,rfl,rfl⟩
 refine ah F (ad (bG (vs:=_) F F) (ad (bG (vs:=_) F F) (ao F (bu bK F (fun z2=>?_)))))
 refine ao F (bV (vs:=(dC (rO d) k2)) 0 bK F F F F ?_)
 refine aj F (ae (aO (ai (ah F (ad (aA (dP F F) (av (by have:=he;omega))) (ae ?_))))))
 refine bW F ?_
 refine aO (T.eY 72 5 ?_)
 refine be (ah F (aj F (aj F (ae (aN (az ?_))))))
 refine dc nS (vN (cX d)) Tryz.results14 F F ?_
 exact⟨[aq none 0 72 5 []],(by exact Sub.k .z),none,0,F,F⟩
end Go.Proofs.YtgdbfideeeegmaaGreatDoor

namespace Go.Proofs.YtgdbfideeeegmaaGreatDoor
open Go.Lx Go.RowKit _root_.Go.Proofs.Tryz
theorem Ps (w:World) [dB Tryz.prog w] (d:cM) (k:DK) (h:At w d k) (hv:Valid d) (hn:d.next.length<10000) {M:cM} (hM:fJ d=M):
  cA Tryz.prog 14 [(dV d k)] w (fun v N=> ∃b c,v=.tuple #[.slice b (vM M).length c,vN (BV M)]∧N=[aq b c 72 5 (bX (vM M))]):=by
 refine aG func14 F ntmps14 F ?_
 have Hv:Valid M:=by rw[←hM];exact lu hv
 have Y8:=Hv.n4
 have Q2:=Hv.n0
 have hL:dT M≤64:=bO (by decide) (show M.vars.toNat≤6 by have:=Hv.v6;have:=Hv.v0;omega)
 have Iv:dT M≤256:=by omega
 refine ai (ao F (dE (cs:=(dC d k)) F F (fun z1=>?_)))
 refine aj F (aj F (ae (ai (ad (ew 0 cS F bK F F F) (ao F (bm xm (aX fun w1 hI=>(haveI:=ey hI;B2 w1 d k (hI.oP h) hv hn hM)) F ?_))))))
 rintro vr O' ⟨N,rfl,k2,rfl,rfl⟩
 refine ah F (ad (bG (vs:=_) F F) (ad (bG (vs:=_) F F) (ao F (bu bK F (fun z2=>?_)))))
 refine ao F (bV (vs:=(dC M k2)) 0 bK F F F F ?_)
 refine aj F (ae (aO (ai (ah F (ad (aA (dP F F) (ak (by decide))) (ae (a_ F (aE (aO ?_)))))))))
 let iB:Lx.Item:=oI z2 25 (dC M k2)
 refine dv (O':=[dI 56 4 3 M k2,iB]) (by exact Sub.eQ [iB] _ (.k .z)) ?_
 refine D3 (fun zr=>?_)
 let gd:Lx.Item:=aq k2.fb k2.fc 4 1 (cE M.aV)
 let gG:Lx.Item:=aq k2.nb k2.nc 56 1 (dl k2.qs)
 refine dv (O':=([gG,gd,iB]++ce 3 k2.qs)) (by exact gK [gG,gd] _ (ce 3 k2.qs)) ?_
 have Hw:=Jq zr
 refine be (ad (bj cS F fa F F) (ad (bn 2 eI F F F F) (ad (cP eI F) (aj F (ae (ai (ad (cF (cs:=[.int .u8 1,(.int .u8 0),(.int .u8 0),(vI 0),(vI 0)]) mV cK (by kernel_rfl)) (ao F (bm BU (aX fun w1 hI=>(haveI:=ey hI;xj w1 1 ⟨1,0,0,0,0⟩)) F ?_)))))))))
 rintro vr O' ⟨N,rfl,q0,c0,rfl,rfl,Aj,B3⟩
 have qn:f_ q0 c0.r:=B3.elim id (fun h=>absurd h (by simp))
 refine ef (O':=([gG,gd,iB]++((dr 72 q0)++(ce 3 k2.qs)))) (by exact fE [] _ (dr 72 q0) (ce 3 k2.qs)) ?_
 refine ao F (bu de F (fun z3=>?_))
 refine ao F (bV (vs:=c0.cells) 0 de F F F F ?_)
 refine ae (ai (ah F (ao F (cW (m:=M.next.length) xn oq F F (by omega) (by omega) (fun z4=>?_)))))
 refine aj F (ae (aO (ai (ad (bj cS F fa F F) (ad (bn 4 eI F F F F) (ad (cP eI F) (ah F (ae (aU ?_)))))))))
 let jw:Lx.Item:=oI z3 69 c0.cells
 let k7:Value:=(.slice (aD z4) M.next.length M.next.length)
 let pf:Value:=(.pointer (aD z1))
 let As:Value:=(.slice k2.nb M.next.length k2.nc)
 let yF:Value:=(.pointer (aD z2))
 let xo:Value:=(.pointer (aD z3))
 refine dM (fun(R:List MR) ρ O=> ∃(p:List ER),O=([aq (aD z4) M.next.length 75 1 (iU R M.next.length),jw,gG,gd,iB]++(dr 72 p++(eF 69 R++ce 3 k2.qs)))∧R.length≤M.next.length∧pN R p M.next.length (kN M 0)∧f_ p c0.r∧dt [(0,(dV d k)),(1,pf),(2,nS),(3,vI 0),(4,yF),(5,vI 0),(6,vI (M.next.length:Int)),(7,xo),(8,k7),(38,As),(39,vI (M.next.length:Int)),(40,vN R.length)] ρ) (fun R=>M.next.length-R.length) [] ?_ ?_
 ·exact⟨q0,by unfold iU ky;rfl,bs _,.nil,qn,(.of F)⟩
 rintro R ρ O ⟨p,rfl,hs,hR,qn,hH⟩
 obtain⟨gP,rfl⟩:=hH.elim
 clear hH
 have adr:fB c0.pp:=by rw[Aj];exact xl
 refine ai (ad (cR F F) (ae (aO (aP F (fun hc=>?_) (fun hc=>?_)))))
 ·have xp:R.length<M.next.length:=by omega
  have vP:R.length<k2.qs.length:=by omega
  refine aE (aO (aU (ai (ah F (ad (dZ (i:=R.length) eI cU F F (dX (mG 2 F)) xp (by rw[ar];exact vP)) (ad (c_ cI F F (dX (mG 2 F)) (Jr vP)) (aj F (aj F (ae (ai (ah F (ah F (ae (aU (T.eY 69 2 ?_)))))))))))))))
  let ul:Value:=(.slice k2.qs[R.length].b k2.qs[R.length].xs.length k2.qs[R.length].c)
  refine dM (fun(l:List PR) ρ O=> ∃(p2:List ER) (cb:Option Addr) (cc:Nat),O=([aq cb cc 69 2 (eD l),aq (aD z4) M.next.length 75 1 (iU (R++[⟨cb,cc,l⟩]) M.next.length),jw,gG,gd,iB]++(dr 72 p2++(eF 69 R++ce 3 k2.qs)))∧l.length≤M.next.length∧vO l p2 (kN M 0 R.length)∧pN R p2 M.next.length (kN M 0)∧f_ p2 c0.r∧dt [(0,(dV d k)),(1,pf),(2,nS),(3,vI 0),(4,yF),(5,vI 0),(6,vI (M.next.length:Int)),(7,xo),(8,k7),(9,vN R.length),(10,ul),(38,As),(39,vI (M.next.length:Int)),(40,vN R.length),(45,vI (M.next.length:Int)),(46,vN l.length)] ρ) (fun l=>M.next.length-l.length) [] ?_ ?_
  ·exact⟨p,none,0,by rw[BY xp];rfl,bs _,.nil,hR,qn,(.of F)⟩
  rintro l ρ O ⟨p2,cb,cc,rfl,ht,hl,yr,qn,hH⟩
  obtain⟨gP,rfl⟩:=hH.elim
  clear hH
  refine ai (ad (cR F F) (ae (aO (aP F (fun hc=>?_) (fun hc=>?_)))))
  ·have ot:l.length<M.next.length:=by omega
   refine aE (aO (aU (ai (ah F (aj F (ae (ai (ad (ew 2 fU F de F F F) (ao F (bu de F (fun z5=>?_)))))))))))
   refine ao F (bV (vs:=c0.cells) 0 de F F F F ?_)
   refine ae ?_
   let k8:Lx.Item:=aq (aD z4) M.next.length 75 1 (iU (R++[⟨cb,cc,l⟩]) M.next.length)
   let oQ:Lx.Item:=aq cb cc 69 2 (eD l)
   refine gh (fun ρ O=> ∃(p3:List ER) (pc:PR),Sub ([oI z5 69 pc.cells,oQ,k8,jw,gG,gd,iB]++(dr 72 p3++(eF 69 R++ce 3 k2.qs))) O∧pc.pp=DB M R.length l.length 0∧f_ p3 pc.r∧(∀y∈p2,y∈p3)∧dt [(0,(dV d k)),(1,pf),(2,nS),(3,vI 0),(4,yF),(5,vI 0),(6,vI (M.next.length:Int)),(7,xo),(8,k7),(9,vN R.length),(10,ul),(11,vN l.length),(12,(.pointer (aD z5))),(38,As),(39,vI (M.next.length:Int)),(40,vN R.length),(45,vI (M.next.length:Int)),(46,vN l.length)] ρ) ?_ ?_
   ·refine aO ?_
    refine be (ah F (ah F (ad (bM F F) (ae (aP F (fun hc=>?_) (fun hc=>?_))))))
    ·have Pc:R.length=l.length:=by omega
     refine be (ad (cF (cs:=[.int .u8 2,(.int .u8 0),(.int .u8 0),(vI 0),(vI 0)]) mV cK (by kernel_rfl)) (ao F (bm BU (aX fun w1 hI=>(haveI:=ey hI;xj w1 2 ⟨2,0,0,0,0⟩)) F ?_)))
     rintro vr O' ⟨N,rfl,q1,c1,rfl,rfl,yG,B3⟩
     have Nb:f_ (q1++p2) c1.r:=u9 B3 (fun x hx=>by simp at hx)
     refine ef (O':=([oI z5 69 c0.cells,oQ,k8,jw,gG,gd,iB]++((dr 72 q1)++(dr 72 p2++(eF 69 R++ce 3 k2.qs))))) (by exact fE [] _ (dr 72 q1) (dr 72 p2++(eF 69 R++ce 3 k2.qs))) ?_
     refine ao F (bV (vs:=c1.cells) 0 de F F F F ?_)
     refine ae ?_
     exact⟨(q1++p2),c1,(by rw[qi,aI];exact Sub.rf),by rw[yG];unfold DB;rw[aR (by omega)];rfl,Nb,fun y hy=>am _ hy,(.of F)⟩
    have Ff: ¬R.length=l.length:=by omega
    refine aE ?_
    exact⟨p2,c0,(by exact Sub.rf),by rw[Aj];unfold DB;rw[ay (by omega)];rfl,qn,fun y hy=>hy,(.of F)⟩
   rintro ρ O ⟨p3,pc,hS,Dy,Y9,Nc,hH⟩
   obtain⟨gP,rfl⟩:=hH.elim
   clear hH
   refine dv hS ?_
   refine aO (ai (ah F (ad (bT (cP cI F) (v':=vN (dT M)) (by rw[Ar zr Hv.toVal vP])) (ah F (ae (aU ?_))))))
   refine dM (fun(x:Nat) ρ O=> ∃(p4:List ER) (pd:PR),O=([oI z5 69 pd.cells,oQ,k8,jw,gG,gd,iB]++(dr 72 p4++(eF 69 R++ce 3 k2.qs)))∧x≤dT M∧pd.pp=DB M R.length l.length x∧f_ p4 pd.r∧(∀y∈p2,y∈p4)∧dt [(0,(dV d k)),(1,pf),(2,nS),(3,vI 0),(4,yF),(5,vI 0),(6,vI (M.next.length:Int)),(7,xo),(8,k7),(9,vN R.length),(10,ul),(11,vN l.length),(12,(.pointer (aD z5))),(38,As),(39,vI (M.next.length:Int)),(40,vN R.length),(45,vI (M.next.length:Int)),(46,vN l.length),(55,ul),(56,vN (dT M)),(57,vN x)] ρ) (fun x=>dT M-x) 0 ?_ ?_
   ·exact⟨p3,pc,F,bs _,Dy,Y9,Nc,(.of F)⟩
   rintro x ρ O ⟨p4,pd,rfl,hx,Nd,Hy,Jt,hH⟩
   obtain⟨gP,rfl⟩:=hH.elim
   clear hH
   refine ai (ad (cR F F) (ae (aO (aP F (fun hc=>?_) (fun hc=>?_)))))
   ·have Fz:x<dT M:=by omega
    refine aE (aO (aU (ai (ah F (ad (dZ (i:=x) cI bl F F (dX (am _ (am _ (am _ ((Js vP)))))) (by rw[Ar zr Hv.toVal vP];exact Fz) (by rw[ar,Ar zr Hv.toVal vP];exact Fz)) (ad (c_ dS F F (dX (am _ (am _ (am _ ((Js vP)))))) (U0 zr Hv.toVal vP Fz)) (aj F (aj F (ae (ai (ah F (ah F (ad (bM F F) (ae (aP F (fun hc=>?_) (fun hc=>?_))))))))))))))))
    ·have abB:e7 M R.length x=l.length:=by omega
     refine fQ [(0,0),(1,0),(2,0),(3,0),(4,0),(5,0),(6,0),(7,0),(8,0),(9,0),(10,1),(11,2),(12,2)] ?_
     refine au F (ew 0 fU F de F F F) (au F (aK F) (au F (fS dS fF F (by first|rfl|exact gO ⟨by omega,by omega⟩|exact qg (by omega)|exact nA (by omega))) (au F (aK F) (au F (bT (cP cI F) (v':=vN (dT M)) (by rw[Ar zr Hv.toVal vP])) (au F (sa (a:=(dT M)) (b:=1) F F (by omega) (by omega)) (au F (aK F) (au F (sa (a:=((dT M)-1)) (b:=x) F F (by omega) (by omega)) (au F (fS dS fF F (by first|rfl|exact gO ⟨by omega,by omega⟩|exact qg (by omega)|exact nA (by omega))) (au F (cF (cs:=[.int .u8 3,v8 x,v8 (((dT M)-1)-x),(vI 0),(vI 0)]) mV cK (by kernel_rfl)) ?_)))))))))
     refine cx F F (bm BU (aX fun w1 hI=>(haveI:=ey hI;xj w1 0 ⟨3,x,dT M-1-x,0,0⟩)) F ?_)
     rintro vr O' ⟨N,rfl,q2,c2,rfl,rfl,rG,B3⟩
     refine⟨mS _ (by exact Sub.rf),?_⟩
     have Ju:f_ (q2++p4) c2.r:=u9 B3 (fun x hx=>by simp at hx)
     have Hy:=Hy.mono (fun y hy=>am q2 hy)
     have Y_:fB pd.pp:=by rw[Nd];exact s6 Iv _ _ _ hx
     have Nf:fB c2.pp:=by rw[rG];exact BW Fz Iv
     let Jv:List Lx.Item:=[oI z5 69 pd.cells,oQ,k8,jw,gG,gd,iB]
     refine eW (O':=(Jv++((dr 72 q2)++(dr 72 p4++(eF 69 R++ce 3 k2.qs))))) (by exact fE [] _ (dr 72 q2) (dr 72 p4++(eF 69 R++ce 3 k2.qs))) ?_
     refine cu F F (bm Jw (aX fun w1 hI=>(haveI:=ey hI;Rg w1 pd c2 (f_.sl (T:=72) hI (kO (fun it fC=>am _ (aQ _ fC)) (fun it fC=>am _ (am _ (aQ _ fC)))) Hy) Y_ (f_.sl (T:=72) hI (kO (fun it fC=>am _ (aQ _ fC)) (fun it fC=>am _ (am _ (aQ _ fC)))) Ju) Nf)) F ?_)
     rintro vr O' ⟨N,rfl,q3,c3,rfl,rfl,X8,B3⟩
     have Ng:f_ (q3++(q2++p4)) c3.r:=u9 B3 (fun x hx=>by simp only[df,List.not_mem_nil,or_false]at hx;rcases hx with rfl|rfl;exact Hy;exact Ju)
     
     refine eW (O':=(Jv++((dr 72 q3)++((dr 72 q2)++(dr 72 p4++(eF 69 R++ce 3 k2.qs)))))) (by exact fE [] _ (dr 72 q3) ((dr 72 q2)++(dr 72 p4++(eF 69 R++ce 3 k2.qs)))) ?_
     refine cu F F (bV (vs:=c3.cells) 0 de F F F F ?_)
     refine eW (O':=([oI z5 69 c3.cells,oQ,k8,jw,gG,gd,iB]++(dr 72 (q3++(q2++p4))++(eF 69 R++ce 3 k2.qs)))) (by simp only[qi,aI];exact Sub.rf) ?_
     refine cy ?_
     refine be (ad (dx (a:=x) (b:=1) F F (by omega)) (ah F (ae ?_)))
     have e9:c3.pp=DB M R.length l.length (x+1):=by rw[X8,rG,Nd,DB,aR (by omega)];rfl
     exact⟨x+1,by omega,[oI z5 69 c3.cells,oQ,k8,jw,gG,gd,iB]++(dr 72 (q3++(q2++p4))++(eF 69 R++ce 3 k2.qs)),(by exact Sub.rf),(q3++(q2++p4)),c3,F,by omega,e9,Ng,fun y hy=>am _ (am _ (Jt y hy)),(.of F)⟩
    have abC: ¬e7 M R.length x=l.length:=by omega
    refine aE (be (ad (dx (a:=x) (b:=1) F F (by omega)) (ah F (ae ?_))))
    exact⟨x+1,by omega,[oI z5 69 pd.cells,oQ,k8,jw,gG,gd,iB]++(dr 72 p4++(eF 69 R++ce 3 k2.qs)),(by exact Sub.rf),p4,pd,F,by omega,by unfold DB;rw[ay (by omega)];exact Nd,Hy,Jt,(.of F)⟩
   have abD: ¬x<dT M:=by omega
   refine cG ?_
   refine T.ds ([oI z5 69 pd.cells,k8,jw,gG,gd,iB]++(dr 72 p4++(eF 69 R++ce 3 k2.qs))) [(0,0),(1,0),(2,0),(3,0),(4,0),(5,0),(6,0),(7,1),(8,1),(9,0),(10,2)] (by exact Sub.k (.d (.k (.k (.k (.k (.k .rf))))))) ?_
   refine au F (aK F) (au F (aK F) (au F (aK F) (au F (aK F) (au F (dZ (i:=R.length) xn oq F F (dX (mG 1 F)) xp (by rw[lV (by simp;omega)];exact xp)) (au F (c_ lU F F (dX (mG 1 F)) (BZ (by omega) ⟨cb,cc,l⟩)) (au F (ew 0 fU F de F F F) ?_))))))
   refine cx F F (cH (m:=1) (parts:=[(0,_)]) (cs:=pd.cells) lU de (by decide) (by kernel_rfl) F (fun z6=>⟨by exact Sub.d (.k (.d (.k (.k (.k (.k (.k .rf))))))),?_⟩))
   refine cx F F (dh 2 lU lU de F F F F (by rw[gZ]) (by decide) (Src.row (j:=0) F (by simp)) (by simp[fu]) (by dsimp only;omega) (by decide) (by decide) (fun z7 B4=>⟨by exact Sub.d (.k (.d (.k (.k (.k (.k (.k .rf))))))),?_⟩))
   refine au F (dZ (i:=R.length) xn oq F F (dX (mG 1 F)) xp (by rw[lV (by simp;omega)];exact xp)) ?_
   refine cu F F (n7 (j:=R.length) (v:=(.slice z7 (l.length+1) B4)) (vs:=[(.slice z7 (l.length+1) B4)]) (cs:=iU (R++[⟨cb,cc,l⟩]) M.next.length) 3 oq F F F F F (by simp) F (by rw[lV (by simp;omega)];simp;omega) ?_)
   let Hz:Lx.Item:=aq (aD z4) M.next.length 75 1 (iU (R++[⟨z7,B4,l++[pd]⟩]) M.next.length)
   refine eW (O':=([aq (aD z6) 1 69 2 pd.cells,oI z5 69 pd.cells,aq z7 B4 69 2 ((eD l)++pd.cells),Hz,jw,gG,gd,iB]++(dr 72 p4++(eF 69 R++ce 3 k2.qs)))) (by rw[show fe (iU (R++[⟨cb,cc,l⟩]) M.next.length) R.length [(.slice z7 (l.length+1) B4)]=iU (R++[⟨z7,B4,l++[pd]⟩]) M.next.length from(by rw[←zq (by omega) ⟨cb,cc,l⟩ ⟨z7,B4,l++[pd]⟩,show(⟨z7,B4,l++[pd]⟩:MR).val=.slice z7 (l.length+1) B4 by simp[MR.val]];rfl)];exact cj (aZ _)) ?_
   refine cy ?_
   refine be (ad (dx (a:=l.length) (b:=1) F F (by omega)) (ah F (ae ?_)))
   exact⟨l++[pd],by simp;omega,[aq z7 B4 69 2 (eD (l++[pd])),Hz,jw,gG,gd,iB]++(dr 72 p4++(eF 69 R++ce 3 k2.qs)),(by rw[s4];exact(by exact Sub.d (.d (.k (.k (.k (.k (.k (.k .rf))))))))),p4,z7,B4,F,by simp;omega,(hl.mono Jt).snoc (Nd.trans (by rw[show x=dT M by omega];rfl)) Hy,yr.mono Jt,qn.mono Jt,⟨F,F,F,F,F,F,F,F,F,F,F,F,F,F,F,(ax (fun n9:Nat=>Value.int .i64 ((n9:Nat):Int)) (show l.length+1=(l++[pd]).length by simp)),trivial⟩⟩
  have ou: ¬l.length<M.next.length:=by omega
  refine cG ?_
  refine be (ad (dx (a:=R.length) (b:=1) F F (by omega)) (ah F (ae ?_)))
  have Pt:l.length=M.next.length:=by omega
  exact⟨R++[⟨cb,cc,l⟩],by simp;omega,[aq (aD z4) M.next.length 75 1 (iU (R++[⟨cb,cc,l⟩]) M.next.length),jw,gG,gd,iB]++(dr 72 p2++(eF 69 (R++[⟨cb,cc,l⟩])++ce 3 k2.qs)),(by rw[BX];exact u_ [aq (aD z4) M.next.length 75 1 (iU (R++[⟨cb,cc,l⟩]) M.next.length),oI z3 69 c0.cells,aq k2.nb k2.nc 56 1 (dl k2.qs),aq k2.fb k2.fc 4 1 (cE M.aV),oI z2 25 (dC M k2)] [aq cb cc 69 2 (eD l),aq (aD z4) M.next.length 75 1 (iU (R++[⟨cb,cc,l⟩]) M.next.length),oI z3 69 c0.cells,aq k2.nb k2.nc 56 1 (dl k2.qs),aq k2.fb k2.fc 4 1 (cE M.aV),oI z2 25 (dC M k2)] (dr 72 p2) (eF 69 R) (ce 3 k2.qs) (aq cb cc 69 2 (eD l)) (by exact Sub.eQ [aq cb cc 69 2 (eD l)] _ (.eQ [aq cb cc 69 2 (eD l)] _ (.eQ [aq cb cc 69 2 (eD l)] _ (.eQ [aq cb cc 69 2 (eD l)] _ (.eQ [aq cb cc 69 2 (eD l)] _ (.k .z))))))),p2,F,by simp;omega,yr.snoc Pt hl,qn,⟨F,F,F,F,F,F,F,F,F,F,F,(ax (fun n9:Nat=>Value.int .i64 ((n9:Nat):Int)) (show R.length+1=(R++[(⟨cb,cc,l⟩:MR)]).length by simp)),trivial⟩⟩
 have U1: ¬R.length<M.next.length:=by omega
 refine cG ?_
 refine aO (ai (ah F (ah F (ae (aU ?_)))))
 have Za:R.length=M.next.length:=by omega
 have heV:=zp Za
 refine dM (fun(k9:Nat) ρ O=> ∃(R:List MR) (p:List ER) (ob:Option Addr) (oc:Nat),O=([aq ob oc 75 1 (ky R),jw,gG,gd,iB]++(dr 72 p++(eF 69 R++ce 3 k2.qs)))∧k9≤M.next.length∧R.length=M.next.length∧pN R p M.next.length (kN M k9)∧f_ p c0.r∧dt [(0,(dV d k)),(1,pf),(2,nS),(3,vI 0),(4,yF),(5,vI 0),(6,vI (M.next.length:Int)),(7,xo),(8,(.slice ob M.next.length oc)),(90,vI (M.next.length:Int)),(91,vN k9)] ρ) (fun k9=>M.next.length-k9) 0 ?_ ?_
 ·exact⟨R,p,(aD z4),M.next.length,by rw[heV],bs _,Za,hR,qn,(.of F)⟩
 rintro k9 ρ O ⟨R,p,ob,oc,rfl,vd,Za,hR,qn,hH⟩
 obtain⟨gP,rfl⟩:=hH.elim
 clear hH
 refine ai (ad (cR F F) (ae (aO (aP F (fun hc=>?_) (fun hc=>?_)))))
 ·have Pu:k9<M.next.length:=by omega
  refine aE (aO (aU (ai (ah F (aj F (ae (ai (ah F (ao F (cW (m:=M.next.length) xn oq F F (by omega) (by omega) (fun z9=>?_)))))))))))
  refine aj F (ae (aO (ai (ah F (ah F (ae (aU ?_)))))))
  let mg:Lx.Item:=aq ob oc 75 1 (ky R)
  refine dM (fun(R2:List MR) ρ O=> ∃(p2:List ER),O=([aq (aD z9) M.next.length 75 1 (iU R2 M.next.length),mg,jw,gG,gd,iB]++(dr 72 p2++(eF 69 R2++(eF 69 R++ce 3 k2.qs))))∧R2.length≤M.next.length∧pN R2 p2 M.next.length (kN M (k9+1))∧pN R p2 M.next.length (kN M k9)∧f_ p2 c0.r∧dt [(0,(dV d k)),(1,pf),(2,nS),(3,vI 0),(4,yF),(5,vI 0),(6,vI (M.next.length:Int)),(7,xo),(8,(.slice ob M.next.length oc)),(15,vN k9),(16,(.slice (aD z9) M.next.length M.next.length)),(90,vI (M.next.length:Int)),(91,vN k9),(96,vI (M.next.length:Int)),(97,vN R2.length)] ρ) (fun R2=>M.next.length-R2.length) [] ?_ ?_
  ·exact⟨p,by unfold iU ky;rfl,bs _,.nil,hR,qn,(.of F)⟩
  rintro R2 ρ O ⟨p2,rfl,hs,yr,hR,qn,hH⟩
  obtain⟨gP,rfl⟩:=hH.elim
  clear hH
  refine ai (ad (cR F F) (ae (aO (aP F (fun hc=>?_) (fun hc=>?_)))))
  ·have B5:R2.length<M.next.length:=by omega
   refine aE (aO (aU (ai (ah F (aj F (ae (ai (ah F (ah F (ae (aU (T.eY 69 2 ?_))))))))))))
   refine dM (fun(l:List PR) ρ O=> ∃(p3:List ER) (cb:Option Addr) (cc:Nat),O=([aq cb cc 69 2 (eD l),aq (aD z9) M.next.length 75 1 (iU (R2++[⟨cb,cc,l⟩]) M.next.length),mg,jw,gG,gd,iB]++(dr 72 p3++(eF 69 R2++(eF 69 R++ce 3 k2.qs))))∧l.length≤M.next.length∧vO l p3 (kN M (k9+1) R2.length)∧pN R2 p3 M.next.length (kN M (k9+1))∧pN R p3 M.next.length (kN M k9)∧f_ p3 c0.r∧dt [(0,(dV d k)),(1,pf),(2,nS),(3,vI 0),(4,yF),(5,vI 0),(6,vI (M.next.length:Int)),(7,xo),(8,(.slice ob M.next.length oc)),(15,vN k9),(16,(.slice (aD z9) M.next.length M.next.length)),(17,vN R2.length),(90,vI (M.next.length:Int)),(91,vN k9),(96,vI (M.next.length:Int)),(97,vN R2.length),(100,vI (M.next.length:Int)),(101,vN l.length)] ρ) (fun l=>M.next.length-l.length) [] ?_ ?_
   ·exact⟨p2,none,0,by rw[BY B5];rfl,bs _,.nil,yr,hR,qn,(.of F)⟩
   rintro l ρ O ⟨p3,cb,cc,rfl,ht,hl,U2,zu,qn,hH⟩
   obtain⟨gP,rfl⟩:=hH.elim
   clear hH
   refine ai (ad (cR F F) (ae (aO (aP F (fun hc=>?_) (fun hc=>?_)))))
   ·have Jx:l.length<M.next.length:=by omega
    have Dx:R2.length<R.length:=by omega
    have pO:k9<R.length:=by omega
    obtain⟨a1,ea1,Pv,B6⟩:=zu.at Dx Jx
    obtain⟨a2,ea2,U3,Nh⟩:=zu.at Dx Pu
    obtain⟨a3,ea3,ha3,U4⟩:=zu.at pO Pu
    obtain⟨a4,ea4,ha4,HA⟩:=zu.at pO Jx
    have Zb:fB a1.pp:=by rw[Pv];exact iJ Iv _ _ _
    have U5:fB a2.pp:=by rw[U3];exact iJ Iv _ _ _
    have U6:fB a3.pp:=by rw[ha3];exact iJ Iv _ _ _
    have U7:fB a4.pp:=by rw[ha4];exact iJ Iv _ _ _
    have adx:=zu.len _ (aL Dx)
    have ady:=zu.len _ (aL pO)
    refine aE (aO (aU (ai (ah F (aj F (ae ?_))))))
    let eJ:List Lx.Item:=[aq (aD z9) M.next.length 75 1 (iU (R2++[⟨cb,cc,l⟩]) M.next.length),aq ob oc 75 1 (ky R),oI z3 69 c0.cells,aq k2.nb k2.nc 56 1 (dl k2.qs),aq k2.fb k2.fc 4 1 (cE M.aV),oI z2 25 (dC M k2)]
    refine T.ds (eJ++(dr 72 p3++(eF 69 R2++(eF 69 R++ce 3 k2.qs)))) [(0,0),(1,0),(2,0),(3,0),(4,0),(5,0),(6,0),(7,0),(8,0),(9,0),(10,0),(11,0),(12,0),(13,0),(14,0),(15,0),(16,0),(17,0),(18,0),(19,0),(20,0),(21,0),(22,0),(23,0),(24,0),(25,0),(26,0),(29,0),(30,0),(31,0),(32,0),(33,0),(34,0),(35,0),(27,1),(28,1),(36,1),(37,1),(38,1),(39,1),(40,0),(41,2)] (by exact Sub.d (.k (.k (.k (.k (.k (.k .rf))))))) ?_
    refine au F (aK F) (au F (aK F) (au F (aK F) (au F (aK F) (au F (dZ (i:=R2.length) xn oq F F (dX (mG 0 F)) B5 (by rw[lV (by simp;omega)];exact B5)) (au F (c_ lU F F (dX (mG 0 F)) (BZ (by omega) ⟨cb,cc,l⟩)) (au F (aK F) (au F (aK F) (au F (dZ (i:=R2.length) xn oq F F (dX (mG 1 F)) (by omega) (by rw[oo];exact Dx)) (au F (c_ lU F F (dX (mG 1 F)) (om Dx)) (au F (aK F) (au F (dU (i:=l.length) lU de F F (dX (am _ (am _ (am _ (aQ _ (jX Dx)))))) (by omega) (by rw[gZ];omega)) (au F (eP (vs:=a1.cells) fU F de F F (bw _) (dX (am _ (am _ (am _ (aQ _ (jX Dx)))))) (mW ea1)) (au F (aK F) (au F (aK F) (au F (dZ (i:=R2.length) xn oq F F (dX (mG 1 F)) (by omega) (by rw[oo];exact Dx)) (au F (c_ lU F F (dX (mG 1 F)) (om Dx)) (au F (aK F) (au F (dU (i:=k9) lU de F F (dX (am _ (am _ (am _ (aQ _ (jX Dx)))))) (by omega) (by rw[gZ];omega)) (au F (eP (vs:=a2.cells) fU F de F F (bw _) (dX (am _ (am _ (am _ (aQ _ (jX Dx)))))) (mW ea2)) (au F (aK F) (au F (aK F) (au F (dZ (i:=k9) xn oq F F (dX (mG 1 F)) (by omega) (by rw[oo];exact pO)) (au F (c_ lU F F (dX (mG 1 F)) (om pO)) (au F (aK F) (au F (dU (i:=k9) lU de F F (dX (am _ (am _ (am _ (aQ _ (jX pO)))))) (by omega) (by rw[gZ];omega)) (au F (eP (vs:=a3.cells) fU F de F F (bw _) (dX (am _ (am _ (am _ (aQ _ (jX pO)))))) (mW ea3)) (au F (aK F) (au F (aK F) (au F (dZ (i:=k9) xn oq F F (dX (mG 1 F)) (by omega) (by rw[oo];exact pO)) (au F (c_ lU F F (dX (mG 1 F)) (om pO)) (au F (aK F) ?_)))))))))))))))))))))))))))))))
    refine au F (dU (i:=l.length) lU de F F (dX (am _ (am _ (am _ (aQ _ (jX pO)))))) (by omega) (by rw[gZ];omega)) (au F (eP (vs:=a4.cells) fU F de F F (bw _) (dX (am _ (am _ (am _ (aQ _ (jX pO)))))) (mW ea4)) ?_)
    refine cx F F (bm U8 (aX fun w1 hI=>(haveI:=ey hI;Rh w1 a3 (f_.sl (T:=72) hI (fun it fC=>am _ (aQ _ fC)) U4) U6)) F ?_)
    rintro vr O' ⟨N,rfl,q1,c1,rfl,rfl,yG,B3⟩
    refine⟨mS _ (by exact Sub.d (.k (.k (.k (.k (.k (.k .rf))))))),?_⟩
    have Nb:f_ (q1++p3) c1.r:=u9 B3 (fun x hx=>by simp only[df,List.not_mem_nil,or_false]at hx;rcases hx with rfl;exact U4)
    have U9:fB c1.pp:=by rw[yG];exact xi U6
    have B6:=B6.mono (fun y hy=>am q1 hy)
    have Nh:=Nh.mono (fun y hy=>am q1 hy)
    have HA:=HA.mono (fun y hy=>am q1 hy)
    let gr:List Lx.Item:=[aq cb cc 69 2 (eD l),aq (aD z9) M.next.length 75 1 (iU (R2++[⟨cb,cc,l⟩]) M.next.length),aq ob oc 75 1 (ky R),oI z3 69 c0.cells,aq k2.nb k2.nc 56 1 (dl k2.qs),aq k2.fb k2.fc 4 1 (cE M.aV),oI z2 25 (dC M k2)]
    refine eW (O':=(gr++((dr 72 q1)++(dr 72 p3++(eF 69 R2++(eF 69 R++ce 3 k2.qs)))))) (by exact fE [] _ (dr 72 q1) (dr 72 p3++(eF 69 R2++(eF 69 R++ce 3 k2.qs)))) ?_
    refine cx F F (bm Pw (aX fun w1 hI=>(haveI:=ey hI;Pr w1 a2 c1 (f_.sl (T:=72) hI (kO (fun it fC=>am _ (aQ _ fC)) (fun it fC=>am _ (am _ (aQ _ fC)))) Nh) U5 (f_.sl (T:=72) hI (kO (fun it fC=>am _ (aQ _ fC)) (fun it fC=>am _ (am _ (aQ _ fC)))) Nb) U9)) F ?_)
    rintro vr O' ⟨N,rfl,q2,c2,rfl,rfl,rG,B3⟩
    refine⟨mS _ (fq eJ gr (dr 72 q1) (dr 72 p3++(eF 69 R2++(eF 69 R++ce 3 k2.qs))) (by exact Sub.d (.k (.k (.k (.k (.k (.k .z)))))))),?_⟩
    have Ju:f_ (q2++(q1++p3)) c2.r:=u9 B3 (fun x hx=>by simp only[df,List.not_mem_nil,or_false]at hx;rcases hx with rfl|rfl;exact Nh;exact Nb)
    have Nf:fB c2.pp:=by rw[rG];exact q9 U5 U9
    have B6:=B6.mono (fun y hy=>am q2 hy)
    have HA:=HA.mono (fun y hy=>am q2 hy)
    refine eW (O':=(gr++((dr 72 q2)++((dr 72 q1)++(dr 72 p3++(eF 69 R2++(eF 69 R++ce 3 k2.qs))))))) (by exact fE [] _ (dr 72 q2) ((dr 72 q1)++(dr 72 p3++(eF 69 R2++(eF 69 R++ce 3 k2.qs))))) ?_
    refine cx F F (bm Pw (aX fun w1 hI=>(haveI:=ey hI;Pr w1 c2 a4 (f_.sl (T:=72) hI (kO (fun it fC=>am _ (aQ _ fC)) (kO (fun it fC=>am _ (am _ (aQ _ fC))) (fun it fC=>am _ (am _ (am _ (aQ _ fC)))))) Ju) Nf (f_.sl (T:=72) hI (kO (fun it fC=>am _ (aQ _ fC)) (kO (fun it fC=>am _ (am _ (aQ _ fC))) (fun it fC=>am _ (am _ (am _ (aQ _ fC)))))) HA) U7)) F ?_)
    rintro vr O' ⟨N,rfl,q3,c3,rfl,rfl,X8,B3⟩
    refine⟨mS _ ((fq eJ eJ (dr 72 q1) (dr 72 p3++(eF 69 R2++(eF 69 R++ce 3 k2.qs))) Sub.rf).trans (fq eJ gr (dr 72 q2) ((dr 72 q1)++(dr 72 p3++(eF 69 R2++(eF 69 R++ce 3 k2.qs)))) (by exact Sub.d (.k (.k (.k (.k (.k (.k .z))))))))),?_⟩
    have Ng:f_ (q3++(q2++(q1++p3))) c3.r:=u9 B3 (fun x hx=>by simp only[df,List.not_mem_nil,or_false]at hx;rcases hx with rfl|rfl;exact Ju;exact HA)
    have Zc:fB c3.pp:=by rw[X8];exact q9 Nf U7
    have B6:=B6.mono (fun y hy=>am q3 hy)
    refine eW (O':=(gr++((dr 72 q3)++((dr 72 q2)++((dr 72 q1)++(dr 72 p3++(eF 69 R2++(eF 69 R++ce 3 k2.qs)))))))) (by exact fE [] _ (dr 72 q3) ((dr 72 q2)++((dr 72 q1)++(dr 72 p3++(eF 69 R2++(eF 69 R++ce 3 k2.qs)))))) ?_
    refine cx F F (bm Jw (aX fun w1 hI=>(haveI:=ey hI;Rg w1 a1 c3 (f_.sl (T:=72) hI (kO (fun it fC=>am _ (aQ _ fC)) (kO (fun it fC=>am _ (am _ (aQ _ fC))) (kO (fun it fC=>am _ (am _ (am _ (aQ _ fC)))) (fun it fC=>am _ (am _ (am _ (am _ (aQ _ fC)))))))) B6) Zb (f_.sl (T:=72) hI (kO (fun it fC=>am _ (aQ _ fC)) (kO (fun it fC=>am _ (am _ (aQ _ fC))) (kO (fun it fC=>am _ (am _ (am _ (aQ _ fC)))) (fun it fC=>am _ (am _ (am _ (am _ (aQ _ fC)))))))) Ng) Zc)) F ?_)
    rintro vr O' ⟨N,rfl,q4,c4,rfl,rfl,hc4,B3⟩
    refine⟨mS _ ((fq eJ eJ (dr 72 q1) (dr 72 p3++(eF 69 R2++(eF 69 R++ce 3 k2.qs))) Sub.rf).trans ((fq eJ eJ (dr 72 q2) ((dr 72 q1)++(dr 72 p3++(eF 69 R2++(eF 69 R++ce 3 k2.qs)))) Sub.rf).trans (fq eJ gr (dr 72 q3) ((dr 72 q2)++((dr 72 q1)++(dr 72 p3++(eF 69 R2++(eF 69 R++ce 3 k2.qs))))) (by exact Sub.d (.k (.k (.k (.k (.k (.k .z)))))))))),?_⟩
    have Zd:f_ (q4++(q3++(q2++(q1++p3)))) c4.r:=u9 B3 (fun x hx=>by simp only[df,List.not_mem_nil,or_false]at hx;rcases hx with rfl|rfl;exact B6;exact Ng)
    have e9:c4.pp=kN M (k9+1) R2.length l.length:=by rw[hc4,X8,rG,yG,Pv,U3,ha3,ha4];rfl
    refine eW (O':=(gr++((dr 72 q4)++((dr 72 q3)++((dr 72 q2)++((dr 72 q1)++(dr 72 p3++(eF 69 R2++(eF 69 R++ce 3 k2.qs))))))))) (by exact fE [] _ (dr 72 q4) ((dr 72 q3)++((dr 72 q2)++((dr 72 q1)++(dr 72 p3++(eF 69 R2++(eF 69 R++ce 3 k2.qs))))))) ?_
    let HB:Lx.Item:=aq (aD z9) M.next.length 75 1 (iU (R2++[⟨cb,cc,l⟩]) M.next.length)
    refine cx F F (cH (m:=1) (parts:=[(0,_)]) (cs:=c4.cells) lU de (by decide) (by kernel_rfl) F (fun pF=>⟨(fq eJ eJ (dr 72 q1) (dr 72 p3++(eF 69 R2++(eF 69 R++ce 3 k2.qs))) Sub.rf).trans ((fq eJ eJ (dr 72 q2) ((dr 72 q1)++(dr 72 p3++(eF 69 R2++(eF 69 R++ce 3 k2.qs)))) Sub.rf).trans ((fq eJ eJ (dr 72 q3) ((dr 72 q2)++((dr 72 q1)++(dr 72 p3++(eF 69 R2++(eF 69 R++ce 3 k2.qs))))) Sub.rf).trans (fq eJ [aq (aD pF) 1 69 2 c4.cells,aq cb cc 69 2 (eD l),HB,mg,jw,gG,gd,iB] (dr 72 q4) ((dr 72 q3)++((dr 72 q2)++((dr 72 q1)++(dr 72 p3++(eF 69 R2++(eF 69 R++ce 3 k2.qs)))))) (by exact Sub.d (.d (.k (.k (.k (.k (.k (.k .z))))))))))),?_⟩))
    refine cx F F (dh 1 lU lU de F F F F (by rw[gZ]) (by decide) (Src.row (j:=0) F (by simp)) (by simp[fu]) (by dsimp only;omega) (by decide) (by decide) (fun yp qm=>⟨(fq eJ eJ (dr 72 q1) (dr 72 p3++(eF 69 R2++(eF 69 R++ce 3 k2.qs))) Sub.rf).trans ((fq eJ eJ (dr 72 q2) ((dr 72 q1)++(dr 72 p3++(eF 69 R2++(eF 69 R++ce 3 k2.qs)))) Sub.rf).trans ((fq eJ eJ (dr 72 q3) ((dr 72 q2)++((dr 72 q1)++(dr 72 p3++(eF 69 R2++(eF 69 R++ce 3 k2.qs))))) Sub.rf).trans (fq eJ [aq (aD pF) 1 69 2 c4.cells,aq yp qm 69 2 ((eD l)++c4.cells),HB,mg,jw,gG,gd,iB] (dr 72 q4) ((dr 72 q3)++((dr 72 q2)++((dr 72 q1)++(dr 72 p3++(eF 69 R2++(eF 69 R++ce 3 k2.qs)))))) (by exact Sub.d (.d (.k (.k (.k (.k (.k (.k .z))))))))))),?_⟩))
    refine au F (dZ (i:=R2.length) xn oq F F (dX (mG 0 F)) B5 (by rw[lV (by simp;omega)];exact B5)) ?_
    refine cu F F (n7 (j:=R2.length) (v:=(.slice yp (l.length+1) qm)) (vs:=[(.slice yp (l.length+1) qm)]) (cs:=iU (R2++[⟨cb,cc,l⟩]) M.next.length) 2 oq F F F F F (by simp) F (by rw[lV (by simp;omega)];simp;omega) ?_)
    let s9:List Lx.Item:=[aq (aD pF) 1 69 2 c4.cells,aq yp qm 69 2 ((eD l)++c4.cells),aq (aD z9) M.next.length 75 1 (iU (R2++[⟨yp,qm,l++[c4]⟩]) M.next.length),aq ob oc 75 1 (ky R),jw,gG,gd,iB]
    refine eW (O':=(s9++((dr 72 q4)++((dr 72 q3)++((dr 72 q2)++((dr 72 q1)++(dr 72 p3++(eF 69 R2++(eF 69 R++ce 3 k2.qs))))))))) (by rw[show fe (iU (R2++[⟨cb,cc,l⟩]) M.next.length) R2.length [(.slice yp (l.length+1) qm)]=iU (R2++[⟨yp,qm,l++[c4]⟩]) M.next.length from(by rw[←zq (by omega) ⟨cb,cc,l⟩ ⟨yp,qm,l++[c4]⟩,show(⟨yp,qm,l++[c4]⟩:MR).val=.slice yp (l.length+1) qm by simp[MR.val]];rfl)];exact cj (aZ _)) ?_
    refine eW (O':=(s9++(dr 72 (q4++(q3++(q2++(q1++p3))))++(eF 69 R2++(eF 69 R++ce 3 k2.qs))))) (by simp only[qi,aI];exact Sub.rf) ?_
    refine cy ?_
    refine be (ad (dx (a:=l.length) (b:=1) F F (by omega)) (ah F (ae ?_)))
    have Nc: ∀y∈p3,y∈(q4++(q3++(q2++(q1++p3)))):=fun y hy=>by simp[hy]
    exact⟨l++[c4],by simp;omega,[aq yp qm 69 2 (eD (l++[c4])),aq (aD z9) M.next.length 75 1 (iU (R2++[⟨yp,qm,l++[c4]⟩]) M.next.length),mg,jw,gG,gd,iB]++(dr 72 (q4++(q3++(q2++(q1++p3))))++(eF 69 R2++(eF 69 R++ce 3 k2.qs))),(by rw[s4];exact(by exact Sub.d (.k (.k (.k (.k (.k (.k (.k .rf))))))))),(q4++(q3++(q2++(q1++p3)))),yp,qm,F,by simp;omega,(hl.mono Nc).snoc e9 Zd,U2.mono Nc,zu.mono Nc,qn.mono Nc,⟨F,F,F,F,F,F,F,F,F,F,F,F,F,F,F,F,F,(ax (fun n9:Nat=>Value.int .i64 ((n9:Nat):Int)) (show l.length+1=(l++[c4]).length by simp)),trivial⟩⟩
   have Ze: ¬l.length<M.next.length:=by omega
   refine cG ?_
   refine be (ad (dx (a:=R2.length) (b:=1) F F (by omega)) (ah F (ae ?_)))
   have Pt:l.length=M.next.length:=by omega
   exact⟨R2++[⟨cb,cc,l⟩],by simp;omega,[aq (aD z9) M.next.length 75 1 (iU (R2++[⟨cb,cc,l⟩]) M.next.length),mg,jw,gG,gd,iB]++(dr 72 p3++(eF 69 (R2++[⟨cb,cc,l⟩])++(eF 69 R++ce 3 k2.qs))),(by rw[BX];exact u_ [aq (aD z9) M.next.length 75 1 (iU (R2++[⟨cb,cc,l⟩]) M.next.length),aq ob oc 75 1 (ky R),oI z3 69 c0.cells,aq k2.nb k2.nc 56 1 (dl k2.qs),aq k2.fb k2.fc 4 1 (cE M.aV),oI z2 25 (dC M k2)] [aq cb cc 69 2 (eD l),aq (aD z9) M.next.length 75 1 (iU (R2++[⟨cb,cc,l⟩]) M.next.length),aq ob oc 75 1 (ky R),oI z3 69 c0.cells,aq k2.nb k2.nc 56 1 (dl k2.qs),aq k2.fb k2.fc 4 1 (cE M.aV),oI z2 25 (dC M k2)] (dr 72 p3) (eF 69 R2) (eF 69 R++ce 3 k2.qs) (aq cb cc 69 2 (eD l)) (by exact Sub.eQ [aq cb cc 69 2 (eD l)] _ (.eQ [aq cb cc 69 2 (eD l)] _ (.eQ [aq cb cc 69 2 (eD l)] _ (.eQ [aq cb cc 69 2 (eD l)] _ (.eQ [aq cb cc 69 2 (eD l)] _ (.eQ [aq cb cc 69 2 (eD l)] _ (.k .z)))))))),p3,F,by simp;omega,U2.snoc Pt hl,zu,qn,⟨F,F,F,F,F,F,F,F,F,F,F,F,F,F,(ax (fun n9:Nat=>Value.int .i64 ((n9:Nat):Int)) (show R2.length+1=(R2++[(⟨cb,cc,l⟩:MR)]).length by simp)),trivial⟩⟩
  have abG: ¬R2.length<M.next.length:=by omega
  refine cG ?_
  refine be (ah F (aj F (ae (be (ad (dx (a:=k9) (b:=1) F F (by omega)) (ah F (ae ?_)))))))
  have U_:R2.length=M.next.length:=by omega
  have Zf:=zp U_
  exact⟨k9+1,by omega,[aq (aD z9) M.next.length 75 1 (ky R2),jw,gG,gd,iB]++(dr 72 p2++(eF 69 R2++ce 3 k2.qs)),(by rw[←Zf];exact B1 [aq (aD z9) M.next.length 75 1 (iU R2 M.next.length),oI z3 69 c0.cells,aq k2.nb k2.nc 56 1 (dl k2.qs),aq k2.fb k2.fc 4 1 (cE M.aV),oI z2 25 (dC M k2)] [aq (aD z9) M.next.length 75 1 (iU R2 M.next.length),aq ob oc 75 1 (ky R),oI z3 69 c0.cells,aq k2.nb k2.nc 56 1 (dl k2.qs),aq k2.fb k2.fc 4 1 (cE M.aV),oI z2 25 (dC M k2)] (dr 72 p2) (eF 69 R2) (eF 69 R) (ce 3 k2.qs) (by exact Sub.k (.d (.k (.k (.k (.k .z))))))),R2,p2,(aD z9),M.next.length,F,by omega,U_,yr,qn,(.of F)⟩
 have abH: ¬k9<M.next.length:=by omega
 refine cG ?_
 refine aO ?_
 have Va:k9=M.next.length:=by omega
 have T3:0<R.length:=by omega
 refine be (ad (ew 1 fU F de F F F) (ao F (bu de F (fun nF=>?_))))
 refine ao F (bV (vs:=c0.cells) 0 de F F F F ?_)
 refine ae (aO (ai (ad (bj cS F dy F F) (ad (bn 5 eu F F F F) (ad (bT (cP eu F) (v':=vN M.next.length) (by rw[Hv.fin])) (ah F (ae (aU ?_))))))))
 let mv:Lx.Item:=aq ob oc 75 1 (ky R)
 refine dv (O':=([oI nF 69 c0.cells,mv,gG,gd]++(dr 72 p++(eF 69 R++ce 3 k2.qs)))) (by exact Sub.k (.k (.d (.k (.k (.d .rf)))))) ?_
 refine dM (fun(t:Nat) ρ O=> ∃(p2:List ER) (po:PR),O=([oI nF 69 po.cells,mv,gG,gd]++(dr 72 p2++(eF 69 R++ce 3 k2.qs)))∧t≤M.next.length∧po.pp=vL M t∧f_ p2 po.r∧pN R p2 M.next.length (kN M k9)∧dt [(0,(dV d k)),(1,pf),(2,nS),(3,vI 0),(5,vI 0),(6,vI (M.next.length:Int)),(8,(.slice ob M.next.length oc)),(19,(.pointer (aD nF))),(151,(.slice k2.fb M.aV.length k2.fc)),(152,vN M.next.length),(153,vN t)] ρ) (fun t=>M.next.length-t) 0 ?_ ?_
 ·exact⟨p,c0,F,bs _,Aj,qn,hR,(.of F)⟩
 rintro t ρ O ⟨p2,po,rfl,ht,Ni,Nj,yr,hH⟩
 obtain⟨gP,rfl⟩:=hH.elim
 clear hH
 refine ai (ad (cR F F) (ae (aO (aP F (fun hc=>?_) (fun hc=>?_)))))
 ·have Au:t<M.next.length:=by omega
  obtain⟨a5,ea5,ha5,Vb⟩:=yr.at T3 Au
  have Zg:fB a5.pp:=by rw[ha5];exact iJ Iv _ _ _
  have Zh:fB po.pp:=by rw[Ni];exact lB Iv _
  have adB:=yr.len _ (aL T3)
  refine aE (aO (aU (ai (ah F (ad (dZ (i:=t) eu fw F F (dX (mG 3 F)) (by rw[Hv.fin];exact Au) (by rw[ar,Hv.fin];exact Au)) (ad (c_ Bh F F (dX (mG 3 F)) (oV Hv Au)) (aj F (aj F (ae (ai (ah F (ae (T.cond F (fun hc=>?_) (fun hc=>?_))))))))))))))
  ·have Vc:dD M t=true:=hc
   refine fQ [(0,0),(1,0),(2,0),(3,0),(4,0),(5,0),(6,0),(7,2),(8,2)] ?_
   refine au F (ew 0 fU F de F F F) (au F (aK F) (au F (dZ (i:=0) xn oq F F (dX (mG 1 F)) (by omega) (by rw[oo];exact T3)) (au F (c_ lU F F (dX (mG 1 F)) (om T3)) (au F (aK F) (au F (dU (i:=t) lU de F F (dX (am _ (am _ (aQ _ (jX T3))))) (by omega) (by rw[gZ];omega)) (au F (eP (vs:=a5.cells) fU F de F F (bw _) (dX (am _ (am _ (aQ _ (jX T3))))) (mW ea5)) ?_))))))
   refine cu F F (bm Jw (aX fun w1 hI=>(haveI:=ey hI;Rg w1 po a5 (f_.sl (T:=72) hI (fun it fC=>am _ (aQ _ fC)) Nj) Zh (f_.sl (T:=72) hI (fun it fC=>am _ (aQ _ fC)) Vb) Zg)) F ?_)
   rintro vr O' ⟨N,rfl,q6,c6,rfl,rfl,hc6,B3⟩
   have Zi:f_ (q6++p2) c6.r:=u9 B3 (fun x hx=>by simp only[df,List.not_mem_nil,or_false]at hx;rcases hx with rfl|rfl;exact Nj;exact Vb)
   
   refine eW (O':=([oI nF 69 po.cells,mv,gG,gd]++((dr 72 q6)++(dr 72 p2++(eF 69 R++ce 3 k2.qs))))) (by exact fE [] _ (dr 72 q6) (dr 72 p2++(eF 69 R++ce 3 k2.qs))) ?_
   refine cu F F (bV (vs:=c6.cells) 0 de F F F F ?_)
   refine eW (O':=([oI nF 69 c6.cells,mv,gG,gd]++(dr 72 (q6++p2)++(eF 69 R++ce 3 k2.qs)))) (by simp only[qi,aI];exact Sub.rf) ?_
   refine cy ?_
   refine be (ad (dx (a:=t) (b:=1) F F (by omega)) (ah F (ae ?_)))
   have e9:c6.pp=vL M (t+1):=by rw[hc6,Ni,ha5,Va,vL,aR Vc]
   exact⟨t+1,by omega,[oI nF 69 c6.cells,mv,gG,gd]++(dr 72 (q6++p2)++(eF 69 R++ce 3 k2.qs)),(by exact Sub.rf),(q6++p2),c6,F,by omega,e9,Zi,yr.mono (fun y hy=>am _ hy),(.of F)⟩
  have Vc: ¬dD M t=true:=by rw[hc];simp
  refine aE (be (ad (dx (a:=t) (b:=1) F F (by omega)) (ah F (ae ?_))))
  exact⟨t+1,by omega,[oI nF 69 po.cells,mv,gG,gd]++(dr 72 p2++(eF 69 R++ce 3 k2.qs)),(by exact Sub.rf),p2,po,F,by omega,by rw[vL,ay Vc];exact Ni,Nj,yr,(.of F)⟩
 have Zj: ¬t<M.next.length:=by omega
 refine cG ?_
 refine aO (ai (ad (bj fU F nE F F) (ad (bn 0 uk F F F F) (ad (bM F F) (ae (aP F (fun hc=>?_) (fun hc=>?_)))))))
 ·have Ri:po.k=3:=by omega
  have ve:po.pp=nv M:=by rw[Ni,show t=M.next.length by omega];rfl
  refine aO (T.eY 72 5 ?_)
  refine be (aj F (aj F (ae (aN (az ?_)))))
  refine dc nS (vI 4) Tryz.results14 F F ?_
  have h3:(nv M).1=3:=by rw[←ve];exact Ri
  have e1:vM M=[]:=aR h3
  have e2:BV M=4:=aR h3
  exact⟨[aq none 0 72 5 []],(by exact Sub.k .z),none,0,by rw[e1,e2];rfl,by rw[e1];rfl⟩
 have Rj: ¬po.k=3:=by omega
 have ve:po.pp=nv M:=by rw[Ni,show t=M.next.length by omega];rfl
 refine aE (ai (ad (bj fU F g_ F F) (ad (bn 0 dJ F F F F) (aj F (aj F (ae (aN (az ?_))))))))
 refine dc (.slice po.r.b po.r.e.length po.r.c) (vI 0) Tryz.results14 F F ?_
 have h3: ¬(nv M).1=3:=by rw[←ve];exact Rj
 have e1:vM M=po.r.e:=(ay h3).trans (by rw[←ve];rfl)
 have e2:BV M=0:=ay h3
 have wh:po.r.e≠ []:=by
  have:=(lB (m:=M) Iv M.next.length).ne h3
  rw[show vL M M.next.length=po.pp from ve.symm]at this;exact this
 exact⟨[po.r.sM 72],cj (List.singleton_sublist.2 (am _ (aQ _ (List.mem_map.2 ⟨po.r,Nj.resolve_right wh,F⟩)))),po.r.b,po.r.c,by rw[e1,e2];rfl,by rw[e1];rfl⟩
end Go.Proofs.YtgdbfideeeegmaaGreatDoor

namespace Go.Proofs.YtgdbfideeeegmaaGreatDoor
open Go.Lx Go.RowKit _root_.Go.Proofs.Tryz
noncomputable def tV (d:cM):List eE:=if cX d=0 then vM (fJ d)else[]
noncomputable def tE (d:cM):Nat:=if cX d=0 then BV (fJ d)else cX d
theorem Tt (d:cM):(tV d).length≤64:=by
 unfold tV;split
 ·rename_i he
  have hv:=lu (dO.1 he)
  have hL:dT (fJ d)≤64:=bO (by decide) (show(fJ d).vars.toNat≤6 by have:=hv.v6;have:=hv.v0;omega)
  unfold vM;split
  ·simp
  ·exact(lB (m:=fJ d) (by omega) _).len
 ·simp
theorem aaU (w:World) [dB Tryz.prog w] [dB Tryz.prog w] (d:cM) (k:DK) (h:At w d k) (hb:d.next.length<9223372036854775807) (qV: ∀r∈d.next,r.length<9223372036854775807) (rP:d.aV.length<9223372036854775807):cA Tryz.prog 14 [dV d k] w fun v N=> ∃b c,v=.tuple #[.slice b (tV d).length c,.int .i64 ((tE d:Nat):Int)]∧N=[aq b c 72 5 (bX (tV d))]:=by
 by_cases he:cX d=0
 ·have hv:=dO.1 he
  have e1:tV d=vM (fJ d):=aR he
  have e2:tE d=BV (fJ d):=aR he
  rw[e1,e2]
  exact Ps w d k h hv (by have:=hv.n4;omega) F
 ·have e1:tV d=[]:=ay he
  have e2:tE d=cX d:=ay he
  rw[e1,e2]
  exact RD w d k h hb qV rP he
theorem Tu (w:World) [dB Tryz.prog w] [dB Tryz.prog w] (b:Option Addr) (a1:cM) (k1:DK) (hS:Sl w b (dC a1 k1)) (h1:At w a1 k1) (b1:a1.next.length<9223372036854775807):
  cA Tryz.prog 9 [.slice b 1 1] w fun v N=>v=.bool (pB a1)∧N=[]:=by
 have h9:=Uh w b 1 [⟨a1,k1.nb,k1.fb,k1.nc,k1.fc,dl k1.qs⟩] hS (fun r hr=>by rw[List.mem_singleton.1 hr];exact h1) (show 1<_ by decide) (fun r hr=>by rw[List.mem_singleton.1 hr];exact b1)
 rw[show([(⟨a1,k1.nb,k1.fb,k1.nc,k1.fc,dl k1.qs⟩:vE)].any fun r=>pB r.d)=pB a1 by simp]at h9
 exact h9
end Go.Proofs.YtgdbfideeeegmaaGreatDoor

namespace Go.Lx
open Go.RowKit Go.Proofs.YtgdbfideeeegmaaGreatDoor
theorem XQ (d:cM): ∀x∈tV d,x.p<256∧x.n<256:=by
 unfold tV;split
 ·rename_i he
  have hv:=lu (dO.1 he)
  have hL:dT (fJ d)≤64:=bO (by decide) (show(fJ d).vars.toNat≤6 by have:=hv.v6;have:=hv.v0;omega)
  unfold vM;split
  ·intro x hx;cases hx
  ·intro x hx
   obtain⟨_,h1,h2,_⟩:=(lB (m:=fJ d) (by omega) _).pc x hx
   exact⟨h1,h2⟩
 ·intro x hx;cases hx
theorem OZ {a:cM} (h:tE a≠0):(tV a).length=0∧(cX a=tE a∨(cX a=0∧tE a=4)):=by
 unfold tE at h⊢
 unfold tV
 by_cases hc:cX a=0
 ·rw[aR hc]at h⊢
  rw[aR hc]
  unfold BV at h⊢
  unfold vM
  by_cases h3:(nv (fJ a)).1=3
  ·rw[aR h3,aR h3];exact⟨F,Or.inr ⟨hc,F⟩⟩
  ·rw[ay h3]at h;exact absurd F h
 ·rw[ay hc,ay hc];exact⟨F,Or.inl F⟩
theorem Mi {a:cM} (h:tE a=0):cX a=0∧im a.vars (tV a)=0∧(tV a).any h_=false∧
  ∀D er,Z3 (im a.vars (tV a)) 4096 (fun M=>gf a.vars (4096:Int).toNat M (mY a.vars.toNat (tV a))∧Ec a.vars.toNat (tV a) (4096:Int).toNat) (¬Ec a.vars.toNat (tV a) (4096:Int).toNat) D er→
   (er=10∧8<(tV a).length)∨(er=0∧D=rO a∧(rO a).next.length<9223372036854775807∧(∀r∈(rO a).next,r.length<9223372036854775807)∧(rO a).aV.length<9223372036854775807):=by
 unfold tE at h
 unfold tV
 by_cases hc:cX a=0
 ·rw[aR hc]at h
  rw[aR hc]
  have hv:=dO.1 hc
  have h3:(nv (fJ a)).1≠3:=fun h3=>by unfold BV at h;rw[aR h3]at h;cases h
  have ht:vM (fJ a)=(nv (fJ a)).2:=by unfold vM;rw[ay h3]
  rw[ht]
  obtain⟨c1,c2,c3,c4⟩:=OW hv h3
  refine⟨hc,c1,c3,fun D er hF=>?_⟩
  rw[yg hv]
  rcases hF with⟨e1,_⟩|⟨_,e2,_⟩|⟨_,_,⟨e2,hM,_⟩|⟨e2,_,hz⟩⟩
  ·exact absurd c1 e1
  ·exact absurd ⟨by decide,by decide⟩ e2
  ·have e:=c4 hM
   rw[←e]
   exact Or.inr ⟨e2,F,wL hM.toHasL⟩
  ·refine Or.inl ⟨e2,Nat.lt_of_not_le fun h8=>hz ?_⟩
   obtain⟨h1,h2,h3,h4,fs,h5,h6,h7⟩:=wi c1
   generalize(nv (fJ a)).2=e at*
   have hs:(uo e).sz≤e.length:=by have:=tP h5 e.length (e.length-1) (by omega) (by omega);unfold uo;omega
   unfold Ec
   rw[ay (by rw[c3];simp)]
   exact ok8 (by have:=hv.v6;have:=hv.v0;omega) c2 (by omega)
 ·rw[ay hc]at h;exact absurd h hc
end Go.Lx

namespace Go.Proofs.YtgdbfideeeegmaaGreatDoor
open Go.Lx Go.RowKit _root_.Go.Proofs.Tryz
theorem Tv (w:World) [dB Tryz.prog w] {d e:cM} (j k:DK) (h1:At w d j) (h2:At w e k) (hde:d=e) (hb:e.next.length<9223372036854775807∧(∀r∈e.next,r.length<9223372036854775807)∧e.aV.length<9223372036854775807):cA Tryz.prog 16 [dV d j,dV e k] w fun v N=>v=.bool true∧N=[]:=by
 subst hde
 exact GZ w d j.nb k.nb j.fb k.fb j.nc k.nc j.fc k.fc (dl j.qs) (dl k.qs) h1 h2 hb.1 hb.2.1 hb.2.2
end Go.Proofs.YtgdbfideeeegmaaGreatDoor

namespace Go.Proofs.YtgdbfideeeegmaaGreatDoor
open Go.Lx Go.RowKit _root_.Go.Proofs.Tryz
def Nq:List UInt8:=[40,40,91,42,93,42,41,46,40,91,97,93,46,91,42,93,41,41]
def Mv:List UInt8:=[40,40,62,40,91,42,93,46,91,98,93,41,41,46,40,91,42,93,42,41,41]
def Zr:List UInt8:=[91,42,93]
def yH:List eE:=[⟨3,0,0,0,0⟩,⟨8,0,0,0,0⟩,⟨3,1,0,0,0⟩,⟨3,0,0,0,0⟩,⟨4,0,0,2,3⟩,⟨4,0,0,1,4⟩]
def th:List eE:=[⟨3,0,0,0,0⟩,⟨3,2,0,0,0⟩,⟨4,0,0,0,1⟩,⟨9,0,0,2,0⟩,⟨3,0,0,0,0⟩,⟨8,0,0,4,0⟩,⟨4,0,0,3,5⟩]
def FG:List eE:=[⟨3,0,0,0,0⟩]
theorem Cb {S:List UInt8} (qo:S.length≤4096) {ia:Nat} {l:List eE} (hl:l.length≤1000) (h1:Ch S ia 91) (h2:Ch S (ia+1) 42) (h3:Ch S (ia+1+1) 93):tZ 96 S ia l l.length (ia+3) (l++[(⟨3,0,0,0,0⟩:eE)]):=
 Py qo hl h1 fun base _ rb lb n lc=>Ve base rb S qo (ia+1) n lc lb h2 h3
theorem PD {S:List UInt8} (qo:S.length≤4096) {ia k:Nat} {l:List eE} (hk:k<6) (hl:l.length≤1000) (h1:Ch S ia 91) (h2:Ch S (ia+1) (97+k)) (h3:Ch S (ia+1+1) 93):tZ 96 S ia l l.length (ia+3) (l++[(⟨3,0|||1*2^k,0,0,0⟩:eE)]):=
 Py qo hl h1 fun base _ rb lb n lc=>Vf base rb S qo (ia+1) k n lc lb hk h2 h3
theorem rd1:tZ 96 Nq 0 [] 5 18 yH:=by
 have hS:Nq.length≤4096:=by decide
 have a:tZ 96 Nq 2 [] 0 5 (yH.take 1):=Cb hS (by decide) F F F
 have b:tZ 96 Nq 1 [] 1 7 (yH.take 2):=xt hS F (JA (ia:=2) (c0:=91) hS (by decide) F (.inr F) a F F)
 have c:tZ 96 Nq 9 (yH.take 2) 2 12 (yH.take 3):=PD hS (k:=0) (by decide) (by decide) F F F
 have d:tZ 96 Nq 13 (yH.take 3) 3 16 (yH.take 4):=Cb hS (by decide) F F F
 have f:tZ 96 Nq 8 (yH.take 2) 4 17 (yH.take 5):=xt hS F (FB (ia:=9) (c0:=91) hS (by decide) F (.inr F) c F d F)
 exact xt hS F (FB (ia:=1) (c0:=40) hS (by decide) F (.inl F) b F f F)
theorem rd2:tZ 96 Mv 0 [] 6 21 th:=by
 have hS:Mv.length≤4096:=by decide
 have a:tZ 96 Mv 4 [] 0 7 (th.take 1):=Cb hS (by decide) F F F
 have b:tZ 96 Mv 8 (th.take 1) 1 11 (th.take 2):=PD hS (k:=1) (by decide) (by decide) F F F
 have c:tZ 96 Mv 3 [] 2 12 (th.take 3):=xt hS F (FB (ia:=4) (c0:=91) hS (by decide) F (.inr F) a F b F)
 have d:tZ 96 Mv 1 [] 3 13 (th.take 4):=xt hS F (Nl (ia:=2) hS (by decide) F c F)
 have f:tZ 96 Mv 15 (th.take 4) 4 18 (th.take 5):=Cb hS (by decide) F F F
 have g:tZ 96 Mv 14 (th.take 4) 5 20 (th.take 6):=xt hS F (JA (ia:=15) (c0:=91) hS (by decide) F (.inr F) f F F)
 exact xt hS F (FB (ia:=1) (c0:=40) hS (by decide) F (.inl F) d F g F)
theorem rd3:tZ 96 Zr 0 [] 0 3 FG:=Cb (by decide) (by decide) F F F
theorem Vu:im (1:Nat) yH=0:=by kernel_rfl
theorem Vv:im (2:Nat) th=0:=by kernel_rfl
theorem Zs:im (0:Nat) FG=0:=by kernel_rfl
section
variable (w:World) [dB Tryz.prog w]
theorem Vw:cA Tryz.prog 32 [(str Nq),.int .i64 ((1:Nat):Int)] w (fun v N=> ∃b c,v=.slice b yH.length c∧N=[aq b c 72 5 (bX yH)]):=JK w Nq (by decide) 1 5 (by decide) yH rd1 (by decide) Vu
theorem Vx:cA Tryz.prog 32 [(str Mv),.int .i64 ((2:Nat):Int)] w (fun v N=> ∃b c,v=.slice b th.length c∧N=[aq b c 72 5 (bX th)]):=JK w Mv (by decide) 2 6 (by decide) th rd2 (by decide) Vv
theorem Vy:cA Tryz.prog 32 [(str Zr),.int .i64 ((0:Nat):Int)] w (fun v N=> ∃b c,v=.slice b FG.length c∧N=[aq b c 72 5 (bX FG)]):=JK w Zr (by decide) 0 0 (by decide) FG rd3 (by decide) Zs
end
end Go.Proofs.YtgdbfideeeegmaaGreatDoor

namespace Go.Lx
open Go.RowKit Go.Proofs.YtgdbfideeeegmaaGreatDoor
def jR:cM:=⟨1,0,[[0,1],[2,3],[0,1],[2,3]],[false,false,true,true]⟩
def PE:cM:=⟨0,0,[[1],[2],[2]],[false,true,false]⟩
theorem HD:Valid jR:=dO.1 (by decide)
theorem HE:Valid PE:=dO.1 (by decide)
theorem Nr:fJ PE=PE:=by kernel_rfl
theorem Ns:vM PE=FG:=by kernel_rfl
theorem Nt:BV PE=0:=by kernel_rfl
theorem Nu:fJ jR=jR:=by kernel_rfl
theorem Vz:uo yH=.je (.star (.letter 0 0)) (.je (.letter 1 0) (.letter 0 0)):=by kernel_rfl
theorem Nv:uo th=.je (.ahead (.je (.letter 0 0) (.letter 2 0))) (.star (.letter 0 0)):=by kernel_rfl
theorem X_ {v:Nat} (hv:v≤6) (p n:Nat) {B:Nat} (hB:3≤B):jY v (.letter p n) B:=bE (nG (gm p n) hv (a8 1)).nX.len hB
theorem vS {v:Nat} (hv:v≤6) (p n:Nat):gf (v:Int) 3 (minOf v (gj (.letter p n))) (gj (.letter p n)):=dG hv (by decide) (t:=.letter p n) F (X_ hv p n (a8 3))
theorem Zt {v:Nat} (hv:v≤6):jY v (.star (.letter 0 0)) 4096:=
 ⟨X_ hv 0 0 (by decide),tk (vS hv 0 0).valid (bE (bO (by decide) (Nat.succ_le_succ (vS hv 0 0).len)) (by decide))⟩
theorem okP {v:Nat} (hv:v≤6) (p n q m:Nat):jY v (.je (.letter p n) (.letter q m)) 4096:=
 ⟨X_ hv p n (by decide),X_ hv q m (by decide),mw (vS hv p n).valid (vS hv q m).valid (bE (Nat.mul_le_mul (vS hv p n).len (bO (by decide) (vS hv q m).len)) (by decide))⟩
theorem VA {v:Nat} (hv:v≤6) (p n q m:Nat):gf (v:Int) 24 (minOf v (gj (.je (.letter p n) (.letter q m)))) (gj (.je (.letter p n) (.letter q m))):=
 mx hv (by decide) (vS hv p n).toHasL (vS hv q m).toHasL (mw (vS hv p n).valid (vS hv q m).valid (Nat.mul_le_mul (vS hv p n).len (bO (by decide) (vS hv q m).len)))
theorem Cc (u:List Nat):oA (gj (.letter 0 0)) u=true:=by
 rw[mE]
 induction u with
 |nil=>exact .nil
 |cons x u ih=>
  refine iD.oM (x:=[x]) ?_ ih
  show([x].length==1&& [x].all (gm 0 0))=true
  simp[gm]
theorem Nw {p n:Nat} {y:List Nat} (h:gj (.letter p n) y=true): ∃x,y=[x]∧gm p n x=true:=by
 have h:(y.length==1&&y.all (gm p n))=true:=h
 rw[aM,beq_iff_eq]at h
 obtain⟨x,rfl⟩:=List.length_eq_one_iff.1 h.1
 exact⟨x,F,by simpa using h.2⟩
theorem PF {v:Nat} (hv:v≤6):HasL (v:Int) 1 (fD (v:Int) true) (gj (.star (.letter 0 0))):=
 ⟨(fG hv).valid,(fG hv).len,F,fun w hw=>by rw[(fG hv).iI w hw];exact(Cc w).symm⟩
theorem JL {p n q m:Nat} {w:List Nat}:gj (.je (.letter p n) (.letter q m)) w=true↔ ∃a b,w=[a,b]∧gm p n a=true∧gm q m b=true:=by
 constructor
 ·intro h
  obtain⟨y1,y2,rfl,h3,h4⟩:=gT.1 h
  obtain⟨a,rfl,ha⟩:=Nw h3
  obtain⟨b,rfl,hb⟩:=Nw h4
  exact⟨a,b,F,ha,hb⟩
 ·rintro⟨a,b,rfl,ha,hb⟩
  refine gT.2 ⟨[a],[b],F,?_,?_⟩
  ·show([a].length==1&& [a].all (gm p n))=true
   simp[ha]
  ·show([b].length==1&& [b].all (gm q m))=true
   simp[hb]
theorem sink {E:cM} {L s:Nat} (h: ∀x,x<L→e7 E s x=s): ∀(u:List Nat),(∀x∈u,x<L)→runN E s u=s
 | [],_=>rfl
 |x::u,hu=>by
  show runN E (e7 E s x) u=s
  rw[h x (hu x (by simp))]
  exact sink h u fun y hy=>hu y (by simp[hy])
def Rv:cM:=⟨1,0,[[1,2],[1,1],[3,3],[1,1]],[false,false,false,true]⟩
theorem Nx:HasL (1:Nat) 4 Rv (gj (.je (.letter 1 0) (.letter 0 0))):=by
 refine⟨dO.1 (by decide),by decide,F,fun w hw=>?_⟩
 have hs:=sink (E:=Rv) (L:=2) (s:=1) (by decide)
 rw[eB,JL]
 match w,hw with
 | [],_=>exact⟨fun h=>absurd h (by decide),fun⟨a,b,h,_⟩=>by cases h⟩
 | [a],hw=>
  have: ∀a,a<2→iI Rv [a]=false:=by decide
  exact⟨fun h=>absurd h (by rw[this a (hw a (by simp))];decide),fun⟨a,b,h,_⟩=>by cases h⟩
 | [a,b],hw=>
  have: ∀a,a<2→ ∀b,b<2→iI Rv [a,b]=gm 1 0 a:=by decide
  rw[this a (hw a (by simp)) b (hw b (by simp))]
  exact⟨fun h=>⟨a,b,F,h,by simp[gm]⟩,fun⟨a',b',h,h2,_⟩=>by cases h;exact h2⟩
 |a::b::c::u,hw=>
  have: ∀a,a<2→ ∀b,b<2→ ∀c,c<2→runN Rv 0 [a,b,c]=1:=by decide
  refine⟨fun h=>?_,fun⟨a,b,h,_⟩=>by cases h⟩
  have h:dD Rv (runN Rv 0 ([a,b,c]++u))=true:=h
  rw[ku,this a (hw a (by simp)) b (hw b (by simp)) c (hw c (by simp)),hs u fun x hx=>hw x (by simp[hx])]at h
  exact absurd h (by decide)
theorem Zu:Ec 1 yH 4096:=by
 unfold Ec;rw[ay (by decide),Vz]
 have h1:=dG (v:=1) (by decide) (a8 4096) (t:=.star (.letter 0 0)) F (Zt (by decide))
 have h2:=VA (v:=1) (by decide) 1 0 0 0
 exact⟨Zt (by decide),okP (by decide) 1 0 0 0,mw h1.valid h2.valid (bE (Nat.mul_le_mul (h1.xx (PF (by decide))) (bO (by decide) (h2.xx Nx))) (by decide))⟩
def Ny:cM:=⟨2,0,[[1,1,1,1],[2,2,3,3],[2,2,2,2],[3,3,3,3]],[false,false,false,true]⟩
theorem Nz:gf (2:Nat) 4 Ny (jS (gj (.je (.letter 0 0) (.letter 2 0))) fun _=>true):=by
 refine⟨⟨dO.1 (by decide),by decide,F,fun w hw=>?_⟩,by kernel_rfl⟩
 have s2:=sink (E:=Ny) (L:=4) (s:=2) (by decide)
 have s3:=sink (E:=Ny) (L:=4) (s:=3) (by decide)
 rw[eB,gT]
 have wh: ∀x y:List Nat,w=x++y→gj (.je (.letter 0 0) (.letter 2 0)) x=true→ ∃a b,w=a::b::y∧gm 2 0 b=true:=fun x y h h2=>by
  obtain⟨a,b,rfl,_,hb⟩:=JL.1 h2
  exact⟨a,b,h,hb⟩
 match w,hw,wh with
 | [],_,wh=>exact⟨fun h=>absurd h (by decide),fun⟨x,y,h,h2,_⟩=>by obtain⟨a,b,h3,_⟩:=wh x y h h2;cases h3⟩
 | [a],hw,wh=>
  have: ∀a,a<4→iI Ny [a]=false:=by decide
  exact⟨fun h=>absurd h (by rw[this a (hw a (by simp))];decide),fun⟨x,y,h,h2,_⟩=>by obtain⟨a,b,h3,_⟩:=wh x y h h2;cases h3⟩
 |a::b::u,hw,wh=>
  have hu: ∀x∈u,x<4:=fun x hx=>hw x (by simp[hx])
  have e:iI Ny (a::b::u)=gm 2 0 b:=by
   have: ∀a,a<4→ ∀b,b<4→runN Ny 0 [a,b]=if gm 2 0 b=true then 3 else 2:=by decide
   show dD Ny (runN Ny 0 ([a,b]++u))=_
   rw[ku,this a (hw a (by simp)) b (hw b (by simp))]
   split
   ·rename_i h;rw[s3 u hu,h];rfl
   ·rename_i h;rw[s2 u hu,Bool.eq_false_iff.2 h];rfl
  rw[e]
  exact⟨fun h=>⟨[a,b],u,F,JL.2 ⟨a,b,F,by simp[gm],h⟩,F⟩,fun⟨x,y,h,h2,_⟩=>by obtain⟨a',b',h3,h4⟩:=wh x y h h2;cases h3;exact h4⟩
def Zv:cM:=⟨2,0,[[0,0,0,0]],[true]⟩
theorem NA:gf (2:Nat) 4 Zv (gj (.star (.letter 0 0))):=by
 have h:=PF (v:=2) (by decide)
 rw[show fD ((2:Nat):Int) true=Zv by kernel_rfl]at h
 exact⟨h.le (by decide),by kernel_rfl⟩
def Mw:List Lf:=[⟨9,Ny,[1],false⟩,⟨0,Zv,[],true⟩]
theorem HF:nw 2 (uo th)=Mw∧JM 2 (uo th)=[0]:=by
 rw[Nv]
 have e1:nw 2 (.je (.ahead (.je (.letter 0 0) (.letter 2 0))) (.star (.letter 0 0)))=[⟨9,minOf 2 (jS (gj (.je (.letter 0 0) (.letter 2 0))) fun _=>true),[1],false⟩,⟨0,minOf 2 (gj (.star (.letter 0 0))),[],true⟩]:=rfl
 rw[e1,←gU Nz (by decide),←gU NA (by decide)]
 exact⟨F,F⟩
theorem VB:okB 2 (uo th) 4096:=by
 rw[Nv]
 have h2:=VA (v:=2) (by decide) 0 0 2 0
 have hs:=fG (v:=2) (by decide)
 exact⟨⟨okP (by decide) 0 0 2 0,mw h2.valid hs.valid (bE (Nat.mul_le_mul h2.len (bO (by decide) hs.len)) (by decide))⟩,Zt (by decide)⟩
theorem Rw:ji Mw 2:=by
 have h:=JN (v:=2) (by decide) (a8 4096) (t:=uo th) (by rw[Nv];rfl) (by rw[Nv];decide) VB
 rw[HF.1]at h;exact h
theorem Zw:Ec 2 th 4096:=by
 unfold Ec;rw[aR (by decide)]
 refine⟨VB,?_⟩
 unfold Ry
 rw[HF.1,HF.2]
 exact Rz Rw ⟨F,F,F,F,F,F,F⟩ (by decide)
theorem VC:qu (nw 2 (uo th)) 19:=by rw[HF.1];exact FH (by decide)
theorem VD: ∀r,r<4→ ∀a,a<2→ ∀b,b<2→e7 jR (e7 jR r a) b=2*a+b:=by decide
theorem VE: ∀a,a<2→ ∀b,b<2→dD jR (2*a+b)=gm 1 0 a:=by decide
theorem Ed: ∀(u:List Nat) (r:Nat),r<4→jn (1:Nat) u→runN jR r u<4
 | [],r,h,_=>h
 |x::u,r,h,hw=>by
  have hx:x<2:=hw x (by simp)
  have: ∀r,r<4→ ∀a,a<2→e7 jR r a<4:=by decide
  exact Ed u (e7 jR r x) (this r h x hx) fun y hy=>hw y (by simp[hy])
theorem NB (w:List Nat) (hw:jn (1:Nat) w):iI jR w=gj (uo yH) w:=by
 rw[Vz,eB]
 constructor
 ·intro h
  rcases List.eq_nil_or_concat w with rfl|⟨x,b,rfl⟩
  ·exact absurd h (by decide)
  ·rcases List.eq_nil_or_concat x with rfl|⟨x,a,rfl⟩
   ·have hb:b<2:=hw b (by simp)
    have: ∀b,b<2→iI jR [b]=false:=by decide
    have h:iI jR [b]=true:=h
    rw[this b hb]at h;cases h
   ·rw[List.concat_eq_append,List.concat_eq_append]at*
    have ha:a<2:=hw a (by simp)
    have hb:b<2:=hw b (by simp)
    have hx:runN jR 0 x<4:=Ed x 0 (by decide) fun y hy=>hw y (by simp[hy])
    have h:dD jR (runN jR 0 (x++[a]++[b]))=true:=h
    rw[ku,ku]at h
    have h:dD jR (e7 jR (e7 jR (runN jR 0 x) a) b)=true:=h
    rw[VD _ hx a ha b hb,VE a ha b hb]at h
    refine gT.2 ⟨x,[a]++[b],by simp,Cc x,gT.2 ⟨[a],[b],F,?_,?_⟩⟩
    ·show([a].length==1&& [a].all (gm 1 0))=true
     simp[h]
    ·show([b].length==1&& [b].all (gm 0 0))=true
     simp[gm]
 ·intro h
  obtain⟨x,y,rfl,_,h2⟩:=gT.1 h
  obtain⟨y1,y2,rfl,h3,h4⟩:=gT.1 h2
  obtain⟨a,rfl,ha⟩:=Nw h3
  obtain⟨b,rfl,_⟩:=Nw h4
  have U3:a<2:=hw a (by simp)
  have DW:b<2:=hw b (by simp)
  have hx:runN jR 0 x<4:=Ed x 0 (by decide) fun y hy=>hw y (by simp[hy])
  show dD jR (runN jR 0 (x++([a]++[b])))=true
  rw[ku,ku]
  show dD jR (e7 jR (e7 jR (runN jR 0 x) a) b)=true
  rw[VD _ hx a U3 b DW,VE a U3 b DW,ha]
theorem JO:gf (1:Nat) 4096 jR (mY 1 yH):=by
 unfold mY;rw[ay (by decide)]
 exact⟨⟨HD,by decide,F,NB⟩,Nu⟩
theorem VF {M:cM} (h:gf (1:Nat) 4096 M (mY 1 yH)):M=jR:=gf.ext h JO fun _ _=>rfl
theorem RA {M:cM} (h:gf (2:Nat) 4096 M (mY 2 th)) {u:List Nat} (hu: ∀x∈u,x<4) (hl:u.length≤64):lP M u=0∧G5 M u=sf (u.foldl (mZ Mw) (lF Mw [0])):=by
 have hw:jn (2:Nat) u:=hu
 have h0:lP M u=0:=uq.2 ⟨h.valid,hl,h.toHasL.wd.2 hw⟩
 refine⟨h0,?_⟩
 rw[G4 h0,h.iI u hw]
 unfold mY Ya;rw[aR (by decide),HF.1,HF.2]
theorem RB:sf ([0,3,0].foldl (mZ Mw) (lF Mw [0]))=true:=by decide+kernel
theorem RC:sf ([3,1,2].foldl (mZ Mw) (lF Mw [0]))=false:=by decide+kernel
end Go.Lx

namespace Go.Proofs.YtgdbfideeeegmaaGreatDoor
open Go.Lx Go.RowKit _root_.Go.Proofs.Tryz
theorem VG {w:World} {d:cM} {k:DK} (h1:Sl w k.nb (dl k.qs)) (h2:nums k.qs=d.next) (h3: ∀r∈k.qs,Sl w r.b (ints r.xs)) (h4:Sl w k.fb (cE d.aV)):At w d k:=by
 refine⟨h1,?_,h4⟩
 rw[←h2]
 refine⟨by unfold dl nums;rw[ar,ar],fun i r hr=>?_⟩
 unfold nums at hr
 rw[bq]at hr
 obtain⟨q,hq,rfl⟩:=Option.map_eq_some_iff.1 hr
 exact⟨q.b,q.c,by unfold dl;rw[bq,hq];rfl,h3 q (bS hq)⟩
theorem NC (w:World) [dB Tryz.prog w] [dB Tryz.prog w] (b:Option Addr) (c:Nat) (h:Sl w b (bX yH)):cA Tryz.prog 19 [.slice b yH.length c,vI 1,vI 4096] w fun v N=> ∃k,v=.tuple #[dV jR k,vI 0]∧N=[dI 56 4 3 jR k]:=by
 refine(FI (JP w b c yH h (by decide) (by decide) 1 4096 (fun h=>absurd h (by decide)) (K:=0) (by decide) (fun _=>tp (by decide)) (fun _ h=>absurd h (by decide)))).mono fun v N=>?_
 rintro⟨D,k,er,rfl,rfl,⟨h1,_⟩|⟨_,h1,_⟩|⟨_,_,⟨rfl,hM,_⟩|⟨_,_,h1⟩⟩⟩
 ·exact absurd Vu h1
 ·exact absurd ⟨by decide,by decide⟩ h1
 ·have e:=VF hM
  subst e
  exact⟨k,F,F⟩
 ·exact absurd Zu h1
theorem ND (w:World) [dB Tryz.prog w] [dB Tryz.prog w] (b:Option Addr) (c:Nat) (h:Sl w b (bX th)):cA Tryz.prog 19 [.slice b th.length c,vI 2,vI 4096] w fun v N=> ∃M k,v=.tuple #[dV M k,vI 0]∧N=[dI 56 4 3 M k]∧gf (2:Nat) 4096 M (mY 2 th):=by
 refine(FI (JP w b c th h (by decide) (by decide) 2 4096 (fun _=>by decide) (K:=19) (by decide) (fun _=>tp (by decide)) (fun _ _ _=>VC))).mono fun v N=>?_
 rintro⟨D,k,er,rfl,rfl,⟨h1,_⟩|⟨_,h1,_⟩|⟨_,_,⟨rfl,hM,_⟩|⟨_,_,h1⟩⟩⟩
 ·exact absurd Vv h1
 ·exact absurd ⟨by decide,by decide⟩ h1
 ·exact⟨D,k,F,F,hM⟩
 ·exact absurd Zw h1
theorem PG (w:World) [dB Tryz.prog w] [dB Tryz.prog w] {M:cM} (hM:gf (2:Nat) 4096 M (mY 2 th)) (k:DK) (h:At w M k) (wb:Option Addr) (wc:Nat) (l:List Nat) (hW:Sl w wb (Ai l)) (h4: ∀x∈l,x<4) (hl:l.length=3) (x:Bool) (hx:sf (l.foldl (mZ Mw) (lF Mw [0]))=x):cA Tryz.prog 29 [dV M k,.slice wb 3 wc] w fun v N=>v=.tuple #[.bool x,vI 0]∧N=[]:=by
 obtain⟨h1,h2⟩:=RA hM h4 (by omega)
 have hb:=wL hM.toHasL
 have h9:=JQ w M k.nb k.fb k.nc k.fc (dl k.qs) h hb.1 hb.2.1 hb.2.2 wb wc l hW (by omega) (fun x h=>by have:=h4 x h;omega)
 rw[h1,h2,hx,hl]at h9
 exact h9
theorem eqS (w:World) [dB Tryz.prog w] [dB Tryz.prog w] (j k:DK) (h1:At w jR j) (h2:At w jR k):cA Tryz.prog 16 [dV jR j,dV jR k] w fun v N=>v=.bool true∧N=[]:=
 (sK (Bk w jR jR j.nb k.nb j.fb k.fb j.nc k.nc j.fc k.fc (dl j.qs) (dl k.qs) h1 h2 (by decide) (by decide) (by decide))).mono fun v N ⟨h1,O2,h2,_⟩=>⟨h2.trans (ax Value.bool (av F)),h1⟩
theorem VH (w:World) [dB Tryz.prog w] [dB Tryz.prog w] (k:DK) (h:At w PE k):cA Tryz.prog 14 [dV PE k] w fun v N=> ∃b c,v=.tuple #[.slice b FG.length c,vI 0]∧N=[aq b c 72 5 (bX FG)]:=by
 have h9:=Ps w PE k h HE (by decide) Nr
 rw[Ns,Nt]at h9
 exact h9
theorem Ee (w:World) [dB Tryz.prog w]:cA Tryz.prog 11 [] w fun v N=>v=.bool true∧N=[]:=by
 refine aG func11 F ntmps11 F ?_
 refine ai (aj F (ae (ai (ao F (bm JR (aW Vw) F ?_)))))
 rintro vr O' ⟨N,rfl,b1,c1,rfl,rfl⟩
 refine ao F (bm JS (aX fun w1 hI=>(haveI:=ey hI;NC w1 b1 c1 (hI.gW (mG 0 F)))) F ?_)
 rintro vr O' ⟨N,rfl,k1,rfl,rfl⟩
 refine ah F (ad (bG (vs:=_) F F) (ad (bG (vs:=_) F F) (ao F (bu bK F (fun z1=>?_)))))
 refine ao F (bV (vs:=(dC jR k1)) 0 bK F F F F ?_)
 refine aj F ?_
 refine ef (O':=[oI z1 25 (dC jR k1),dI 56 4 3 jR k1]) (by exact Sub.k (.k .z)) ?_
 refine ae (ai (ao F (cH (m:=2) (parts:=[(0,.const (vI 0)),(1,.const (vI 1))]) (cs:=[vI 0,vI 1]) cI bl (by decide) (by kernel_rfl) F (fun z2=>?_))))
 refine ao F (cH (m:=2) (parts:=[(0,.const (vI 2)),(1,.const (vI 3))]) (cs:=[vI 2,vI 3]) cI bl (by decide) (by kernel_rfl) F (fun z3=>?_))
 refine ao F (cH (m:=2) (parts:=[(0,.const (vI 0)),(1,.const (vI 1))]) (cs:=[vI 0,vI 1]) cI bl (by decide) (by kernel_rfl) F (fun z4=>?_))
 refine ao F (cH (m:=2) (parts:=[(0,.const (vI 2)),(1,.const (vI 3))]) (cs:=[vI 2,vI 3]) cI bl (by decide) (by kernel_rfl) F (fun z5=>?_))
 refine ao F (cH (m:=4) (parts:=[(0,.tmp 17),(1,.tmp 18),(2,.tmp 19),(3,.tmp 20)]) (cs:=[(.slice (aD z2) 2 2),(.slice (aD z3) 2 2),(.slice (aD z4) 2 2),(.slice (aD z5) 2 2)]) eI cU (by decide) (by kernel_rfl) F (fun z6=>?_))
 refine ao F (cH (m:=4) (parts:=[(0,.const (.bool false)),(1,.const (.bool false)),(2,.const (.bool true)),(3,.const (.bool true))]) (cs:=[.bool false,.bool false,.bool true,.bool true]) eu fw (by decide) (by kernel_rfl) F (fun z7=>?_))
 refine ad (cF (cs:=[vI 1,(vI 0),(.slice (aD z6) 4 4),(.slice (aD z7) 4 4)]) jj bK (by kernel_rfl)) (ao F (bu bK F (fun z8=>?_)))
 refine ao F (bV (vs:=[vI 1,(vI 0),(.slice (aD z6) 4 4),(.slice (aD z7) 4 4)]) 0 bK F F F F ?_)
 refine ae ?_
 refine dv (O':=[aq (aD z6) 4 56 1 [(.slice (aD z2) 2 2),(.slice (aD z3) 2 2),(.slice (aD z4) 2 2),(.slice (aD z5) 2 2)],aq (aD z7) 4 4 1 [.bool false,.bool false,.bool true,.bool true],aq (aD z2) 2 3 1 [vI 0,vI 1],aq (aD z3) 2 3 1 [vI 2,vI 3],aq (aD z4) 2 3 1 [vI 0,vI 1],aq (aD z5) 2 3 1 [vI 2,vI 3],oI z8 25 [vI 1,(vI 0),(.slice (aD z6) 4 4),(.slice (aD z7) 4 4)],oI z1 25 (dC jR k1),dI 56 4 3 jR k1]) (by exact Sub.eQ [oI z8 25 [vI 1,(vI 0),(.slice (aD z6) 4 4),(.slice (aD z7) 4 4)],aq (aD z7) 4 4 1 [.bool false,.bool false,.bool true,.bool true]] _ (.eQ [oI z8 25 [vI 1,(vI 0),(.slice (aD z6) 4 4),(.slice (aD z7) 4 4)]] _ (.eQ [oI z8 25 [vI 1,(vI 0),(.slice (aD z6) 4 4),(.slice (aD z7) 4 4)],aq (aD z5) 2 3 1 [vI 2,vI 3],aq (aD z4) 2 3 1 [vI 0,vI 1],aq (aD z3) 2 3 1 [vI 2,vI 3]] _ (.eQ [oI z8 25 [vI 1,(vI 0),(.slice (aD z6) 4 4),(.slice (aD z7) 4 4)],aq (aD z5) 2 3 1 [vI 2,vI 3],aq (aD z4) 2 3 1 [vI 0,vI 1]] _ (.eQ [oI z8 25 [vI 1,(vI 0),(.slice (aD z6) 4 4),(.slice (aD z7) 4 4)],aq (aD z5) 2 3 1 [vI 2,vI 3]] _ (.eQ [oI z8 25 [vI 1,(vI 0),(.slice (aD z6) 4 4),(.slice (aD z7) 4 4)]] _ (.k (.k (.k .z))))))))) ?_
 obtain⟨k3,tq⟩: ∃k:DK,k=⟨some ⟨z6,0,none⟩,4,some ⟨z7,0,none⟩,4,[⟨some ⟨z2,0,none⟩,2,[0,1]⟩,⟨some ⟨z3,0,none⟩,2,[2,3]⟩,⟨some ⟨z4,0,none⟩,2,[0,1]⟩,⟨some ⟨z5,0,none⟩,2,[2,3]⟩]⟩:=⟨_,F⟩
 refine dv (O':=(([aq k3.nb k3.nc 56 1 (dl k3.qs),aq k3.fb k3.fc 4 1 (cE jR.aV)]++ce 3 k3.qs)++[oI z8 25 [vI 1,(vI 0),(.slice (aD z6) 4 4),(.slice (aD z7) 4 4)],oI z1 25 (dC jR k1),dI 56 4 3 jR k1])) (by subst tq;exact Sub.rf) ?_
 refine sY (φ:=nums k3.qs=jR.next) (by subst tq;rfl) ?_
 refine dv (O':=[dI 56 4 3 jR k3,oI z8 25 (dC jR k3),oI z1 25 (dC jR k1),dI 56 4 3 jR k1]) (by subst tq;exact Sub.rf) ?_
 refine ai (ao F (bm JR (aW Vx) F ?_))
 rintro vr O' ⟨N,rfl,b2,c2,rfl,rfl⟩
 refine ao F (bm JS (aX fun w1 hI=>(haveI:=ey hI;ND w1 b2 c2 (hI.gW (mG 0 F)))) F ?_)
 rintro vr O' ⟨N,rfl,M,k2,rfl,rfl,hM⟩
 refine ah F (ad (bG (vs:=_) F F) (ad (bG (vs:=_) F F) (ao F (bu bK F (fun z9=>?_)))))
 refine ao F (bV (vs:=(dC M k2)) 0 bK F F F F ?_)
 refine aj F ?_
 refine ef (O':=[oI z9 25 (dC M k2),oI z8 25 (dC jR k3),oI z1 25 (dC jR k1),dI 56 4 3 M k2,dI 56 4 3 jR k3,dI 56 4 3 jR k1]) (by exact Sub.k (.eQ [dI 56 4 3 M k2,aq b2 c2 72 5 (bX th),dI 56 4 3 jR k3] _ (.eQ [dI 56 4 3 M k2,aq b2 c2 72 5 (bX th),dI 56 4 3 jR k3] _ (.k (.d (.k (.k .z))))))) ?_
 refine ae (ai (ad (ew 0 cS F bK F F F) (ao F (cH (m:=3) (parts:=[(0,.const (.int .u8 0)),(1,.const (.int .u8 3)),(2,.const (.int .u8 0))]) (cs:=[.int .u8 0,.int .u8 3,.int .u8 0]) m_ dF (by decide) (by kernel_rfl) F (fun pF=>?_)))))
 refine ao F (bm PH (aX fun w1 hI=>(haveI:=ey hI;PG w1 hM k2 (hI.at (mG 4 F)) (aD pF) 3 [0,3,0] (hI.gW (cs:=Ai [0,3,0]) (mG 0 F)) (by decide) F _ RB)) F ?_)
 rintro vr O' ⟨N,rfl,rfl,rfl⟩
 refine ah F (ad (bG (vs:=_) F F) (ad (bG (vs:=_) F F) (aj F (aj F ?_))))
 refine ef (O':=[oI z9 25 (dC M k2),oI z8 25 (dC jR k3),oI z1 25 (dC jR k1),dI 56 4 3 M k2,dI 56 4 3 jR k3,dI 56 4 3 jR k1]) (by exact Sub.d (.k (.k (.k (.k (.k (.k .z))))))) ?_
 refine ae (ai (ad (ew 0 cS F bK F F F) (ao F (cH (m:=3) (parts:=[(0,.const (.int .u8 3)),(1,.const (.int .u8 1)),(2,.const (.int .u8 2))]) (cs:=[.int .u8 3,.int .u8 1,.int .u8 2]) m_ dF (by decide) (by kernel_rfl) F (fun yp=>?_)))))
 refine ao F (bm PH (aX fun w1 hI=>(haveI:=ey hI;PG w1 hM k2 (hI.at (mG 4 F)) (aD yp) 3 [3,1,2] (hI.gW (cs:=Ai [3,1,2]) (mG 0 F)) (by decide) F _ RC)) F ?_)
 rintro vr O' ⟨N,rfl,rfl,rfl⟩
 refine ah F (ad (bG (vs:=_) F F) (ad (bG (vs:=_) F F) (aj F (aj F ?_))))
 refine ef (O':=[oI z9 25 (dC M k2),oI z8 25 (dC jR k3),oI z1 25 (dC jR k1),dI 56 4 3 M k2,dI 56 4 3 jR k3,dI 56 4 3 jR k1]) (by exact Sub.d (.k (.k (.k (.k (.k (.k .z))))))) ?_
 refine ae (ai (ao F (cO (v:=vI 1) cI bl F F F (fun z12=>?_))))
 refine ao F (cO (v:=vI 2) cI bl F F F (fun nF=>?_))
 refine ao F (cO (v:=vI 2) cI bl F F F (fun Bg=>?_))
 refine ao F (cH (m:=3) (parts:=[(0,.tmp 42),(1,.tmp 43),(2,.tmp 44)]) (cs:=[(.slice (aD z12) 1 1),(.slice (aD nF) 1 1),(.slice (aD Bg) 1 1)]) eI cU (by decide) (by kernel_rfl) F (fun FJ=>?_))
 refine ao F (cH (m:=3) (parts:=[(0,.const (.bool false)),(1,.const (.bool true)),(2,.const (.bool false))]) (cs:=[.bool false,.bool true,.bool false]) eu fw (by decide) (by kernel_rfl) F (fun VI=>?_))
 refine ad (cF (cs:=[(vI 0),(vI 0),(.slice (aD FJ) 3 3),(.slice (aD VI) 3 3)]) jj bK (by kernel_rfl)) (ao F (bm PI (aX fun w1 hI=>(haveI:=ey hI;VH w1 ⟨some ⟨FJ,0,none⟩,3,some ⟨VI,0,none⟩,3,[⟨some ⟨z12,0,none⟩,1,[1]⟩,⟨some ⟨nF,0,none⟩,1,[2]⟩,⟨some ⟨Bg,0,none⟩,1,[2]⟩]⟩ (VG (hI.gW (mG 1 F)) F (List.forall_mem_cons.2 ⟨hI.gW (cs:=ints [1]) (mG 4 F),List.forall_mem_cons.2 ⟨hI.gW (cs:=ints [2]) (mG 3 F),List.forall_mem_cons.2 ⟨hI.gW (cs:=ints [2]) (mG 2 F),fun _ h=>by cases h⟩⟩⟩) (hI.gW (mG 0 rfl))))) rfl ?_))
 rintro vr O' ⟨N,rfl,b4,c4,rfl,rfl⟩
 refine ah F (ad (bG (vs:=_) F F) (ad (bG (vs:=_) F F) (aj F (aj F ?_))))
 refine ef (O':=[oI z9 25 (dC M k2),oI z8 25 (dC jR k3),oI z1 25 (dC jR k1),aq b4 c4 72 5 (bX FG),dI 56 4 3 M k2,dI 56 4 3 jR k3,dI 56 4 3 jR k1]) (by exact Sub.eQ [aq b4 c4 72 5 (bX FG),aq (aD VI) 3 4 1 [.bool false,.bool true,.bool false],aq (aD FJ) 3 56 1 [(.slice (aD z12) 1 1),(.slice (aD nF) 1 1),(.slice (aD Bg) 1 1)],aq (aD Bg) 1 3 1 [vI 2],aq (aD nF) 1 3 1 [vI 2],aq (aD z12) 1 3 1 [vI 1]] _ (.eQ [aq b4 c4 72 5 (bX FG),aq (aD VI) 3 4 1 [.bool false,.bool true,.bool false],aq (aD FJ) 3 56 1 [(.slice (aD z12) 1 1),(.slice (aD nF) 1 1),(.slice (aD Bg) 1 1)],aq (aD Bg) 1 3 1 [vI 2],aq (aD nF) 1 3 1 [vI 2],aq (aD z12) 1 3 1 [vI 1]] _ (.eQ [aq b4 c4 72 5 (bX FG),aq (aD VI) 3 4 1 [.bool false,.bool true,.bool false],aq (aD FJ) 3 56 1 [(.slice (aD z12) 1 1),(.slice (aD nF) 1 1),(.slice (aD Bg) 1 1)],aq (aD Bg) 1 3 1 [vI 2],aq (aD nF) 1 3 1 [vI 2],aq (aD z12) 1 3 1 [vI 1]] _ (.k (.d (.d (.d (.d (.d (.k (.k (.k .z)))))))))))) ?_
 refine ae (ai (ah F (ad (aA (bM F F) (av (by first|rfl|decide))) (ah F (aB F F (ew 2 cS F bK F F F) (aB F F (ew 1 cS F bK F F F) ?_))))))
 refine iv F F F (bm PJ (aX fun w1 hI=>(haveI:=ey hI;eqS w1 k1 k3 (hI.at (mG 6 F)) (hI.at (mG 5 F)))) F ?_)
 rintro vr O' ⟨N,rfl,rfl,rfl⟩
 refine ad (cg F F) (ah F (aB F F (aK F) (aB F F (aA (bM F F) (av (by first|rfl|decide))) (ad (cg F F) (ah F (aB F F (aK F) (ad (cg F F) (ah F (aB F F (aK F) (aB F F (aA (bM F F) (av (by first|rfl|decide))) ?_))))))))))
 refine ad (cg F F) (ah F (aB F F (aK F) (aB F F (i_ F) (ad (cg F F) (ah F (aB F F (aK F) (aB F F (aA (bM F F) (av (by first|rfl|decide))) (ad (cg F F) (ah F (aB F F (aK F) ?_))))))))))
 refine aB F F (aA (bM F F) (av (by first|rfl|decide))) (ad (cg F F) (ah F (aB F F (aK F) ?_)))
 refine iv F F F (bm JR (aW Vy) F ?_)
 rintro vr O' ⟨N,rfl,b3,c3,rfl,rfl⟩
 refine iv F F F (bm VJ (aX fun w1 hI=>(haveI:=ey hI;(show cA _ _ _ _ _ from by
   have h9:=NE w1 b4 b3 c4 c3 FG FG (hI.gW (mG 4 F)) (hI.gW (mG 0 F)) (by decide)
   rw[av F]at h9
   exact h9))) F ?_)
 rintro vr O' ⟨N,rfl,rfl,rfl⟩
 refine ad (cg F F) (aj F (ae (aN (az ?_))))
 refine aT (.bool true) Tryz.results11 F ?_
 exact⟨[],Sub.z,F,F⟩
end Go.Proofs.YtgdbfideeeegmaaGreatDoor

namespace Go.Proofs.YtgdbfideeeegmaaGreatDoor
open Go.Lx Go.RowKit _root_.Go.Proofs.Tryz
theorem XR (w:World) [dB Tryz.prog w] [dB Tryz.prog w] (d:cM) (k:DK) (h:At w d k) (hb:d.next.length<9223372036854775807) (qV: ∀r∈d.next,r.length<9223372036854775807) (rP:d.aV.length<9223372036854775807) (hn:d.next.length<10000):
  cA Tryz.prog 23 [dV d k] w fun v N=> ∃M k',v=.tuple #[dV M k',vI (cX d:Int)]∧N=[dI 56 4 3 M k']∧M=rO d:=(RE w d k h hb qV rP fun _=>hn).mono fun v N ⟨k',h1,h2⟩=>⟨rO d,k',h1,h2,F⟩
theorem TE (w:World) [dB Tryz.prog w] [dB Tryz.prog w] (eb:Option Addr) (ec:Nat) (e:List eE) (hE:Sl w eb (bX e)) (DE:e.length<4611686018427387904) (oz: ∀x∈e,x.p<256∧x.n<256) (vars:Int) (h0:im vars e=0) (h1:e.any h_=false):
  cA Tryz.prog 25 [.slice eb e.length ec,vI vars] w fun r N=>r=.tuple #[.bool true,vI 0]∧N=[]:=by
 have h:=On w eb ec e hE DE oz vars
 rw[h0,h1]at h
 exact h
theorem IT (w:World) [dB Tryz.prog w] (a:cM) (k:DK) (ha:At w a k) (GI:a.next.length<9223372036854775807) (uQ: ∀r∈a.next,r.length<9223372036854775807) (uR:a.aV.length<9223372036854775807):
  cA Tryz.prog 6 [dV a k] w fun r N=>r=.bool true∧N=[]:=by
 refine aG func6 F ntmps6 F ?_
 refine ai (ao F (dE (cs:=(dC a k)) F F (fun z1=>?_)))
 refine aj F (ae ?_)
 let gd:Value:=(.pointer (aD z1))
 refine gh (fun ρ O=>Sub [oI z1 25 (dC a k)] O∧(¬pB a=true∧a.next.length≤6)∧dt [(0,(dV a k)),(1,gd)] ρ) ?_ ?_
 ·refine aO ?_
  refine be (ad (ew 0 cS F bK F F F) (ao F (cH (m:=1) (parts:=[(0,_)]) (cs:=(dC a k)) G0 bK (by decide) (by kernel_rfl) F (fun z2=>?_))))
  refine ao F (bm Z0 (aX fun w1 hI=>(haveI:=ey hI;Tu w1 (aD z2) a k (hI.gW (mG 0 F)) (hI.oP ha) GI)) F ?_)
  rintro vr O' ⟨N,rfl,rfl,rfl⟩
  by_cases XT:(pB a)=true
  ·refine ad (aA (aK F) (XT)) ?_
   refine aS F F (aS F F (aS F F (aS F F (ad (cg F F) (ah F (aS F F (aS F F (ad (cg F F) ?_))))))))
   refine ae ?_
   refine bW F ?_
   refine ai (ao F (bm K8 (aW Ee) F ?_))
   rintro vr O' ⟨N,rfl,rfl,rfl⟩
   refine aj F (ae (aN (az ?_)))
   refine aT (.bool true) Tryz.results6 F ?_
   exact⟨[],Sub.z,F,F⟩
  refine ad (aA (aK F) (Bool.eq_false_iff.2 XT)) (aB F F (bj cS F fa F F) (aB F F (bn 1 eI F F F F) (aB F F (cP eI F) (aB F F (gH F F) (ad (b_ F F) ?_)))))
  by_cases XU:(a.next.length:Int)>6
  ·refine ad (aA (aK F) (av XU)) ?_
   refine aS F F (aS F F (ad (cg F F) (ae ?_)))
   refine bW F ?_
   refine ai (ao F (bm K8 (aW Ee) F ?_))
   rintro vr O' ⟨N,rfl,rfl,rfl⟩
   refine aj F (ae (aN (az ?_)))
   refine aT (.bool true) Tryz.results6 F ?_
   exact⟨[],Sub.z,F,F⟩
  refine ad (aA (aK F) (ak XU)) ?_
  refine iv F F F (bm K8 (aW Ee) F ?_)
  rintro vr O' ⟨N,rfl,rfl,rfl⟩
  refine aB F F (i_ F) (ad (b_ F F) (ae (a_ F (aE ?_))))
  exact⟨(by exact Sub.d (.k .z)),⟨by simp_all,by omega⟩,⟨F,F,trivial⟩⟩
 rintro ρ O ⟨hS,⟨G9,hn6⟩,hH⟩
 obtain⟨gP,rfl⟩:=hH.elim
 clear hH
 refine dv hS ?_
 refine aO ?_
 have Mx:=Tt a
 have oz:=XQ a
 refine be (ad (ew 0 cS F bK F F F) (ao F (bm PI (aX fun w1 hI=>(haveI:=ey hI;aaU w1 a k (hI.oP ha) GI uQ uR)) F ?_)))
 rintro vr O' ⟨N,rfl,b4,c4,rfl,rfl⟩
 refine ah F (ad (bG (vs:=_) F F) (ad (bG (vs:=_) F F) (aj F (aj F (ae (ai (ad (ew 1 cS F bK F F F) (ao F (bm xm (aX fun w1 hI=>(haveI:=ey hI;XR w1 a k (hI.oP ha) GI uQ uR (by omega))) F ?_)))))))))
 rintro vr O' ⟨N,rfl,M6,k6,rfl,rfl,hM6⟩
 refine ah F (ad (bG (vs:=_) F F) (ad (bG (vs:=_) F F) (ao F (bu bK F (fun z3=>?_)))))
 refine ao F (bV (vs:=(dC M6 k6)) 0 bK F F F F ?_)
 refine aj F (ae ?_)
 let eJ:List Lx.Item:=[oI z3 25 (dC M6 k6),dI 56 4 3 M6 k6,aq b4 c4 72 5 (bX (tV a)),oI z1 25 (dC a k)]
 let gr:Value:=(.slice b4 ((tV a).length) c4)
 refine zj eJ [(0,(dV a k)),(1,gd),(3,gr),(4,vN (tE a)),(5,(.pointer (aD z3))),(6,vN (cX a))] F (.of F) (fun gP=>?_)
 refine gh (fun ρ O=>Sub eJ O∧tE a=0∧dt [(0,(dV a k)),(1,gd),(3,gr),(4,vN (tE a)),(5,(.pointer (aD z3))),(6,vN (cX a))] ρ) ?_ ?_
 ·refine aO ?_
  refine be (ah F (ad (dP F F) (ae (aP F (fun hc=>?_) (fun hc=>?_)))))
  ·have acJ:tE a≠0:=by omega
   refine aO ?_
   obtain⟨x1,x2⟩:=OZ (a:=a) (by omega)
   refine be (ah F (ad (cP dJ F) (ad (aA (bM F F) (av (by omega))) (ah F (aB F F (aK F) (aB F F (aK F) (aB F F (bM F F) ?_)))))))
   by_cases XV:((cX a:Nat):Int)=((tE a:Nat):Int)
   ·refine aB F F (aA (aK F) (av XV)) ?_
    refine aS F F (aS F F (aS F F (aS F F (aS F F (aS F F (aB F F (cg F F) (ad (cg F F) (aj F ?_))))))))
    refine ae (aN (az ?_))
    refine aT (.bool true) Tryz.results6 F ?_
    exact⟨[],Sub.z,F,F⟩
   refine aB F F (aA (aK F) (ak XV)) (aB F F (aK F) (aB F F (aA (bM F F) (av (by omega))) (aB F F (aK F) (aB F F (aK F) (aB F F (aA (bM F F) (av (by omega))) (aB F F (cg F F) (aB F F (b_ F F) ?_)))))))
   refine ad (cg F F) (aj F (ae (aN (az ?_))))
   refine aT (.bool true) Tryz.results6 F ?_
   exact⟨[],Sub.z,F,F⟩
  have acK: ¬tE a≠0:=by omega
  refine aE ?_
  exact⟨(by exact Sub.rf),by omega,(.of F)⟩
 rintro ρ O ⟨hS,Mj,hH⟩
 obtain⟨gP,rfl⟩:=hH.elim
 clear hH
 refine dv hS ?_
 refine aO ?_
 obtain⟨g1,g2,g3,g4⟩:=Mi Mj
 refine be (ah F (ad (bj cS F bl F F) (ad (bn 3 dS F F F F) (ao F (bm Xc (aX fun w1 hI=>(haveI:=ey hI;TE w1 b4 c4 (tV a) (hI.gW (mG 2 F)) (by omega) oz a.vars g2 g3)) F ?_)))))
 rintro vr O' ⟨N,rfl,rfl,rfl⟩
 refine ah F (ad (bG (vs:=_) F F) (ad (bG (vs:=_) F F) (aj F (aj F (ae (ai (ah F (ad (bj cS F bl F F) (ad (bn 3 dS F F F F) (ao F (bm JS (aX fun w1 hI=>(haveI:=ey hI;Xs w1 b4 c4 (tV a) (hI.gW (mG 2 F)) (by omega) oz a.vars 4096 (fun h=>absurd (g3.symm.trans h) (by decide)))) F ?_)))))))))))
 rintro vr O' ⟨N,rfl,D9,k9,er9,rfl,rfl,hF9⟩
 refine ah F (ad (bG (vs:=_) F F) (ad (bG (vs:=_) F F) (ao F (bu bK F (fun z4=>?_)))))
 refine ao F (bV (vs:=(dC D9 k9)) 0 bK F F F F ?_)
 refine aj F (ae ?_)
 refine zj [oI z4 25 (dC D9 k9),dI 56 4 3 D9 k9,oI z3 25 (dC M6 k6),dI 56 4 3 M6 k6,aq b4 c4 72 5 (bX (tV a)),oI z1 25 (dC a k)] [(0,(dV a k)),(1,gd),(3,gr),(4,vN (tE a)),(5,(.pointer (aD z3))),(6,vN (cX a)),(7,.bool true),(8,vN 0),(9,(.pointer (aD z4))),(10,vN er9)] F (.of F) (fun gP=>?_)
 refine aO ?_
 have g5:=g4 D9 er9 hF9
 refine be (ah F (ad (aA (bM F F) (av (by omega))) (ah F (aB F F (aK F) (aB F F (aA (bM F F) (av (by omega))) (ad (cg F F) (ah F (aB F F (aK F) (ad (cg F F) (ah F (aB F F (aK F) ?_)))))))))))
 refine aB F F (bM F F) ?_
 by_cases XW:((er9:Nat):Int)=10
 ·refine aB F F (aA (aK F) (av XW)) ?_
  refine aB F F (aK F) (aB F F (cP dJ F) (aB F F (aA (gH F F) (av (by omega))) (aB F F (cg F F) (aB F F (aK F) (aS F F (aS F F (aS F F ?_)))))))
  refine aS F F (aS F F (aS F F (aS F F (aB F F (cg F F) (ad (cg F F) (aj F (ae (aN (az ?_)))))))))
  refine aT (.bool true) Tryz.results6 F ?_
  exact⟨[],Sub.z,F,F⟩
 refine aB F F (aA (aK F) (ak XW)) (aS F F (aS F F (aS F F (aB F F (b_ F F) (aB F F (aK F) (aB F F (aK F) (aB F F (aA (bM F F) (av (by omega))) ?_)))))))
 refine aB F F (aK F) (aB F F (ew 0 cS F bK F F F) (aB F F (ew 2 cS F bK F F F) ?_))
 refine iv F F F (bm PJ (aX fun w1 hI=>(haveI:=ey hI;Tv w1 k9 k6 (hI.at (mG 1 F)) (hI.at (mG 3 F)) ((g5.resolve_left (by omega)).2.1.trans hM6.symm) (by rw[hM6];exact(g5.resolve_left (by omega)).2.2))) F ?_)
 rintro vr O' ⟨N,rfl,rfl,rfl⟩
 refine aB F F (cg F F) (aB F F (b_ F F) (ad (cg F F) (aj F (ae (aN (az ?_))))))
 refine aT (.bool true) Tryz.results6 F ?_
 exact⟨[],Sub.z,F,F⟩
end Go.Proofs.YtgdbfideeeegmaaGreatDoor

