/- Contracts of functions of the program, and what they answer. Conditions: those each theorem names. -/
import Derived.Test.YtgdbfideeeegmaaGreatDoorB2
import Derived.Test.YtgdbfideeeegmaaGreatDoorA2
import Derived.Test.YtgdbfideeeegmaaGreatDoorA5
import Derived.Test.YtgdbfideeeegmaaGreatDoorA9
import Derived.Test.YtgdbfideeeegmaaGreatDoorB1
import Derived.Test.YtgdbfideeeegmaaGreatDoorA8
import Derived.Test.YtgdbfideeeegmaaGreatDoorB0
import Derived.Test.YtgdbfideeeegmaaGreatDoorA4
import Derived.Test.YtgdbfideeeegmaaGreatDoorA7
import Derived.Laws.StructEq
import Derived.ChangeKeysEq
import Derived.Test.YtgdbfideeeegmaaGreatDoorA0
set_option linter.unusedSectionVars false
set_option linter.unusedSimpArgs false
set_option linter.unusedVariables false
set_option linter.unnecessarySimpa false
set_option maxHeartbeats 8000000
set_option maxRecDepth 20000
namespace Go.Lx
open Go.RowKit Go.Proofs.YtgdbfideeeegmaaGreatDoor
theorem Bp {p q p' q':Lg} (hp: ∀u,p' u.reverse=p u) (hq: ∀u,q' u.reverse=q u) (w:List Nat):je q' p' w.reverse=je p q w:=by
 rw[eo,i_,i_]
 constructor
 ·rintro⟨x,y,e,h1,h2⟩
  have e2:w=y.reverse++x.reverse:=by rw[←List.reverse_append,←e,List.reverse_reverse]
  exact⟨y.reverse,x.reverse,e2,by rw[←hp,List.reverse_reverse];exact h2,by rw[←hq,List.reverse_reverse];exact h1⟩
 ·rintro⟨x,y,rfl,h1,h2⟩
  exact⟨y.reverse,x.reverse,List.reverse_append,by rw[hq];exact h2,by rw[hp];exact h1⟩
theorem MF {p p':Lg} (hp: ∀u,p' u.reverse=p u) (w:List Nat):pK p' w.reverse=pK p w:=by
 have key: ∀ {p p':Lg},(∀u,p' u.reverse=p u)→ ∀ {w:List Nat},iI p w→iI p' w.reverse:=by
  intro p p' hp w h
  induction h with
  |nil=>exact .nil
  |pG h1 _ ih=>rw[List.reverse_append];exact ih.snoc (by rw[hp];exact h1)
 rw[eo,oF,oF]
 constructor
 ·intro h
  have:=key (p:=p') (p':=p) (fun u=>by rw[←hp,List.reverse_reverse]) h
  rwa[List.reverse_reverse]at this
 ·exact key hp
theorem MG (n:Nat) (h:Nat→Bool) (w:List Nat):DN n h w.reverse=DN n h w:=by unfold DN;rw[List.length_reverse,List.all_reverse]
theorem jz: ∀(t:Rx) (w:List Nat),gB (eJ t) w.reverse=gB t w
 | .none,w=>rfl
 | .empty,w=>MG _ _ w
 | .letter p n,w=>MG _ _ w
 | .gZ a b,w=>Bp (jz a) (jz b) w
 | .iv a b,w=>by show(gB (eJ a) _||gB (eJ b) _)=_;rw[jz a,jz b];rfl
 | .and a b,w=>by show(gB (eJ a) _&&gB (eJ b) _)=_;rw[jz a,jz b];rfl
 | .not a,w=>by show(!gB (eJ a) _)=_;rw[jz a];rfl
 | .star a,w=>MF (jz a) w
 | .ahead a,w=>jz a w
 | .behind a,w=>jz a w
theorem IF {w:List Nat} {i j:Nat} (YU:i≤j) (hj:j≤w.length):(w.reverse.drop (w.length-j)).take (w.length-i-(w.length-j))=((w.drop i).take (j-i)).reverse:=by
 rw[List.drop_reverse,List.take_reverse,show w.length-(w.length-j)=j by omega,ck,Nat.min_eq_left hj,show j-(w.length-i-(w.length-j))=i by omega,List.drop_take]
theorem Pv {n i j:Nat} (hi:i≤n) (hj:j≤n):decide (n-j≤n-i∧n-i≤n)=decide (i≤j∧j≤n):=by
 rw[decide_eq_decide];omega
theorem oS {w:List Nat} {p p':Lg} (hp: ∀u,p' u.reverse=p u) {i j:Nat} (hi:i≤w.length) (hj:j≤w.length):
  (decide (w.length-j≤w.length-i∧w.length-i≤w.reverse.length)&&p' ((w.reverse.drop (w.length-j)).take (w.length-i-(w.length-j))))=(decide (i≤j∧j≤w.length)&&p ((w.drop i).take (j-i))):=by
 rw[List.length_reverse,Pv hi hj]
 by_cases h:i≤j∧j≤w.length
 ·rw[IF h.1 h.2,hp]
 ·rw[ak h];rfl
theorem G1: ∀u:List Nat,(fun _:List Nat=>true) u.reverse=(fun _:List Nat=>true) u:=fun _=>rfl
theorem sM {w:List Nat}: ∀(t:Rx) {i j:Nat},i≤w.length→j≤w.length→sH w.reverse (eJ t) (w.length-j) (w.length-i)=sH w t i j
 | .gZ a b,i,j,hi,hj=>by
  simp only[eJ,sH]
  rw[eo,dc,dc,List.length_reverse]
  constructor
  ·rintro⟨k,hk,h⟩
   rw[eY]at hk
   rw[aJ]at h
   refine⟨w.length-k,List.mem_range.2 (by omega),?_⟩
   have h1:=sM b (i:=w.length-k) (j:=j) (by omega) hj
   have h2:=sM a (i:=i) (j:=w.length-k) hi (by omega)
   rw[show w.length-(w.length-k)=k by omega]at h1 h2
   rw[aJ]
   exact⟨h2▸h.2,h1▸h.1⟩
  ·rintro⟨k,hk,h⟩
   rw[eY]at hk
   rw[aJ]at h
   refine⟨w.length-k,List.mem_range.2 (by omega),?_⟩
   rw[sM b (by omega) hj,sM a hi (by omega),aJ]
   exact⟨h.2,h.1⟩
 | .iv a b,i,j,hi,hj=>by
  simp only[eJ,sH]
  rw[sM a hi hj,sM b hi hj]
 | .ahead a,i,j,hi,hj=>by
  simp only[eJ,sH]
  rw[List.length_reverse]
  by_cases h:i=j
  ·subst h
   rw[List.take_reverse,show w.length-(w.length-i)=i by omega,Bp (jz a) G1]
   congr 1
   rw[decide_eq_decide];omega
  ·rw[ak (by omega),ak (by omega)];rfl
 | .behind a,i,j,hi,hj=>by
  simp only[eJ,sH]
  rw[List.length_reverse]
  by_cases h:i=j
  ·subst h
   rw[List.drop_reverse,show w.length-(w.length-i)=i by omega,Bp G1 (jz a)]
   congr 1
   rw[decide_eq_decide];omega
  ·rw[ak (by omega),ak (by omega)];rfl
 | .none,i,j,hi,hj=>oS (jz .none) hi hj
 | .empty,i,j,hi,hj=>oS (jz .empty) hi hj
 | .letter p n,i,j,hi,hj=>oS (jz (.letter p n)) hi hj
 | .and a b,i,j,hi,hj=>oS (jz (.and a b)) hi hj
 | .not a,i,j,hi,hj=>oS (jz (.not a)) hi hj
 | .star a,i,j,hi,hj=>oS (jz (.star a)) hi hj
theorem nC {w:List Nat}: ∀ {t:Rx} (_:t.plain=true) {i j:Nat},sH w t i j=(decide (i≤j∧j≤w.length)&&gB t ((w.drop i).take (j-i)))
 | .gZ a b,h,i,j=>by
  simp only[Rx.plain,aJ]at h
  simp only[sH]
  rw[eo,dc,aJ,cD]
  show _↔_∧je (gB a) (gB b) _=true
  rw[i_]
  constructor
  ·rintro⟨k,hk,h1⟩
   rw[aJ,nC h.1,nC h.2,aJ,aJ,cD,cD]at h1
   obtain⟨⟨⟨c1,c2⟩,c3⟩,⟨c4,c5⟩,c6⟩:=h1
   refine⟨⟨by omega,c5⟩,_,_,?_,c3,c6⟩
   rw[show j-i=(k-i)+(j-k) by omega,List.take_add,List.drop_drop,show i+(k-i)=k by omega]
  ·rintro⟨⟨c1,c2⟩,x,y,e,h1,h2⟩
   have hl:x.length+y.length=j-i:=by
    have:=ax List.length e
    rw[ck,List.length_drop,aw]at this
    omega
   refine⟨i+x.length,List.mem_range.2 (by omega),?_⟩
   have hx:(w.drop i).take x.length=x:=by
    have:=ax (List.take x.length) e
    rwa[List.take_take,Nat.min_eq_left (by omega),List.take_left]at this
   have hy:(w.drop (i+x.length)).take y.length=y:=by
    have:=ax (List.drop x.length) e
    rwa[List.drop_take,List.drop_drop,List.drop_left,show j-i-x.length=y.length by omega]at this
   rw[aJ,nC h.1,nC h.2,aJ,aJ,cD,cD]
   exact⟨⟨⟨by omega,by omega⟩,by rw[show i+x.length-i=x.length by omega,hx];exact h1⟩,⟨by omega,c2⟩,by rw[show j-(i+x.length)=y.length by omega,hy];exact h2⟩
 | .iv a b,h,i,j=>by
  simp only[Rx.plain,aJ]at h
  simp only[sH]
  rw[nC h.1,nC h.2]
  show _=(_&&(gB a _||gB b _))
  rw[Bool.and_or_distrib_left]
 | .none,_,_,_| .empty,_,_,_| .letter _ _,_,_,_| .and _ _,_,_,_| .not _,_,_,_| .star _,_,_,_=>rfl
 | .ahead a,h,_,_| .behind a,h,_,_=>absurd h (by simp[Rx.plain])
theorem DE {vars:Int} {B:Nat} {e:List dK} (hB:B≤4096) (h0:gw vars e=0) (ho:Bx vars.toNat e B) (D6:e.length≤24) {w:List Nat} (hw:kO vars w):mx vars.toNat e w=sH w (oW e) 0 w.length:=by
 obtain⟨h1,h2,h3,h4,fs,h5,h6,h7⟩:=pm h0
 have Hq:kO ((vars.toNat:Nat):Int) w:=by rw[cR h1];exact hw
 unfold mx
 unfold Bx at ho
 by_cases hl:e.any lm=true
 ·rw[aO hl]at ho⊢
  refine TV (by omega) hB ((rm h5 e.length (e.length-1) (by omega) (by omega)).2 h7) ?_ ho.1 Hq
  have:=wm h5 e.length (e.length-1) (by omega) (by omega)
  show(jy e e.length (e.length-1)).lv≤12
  omega
 ·rw[az hl]
  have hp:(oW e).plain=true:=pA h5 (fun x hx=>by
   have:=List.any_eq_false.1 (show e.any lm=false by simpa using hl) x hx
   unfold lm at this
   simp only[Bool.or_eq_true,cD]at this
   omega) e.length (e.length-1) (by omega) (by omega)
  rw[nC hp,ay ⟨bn _,bF _⟩]
  simp
def uU (e:List dK):List dK:=post (eJ (oW e)) 0
theorem wx {vars:Int} {e:List dK} (lF: ∀x∈e,x.p<256∧x.n<256) (h0:gw vars e=0):gw vars (uU e)=0∧oW (uU e)=eJ (oW e)∧(uU e).length≤e.length∧(∀x∈uU e,x.p<256∧x.n<256)∧re e (oW e) (e.length-1):=by
 obtain⟨h1,h2,h3,h4,fs,h5,h6,h7⟩:=pm h0
 have zQ:re e (oW e) (e.length-1):=jX h5 lF e.length (e.length-1) (by omega) (by omega)
 have hc:(oW e).MD vars.toNat:=Ub (fun i hi=>pk h5 hi) zQ
 have hw:(oW e).wf=true:=(rm h5 e.length (e.length-1) (by omega) (by omega)).2 h7
 have hs:(oW e).sz≤e.length:=by have:=tU h5 e.length (e.length-1) (by omega) (by omega);unfold oW;omega
 obtain⟨k1,k2⟩:=ME h1 h2 (nz hc) (by rw[tZ];exact hw) (by rw[ez];omega)
 exact⟨k1,k2,by unfold uU;rw[fg,ez];exact hs,nB (nz hc) 0,zQ⟩
theorem MH {vars:Int} {B:Nat} {e:List dK} (hB:B≤4096) (lF: ∀x∈e,x.p<256∧x.n<256) (h0:gw vars e=0) (ho:Bx vars.toNat e B) (rG:Bx vars.toNat (uU e) B) (D6:e.length≤24) {w:List Nat} (hw:kO vars w):mx vars.toNat (uU e) w.reverse=mx vars.toNat e w:=by
 obtain⟨k1,k2,k3,_⟩:=wx lF h0
 rw[DE hB k1 rG (by omega) (fun x hx=>hw x (List.mem_reverse.1 hx)),DE hB h0 ho D6 hw,k2,List.length_reverse]
 have:=sM (w:=w) (oW e) (bn _) (bF _)
 rwa[fR,Nat.sub_zero]at this
end Go.Lx

namespace Go.Lx
open Go.RowKit Go.Proofs.YtgdbfideeeegmaaGreatDoor
def MI (vars jE:Int) (e:List dK) (l:List Nat) (x:Bool) (er:Nat):Prop:=
 ∃D Yl,XI (gw vars e) jE (fun M=>fM vars jE.toNat M (mx vars.toNat e)∧Bx vars.toNat e jE.toNat) (¬Bx vars.toNat e jE.toNat) D Yl∧((Yl≠0∧x=false∧er=Yl)∨(Yl=0∧x=Aq D l∧er=kp D l))
theorem uV {E:Nat} {vars jE:Int} {v:Nat} {e:List dK} {Z:Prop} {D:cU} {er:Nat} {L:List Nat→Bool} {K:Prop} (h:XI E jE (fun M=>fM vars jE.toNat M L∧K) Z D er) (h0:er=0):E=0∧fM vars jE.toNat D L∧K:=by
 rcases h with⟨h1,h2,_⟩|⟨_,_,h2,_⟩|⟨h1,_,⟨_,h3⟩|⟨h2,_⟩⟩
 ·exact absurd (h2.symm.trans h0) h1
 ·exact absurd (h2.symm.trans h0) (by decide)
 ·exact⟨h1,h3⟩
 ·exact absurd (h2.symm.trans h0) (by decide)
theorem MI.bad {vars jE:Int} {e:List dK} {l:List Nat} {x:Bool} {er:Nat} (h:MI vars jE e l x er) (h0:gw vars e≠0):er=gw vars e:=by
 obtain⟨D,Yl,h1,h2⟩:=h
 rcases h1 with⟨_,h3,_⟩|⟨h3,_⟩|⟨h3,_⟩
 ·rcases h2 with⟨_,_,h4⟩|⟨h4,_⟩
  ·exact h4.trans h3
  ·exact absurd (h3.symm.trans h4) h0
 ·exact absurd h3 h0
 ·exact absurd h3 h0
theorem G2 {d:cU} {vars:Int} {B:Nat} {p:Lg} (h:fM vars B d p) (l:List Nat):kp d l=if 64<l.length then 4 else if l.any (fun x=>decide (2^vars.toNat≤x))=true then 1 else 0:=by
 unfold kp
 rw[az (by rw[eA.2 h.valid];decide),h.vars]
theorem Fj {vars:Int} {e:List dK} {l:List Nat} {x1 x2:Bool} {r1 r2:Nat} (lF: ∀x∈e,x.p<256∧x.n<256) (h0:gw vars e=0) (D6:e.length≤24) (h1:MI vars 4096 e l x1 r1) (h2:MI vars 4096 (uU e) l.reverse x2 r2):r1=10∨r2=10∨(r1=r2∧x1=x2):=by
 obtain⟨D1,f1,g1,k1⟩:=h1
 obtain⟨D2,f2,g2,k2⟩:=h2
 have hb:(1:Int)≤4096∧(4096:Int)≤4096:=by decide
 have ten: ∀ {E:Nat} {G:cU→Prop} {Z:Prop} {D:cU} {er:Nat},E=0→XI E 4096 G Z D er→er≠0→er=10:=by
  intro E G Z D er he h hn
  rcases h with⟨c1,_⟩|⟨_,c1,_⟩|⟨_,_,⟨c1,_⟩|⟨c1,_⟩⟩
  ·exact absurd he c1
  ·exact absurd hb c1
  ·exact absurd c1 hn
  ·exact c1
 have hr:=wx lF h0
 rcases k1 with⟨c1,_,c3⟩|⟨c1,c2,c3⟩
 ·exact .inl (c3.trans (ten h0 g1 c1))
 rcases k2 with⟨d1,_,d3⟩|⟨d1,d2,d3⟩
 ·exact .inr (.inl (d3.trans (ten hr.1 g2 d1)))
 obtain⟨_,m1,o1⟩:=uV (v:=0) (e:=e) g1 c1
 obtain⟨_,m2,o2⟩:=uV (v:=0) (e:=e) g2 d1
 have e1:=G2 m1 l
 have e2:=G2 m2 l.reverse
 rw[List.length_reverse,List.any_reverse,←e1]at e2
 refine .inr (.inr ⟨by rw[c3,d3,e2],?_⟩)
 rw[c2,d2]
 unfold Aq
 rw[e2]
 by_cases hz:kp D1 l=0
 ·rw[aO hz,aO hz]
  have hw:kO vars l:=by
   rw[e1]at hz
   split at hz
   ·cases hz
   ·split at hz
    ·cases hz
    ·rename_i c
     intro x hx
     simp only[dc,cD,not_exists,not_and,Nat.not_le]at c
     exact c x hx
  have UH:kO vars l.reverse:=fun x hx=>hw x (List.mem_reverse.1 hx)
  have a1:=m1.iM l hw
  have a2:=m2.iM l.reverse UH
  rw[MH (by decide) lF h0 o1 o2 D6 hw,←a1]at a2
  exact a2.symm
 ·rw[az hz,az hz]
theorem Mw {l:List Nat} {k:Nat} (h:k<l.length):l.reverse.take (k+1)=l.reverse.take k++[l[l.length-1-k]'(by omega)]:=by
 rw[aH (by rw[List.length_reverse];exact h),List.getElem_reverse]
theorem t_ {P:Program} {base:World} {ρ:Env} {O:List Item} {fn:Func} {R:Value→List Item→Prop} {a i c:Nat} {T E:TypeId} {d:TypeDesc} {b:Nat} {v:Value} (u:Value) {cs:List Value} {fr:Nat×Nat} (hr:fn.results= #[.cell a T,.tmp c]) (hu:P.underlying T=some d) (ha:og d=false)
  (hp:ρ a=.pointer (some ⟨b,0,none⟩)) (hO:O[i]? =some (dF b (.cells (v::cs).toArray E fr))) (PN:ρ c=u)
  (h:R (.tuple #[v,u]) O):qZ P base fn ρ O R:=
 ⟨⟨_,O,cj (aZ _),h,fun w tmps hI ht=>by
  have h1:=s6 (P:=P) hu ha (hI.sX hO)
  have Hs:=ht a
  have hc:=ht c
  simp only[da]at Hs hc
  simp[results,hr,Hs,hc,hp,PN,asAddr,h1]⟩⟩
end Go.Lx

namespace Go.Proofs.YtgdbfideeeegmaaGreatDoor
open Go.Lx Go.RowKit _root_.Go.Proofs.Tryz
end Go.Proofs.YtgdbfideeeegmaaGreatDoor

namespace Go.Proofs.YtgdbfideeeegmaaGreatDoor
open Go.Lx Go.RowKit _root_.Go.Proofs.Tryz
def rT (w:World) (eb:Option Addr) (ec:Nat) (e:List dK) (ze zf zo i n:Nat) (aa:Nat→List dK):Prop:= ∀(ob:Option Addr) (oc:Nat) (xs:List dK),xs.length+n≤64→
 bW Tryz.prog w 55 [vN i,(.pointer (aD ze)),(.pointer (aD zf)),(.pointer (aD zo))] [dF zo (.cells (List.toArray [(.slice ob xs.length oc)]) 32 (0,0)),aq ob oc 72 5 (bt xs),dF ze (.cells (List.toArray [(.slice eb e.length ec)]) 32 (0,0)),dF zf (.cells (List.toArray [(.func (.func 55) #[] #[(.pointer (aD ze)),(.pointer (aD zf)),(.pointer (aD zo))])]) 58 (0,0))] (fun v O'=> ∃wv ww,v=vN (xs.length+n-1)∧O'=[dF zo (.cells (List.toArray [(.slice wv ((xs++aa xs.length).length) ww)]) 32 (0,0)),aq wv ww 72 5 (bt (xs++aa xs.length)),dF ze (.cells (List.toArray [(.slice eb e.length ec)]) 32 (0,0)),dF zf (.cells (List.toArray [(.func (.func 55) #[] #[(.pointer (aD ze)),(.pointer (aD zf)),(.pointer (aD zo))])]) 58 (0,0))])
set_option maxRecDepth 20000 in
theorem rT.under {w:World} {eb:Option Addr} {ec:Nat} {e:List dK} {ze zf zo i n:Nat} {aa:Nat→List dK} (h:rT w eb ec e ze zf zo i n aa) (B:List Lx.Item) {O:List Lx.Item} (ob:Option Addr) (oc:Nat) (xs:List dK) (hl:xs.length+n≤64) (hs:Sub ([dF zo (.cells (List.toArray [(.slice ob xs.length oc)]) 32 (0,0)),aq ob oc 72 5 (bt xs),dF ze (.cells (List.toArray [(.slice eb e.length ec)]) 32 (0,0)),dF zf (.cells (List.toArray [(.func (.func 55) #[] #[(.pointer (aD ze)),(.pointer (aD zf)),(.pointer (aD zo))])]) 58 (0,0))]++B) O):
  eK Tryz.prog w (.func (.func 55) #[] #[(.pointer (aD ze)),(.pointer (aD zf)),(.pointer (aD zo))]) [vN i] O (fun v O'=> ∃wv ww,v=vN (xs.length+n-1)∧O'=[dF zo (.cells (List.toArray [(.slice wv ((xs++aa xs.length).length) ww)]) 32 (0,0)),aq wv ww 72 5 (bt (xs++aa xs.length)),dF ze (.cells (List.toArray [(.slice eb e.length ec)]) 32 (0,0)),dF zf (.cells (List.toArray [(.func (.func 55) #[] #[(.pointer (aD ze)),(.pointer (aD zf)),(.pointer (aD zo))])]) 58 (0,0))]++B):=by
 refine(cP (first:=[]) (args:=[vN i]) (gr:=[(.pointer (aD ze)),(.pointer (aD zf)),(.pointer (aD zo))]) XB ((h ob oc xs hl).under (B:=B) hs)).mono ?_
 rintro v O' ⟨A',rfl,wv,ww,rfl,rfl⟩
 exact⟨wv,ww,F,F⟩
theorem Ak {L:List Lx.Item} {zo n c:Nat} {b:Option Addr} {A:List dK} {cs:List Value} (h1:n=A.length) (h2:cs=bt A):dF zo (.cells (List.toArray [(.slice b n c)]) 32 (0,0))::aq b c 72 5 cs::L=dF zo (.cells (List.toArray [(.slice b A.length c)]) 32 (0,0))::aq b c 72 5 (bt A)::L:=by subst h1 h2;rfl
theorem kN {A:List dK} {y:dK}:bt A++y.cells=bt (A++[y]):=by simp[bt]
theorem yg (w:World) [dE Tryz.prog w] (eb:Option Addr) (ec:Nat) (e:List dK) (hE:Sl w eb (bt e)) (ze zf zo:Nat) (i:Nat) (x:dK) (hx:e[i]? =some x) (yu:dH x.op=0) (h9:x.op≠9∧x.op≠10) (ob:Option Addr) (oc:Nat) (xs:List dK) (yY:xs.length+1≤64):
  bW Tryz.prog w 55 [vN i,(.pointer (aD ze)),(.pointer (aD zf)),(.pointer (aD zo))] [oI zo 32 [(.slice ob xs.length oc)],aq ob oc 72 5 (bt xs),oI ze 32 [(.slice eb e.length ec)],oI zf 58 [(.func (.func 55) #[] #[(.pointer (aD ze)),(.pointer (aD zf)),(.pointer (aD zo))])]] (fun v O'=> ∃wv ww,v=vN (xs.length+1-1)∧O'=[oI zo 32 [(.slice wv ((xs++[x]).length) ww)],aq wv ww 72 5 (bt (xs++[x])),oI ze 32 [(.slice eb e.length ec)],oI zf 58 [(.func (.func 55) #[] #[(.pointer (aD ze)),(.pointer (aD zf)),(.pointer (aD zo))])]]):=by
 refine aF func55 F ntmps55 F ?_
 obtain⟨hi,AP⟩:=List.getElem?_eq_some_iff.1 hx
 refine ai (aj F (ae (ai (ad (bi 2 cX F F F F) (ah F (ad (dT (i:=i) cX cm F F (aL hE) (by omega) (by rw[bY];omega)) (ad (eO (vs:=x.cl) bU F cm F F (br _) (aL hE) (fy hx)) (ao F (bs cm F (fun z1=>?_))))))))))
 refine ao F (bN (vs:=x.cl) 0 cm F F F F ?_)
 refine ae (aM (aM ?_))
 refine fD [(1,0),(2,0),(0,1),(3,2),(4,2)] ?_
 refine au F (a_ bU F du F F) (au F (bi 0 fA F F F F) ?_)
 have oG:=fun(w1:World) (hI:Inv w [oI z1 72 x.cl,oI zo 32 [(.slice ob xs.length oc)],aq ob oc 72 5 (bt xs),oI ze 32 [(.slice eb e.length ec)],oI zf 58 [(.func (.func 55) #[] #[(.pointer (aD ze)),(.pointer (aD zf)),(.pointer (aD zo))])]] w1)=>(haveI:=et hI;jP w1)
 refine cr F F (bl vo (aX oG) F ?_)
 clear oG
 rintro vr O' ⟨N,rfl,m,rfl,rfl⟩
 refine⟨by exact Sub.d (.k (.k (.k (.k (.k .z))))),?_⟩
 refine b_ F F (d_ F F (bK (kY (a:=x.op) rB jZ (gh.u8 fA) F F (mG 0 F)) (v':=(.agg #[vN (dH x.op),str (iq x.op).1,str (iq x.op).2.1,str (iq x.op).2.2])) (mK x.op)) ?_)
 refine b_ F F (d_ F F (q7 vS F dP F F F) ?_)
 refine cw ?_
 refine iC [gT m,oI z1 72 x.cl,oI zo 32 [(.slice ob xs.length oc)],aq ob oc 72 5 (bt xs),oI ze 32 [(.slice eb e.length ec)],oI zf 58 [(.func (.func 55) #[] #[(.pointer (aD ze)),(.pointer (aD zf)),(.pointer (aD zo))])]] [(0,vN i),(1,(.pointer (aD ze))),(2,(.pointer (aD zf))),(3,(.pointer (aD zo))),(5,vI 0),(6,(.pointer (aD z1))),(15,vN (dH x.op))] F (.of F) (fun gF=>?_)
 refine aU (ai ?_)
 refine ad (aB (bJ F F) (ak (by omega))) (aj F (ae (a6 F (ai (ad (aB (bJ F F) (ak (by omega))) (aj F (ae (a6 F (aE (aM (ai ?_)))))))))))
 refine ad (a_ bU F du F F) (ad (bi 1 fA F F F F) (ae (aU (ai (ad (aB (bJ F F) (ak (by omega))) (aj F (ae (a6 F (ai (ad (aB (bJ F F) (ak (by omega))) (aj F (ae ?_))))))))))))
 refine a6 F (aE (ai (ad (bi 2 cX F F F F) (ad (eu 1 bU F cm F F F) (ao F (cz (m:=1) (parts:=[(0,_)]) (cs:=x.cl) cX cm (by decide) (by kernel_rfl) F (fun z2=>?_)))))))
 refine ao F (cW 4 cX cX cm F F F F (bY _) (by decide) (Src.row (j:=0) F (by simp)) (by simp[fa]) (by first|omega|(simp only[aw]<;>omega)) (by decide) (by decide) (fun z3 kH=>?_))
 refine ao F (bN (vs:=[(.slice z3 (xs.length+1) kH)]) 3 fT F F F F ?_)
 refine ae (ai (ad (bi 3 cX F F F F) (ad (cQ cX F) (ad (kZ (a:=(xs.length+1)) (b:=1) F F (by omega) (by omega)) (aj F (ae (aK (aA ?_))))))))
 refine aS (vN ((xs.length+1)-1)) Tryz.results55 F ?_
 exact⟨[oI zo 32 [(.slice z3 (xs.length+1) kH)],aq z3 kH 72 5 ((bt xs)++x.cl),oI ze 32 [(.slice eb e.length ec)],oI zf 58 [(.func (.func 55) #[] #[(.pointer (aD ze)),(.pointer (aD zf)),(.pointer (aD zo))])]],(by exact Sub.d (.d (.d (.k (.k (.k (.k .z))))))),_,_,ax (Value.int .i64) (by first|rfl|(simp only[aw,bo,bV];omega)),Ak (by simp only[aw,bo,bV]<;>omega) (kN (y:=x))⟩
theorem Bq (w:World) [dE Tryz.prog w] (eb:Option Addr) (ec:Nat) (e:List dK) (hE:Sl w eb (bt e)) (ze zf zo:Nat) (i:Nat) (x:dK) (hx:e[i]? =some x) (yo:dH x.op=1) (y:Nat) (hy:(x.op=9∧y=10)∨(x.op=10∧y=9)∨(x.op≠9∧x.op≠10∧y=x.op)) (j n:Nat) (hj:x.a=(j:Int)) (hn:1≤n) (aa:Nat→List dK) (Ym: ∀s,(aa s).length=n) (hA:rT w eb ec e ze zf zo j n aa) (ob:Option Addr) (oc:Nat) (xs:List dK) (yY:xs.length+(n+1)≤64):
  bW Tryz.prog w 55 [vN i,(.pointer (aD ze)),(.pointer (aD zf)),(.pointer (aD zo))] [oI zo 32 [(.slice ob xs.length oc)],aq ob oc 72 5 (bt xs),oI ze 32 [(.slice eb e.length ec)],oI zf 58 [(.func (.func 55) #[] #[(.pointer (aD ze)),(.pointer (aD zf)),(.pointer (aD zo))])]] (fun v O'=> ∃wv ww,v=vN (xs.length+(n+1)-1)∧O'=[oI zo 32 [(.slice wv ((xs++(aa xs.length++[(⟨y,x.p,x.n,((xs.length+n-1:Nat):Int),x.b⟩:dK)])).length) ww)],aq wv ww 72 5 (bt (xs++(aa xs.length++[(⟨y,x.p,x.n,((xs.length+n-1:Nat):Int),x.b⟩:dK)]))),oI ze 32 [(.slice eb e.length ec)],oI zf 58 [(.func (.func 55) #[] #[(.pointer (aD ze)),(.pointer (aD zf)),(.pointer (aD zo))])]]):=by
 refine aF func55 F ntmps55 F ?_
 obtain⟨hi,AP⟩:=List.getElem?_eq_some_iff.1 hx
 have hF:=Ym xs.length
 have G3:(xs++aa xs.length).length=xs.length+n:=by rw[aw,hF]
 refine ai (aj F (ae (ai (ad (bi 2 cX F F F F) (ah F (ad (dT (i:=i) cX cm F F (aL hE) (by omega) (by rw[bY];omega)) (ad (eO (vs:=x.cl) bU F cm F F (br _) (aL hE) (fy hx)) (ao F (bs cm F (fun z1=>?_))))))))))
 refine ao F (bN (vs:=x.cl) 0 cm F F F F ?_)
 refine ae (aM (aM ?_))
 refine fD [(1,0),(2,0),(0,1),(3,2),(4,2)] ?_
 refine au F (a_ bU F du F F) (au F (bi 0 fA F F F F) ?_)
 have oG:=fun(w1:World) (hI:Inv w [oI z1 72 x.cl,oI zo 32 [(.slice ob xs.length oc)],aq ob oc 72 5 (bt xs),oI ze 32 [(.slice eb e.length ec)],oI zf 58 [(.func (.func 55) #[] #[(.pointer (aD ze)),(.pointer (aD zf)),(.pointer (aD zo))])]] w1)=>(haveI:=et hI;jP w1)
 refine cr F F (bl vo (aX oG) F ?_)
 clear oG
 rintro vr O' ⟨N,rfl,m,rfl,rfl⟩
 refine⟨by exact Sub.d (.k (.k (.k (.k (.k .z))))),?_⟩
 refine b_ F F (d_ F F (bK (kY (a:=x.op) rB jZ (gh.u8 fA) F F (mG 0 F)) (v':=(.agg #[vN (dH x.op),str (iq x.op).1,str (iq x.op).2.1,str (iq x.op).2.2])) (mK x.op)) ?_)
 refine b_ F F (d_ F F (q7 vS F dP F F F) ?_)
 refine cw ?_
 refine iC [gT m,oI z1 72 x.cl,oI zo 32 [(.slice ob xs.length oc)],aq ob oc 72 5 (bt xs),oI ze 32 [(.slice eb e.length ec)],oI zf 58 [(.func (.func 55) #[] #[(.pointer (aD ze)),(.pointer (aD zf)),(.pointer (aD zo))])]] [(0,vN i),(1,(.pointer (aD ze))),(2,(.pointer (aD zf))),(3,(.pointer (aD zo))),(5,vI 0),(6,(.pointer (aD z1))),(15,vN (dH x.op))] F (.of F) (fun gF=>?_)
 refine aU (ai ?_)
 refine ad (aB (bJ F F) (ay (by omega))) (aj F (ae ?_))
 refine bO F ?_
 refine a7 (ad (bi 5 IG F F F F) (ad (a_ bU F bj F F) (ad (bK (bi 1 dP F F F F) (v':=vN j) (ax (Value.int .i64) hj)) ?_)))
 have L8:=(hA.under [gT m,oI z1 72 x.cl] (O:=[gT m,oI z1 72 x.cl,oI zo 32 [(.slice ob xs.length oc)],aq ob oc 72 5 (bt xs),oI ze 32 [(.slice eb e.length ec)],oI zf 58 [(.func (.func 55) #[] #[(.pointer (aD ze)),(.pointer (aD zf)),(.pointer (aD zo))])]]) ob oc xs (by first|omega|(rw[aw];omega)) (by exact Sub.ew [gT m,oI z1 72 x.cl] _ (.ew [gT m,oI z1 72 x.cl] _ (.ew [gT m,oI z1 72 x.cl] _ (.ew [gT m,oI z1 72 x.cl] _ (.k (.k .z)))))))
 refine ao F (eN L8 F F ?_)
 clear L8
 rintro vr O' ⟨ae9,ae_,rfl,rfl⟩
 refine ad (a_ bU F bj F F) (ao F (bN (vs:=[(vN (xs.length+n-1))]) 5 bj F F F F ?_))
 refine ae (aM (ai (ad (a_ bU F du F F) (ad (bi 5 fA F F F F) (ae (aU (ai (ad (bJ F F) (aj F (ae (aP F (fun hc=>?_) (fun hc=>?_))))))))))))
 ·have ada:x.op=9:=by omega
  refine a7 (ad (a_ bU F du F F) (ao F (bN (vs:=[(.int .u8 10)]) 5 du F F F F ?_)))
  refine ae (ai (ad (bi 0 cX F F F F) (ad (eu 5 bU F cm F F F) (ao F (cz (m:=1) (parts:=[(0,_)]) (cs:=[(.int .u8 10),v8 x.p,v8 x.n,(vN (xs.length+n-1)),vI x.b]) cX cm (by decide) (by kernel_rfl) F (fun z2=>?_))))))
  refine ao F (cW 2 cX cX cm F F F F (bY _) (by decide) (Src.row (j:=0) F (by simp)) (by simp[fa]) (by first|omega|(simp only[aw,hF]<;>omega)) (by decide) (by decide) (fun z3 kH=>?_))
  refine ao F (bN (vs:=[(.slice z3 (((xs++aa xs.length).length)+1) kH)]) 1 fT F F F F ?_)
  refine ae (ai (ad (bi 1 cX F F F F) (ad (cQ cX F) (ad (kZ (a:=(((xs++aa xs.length).length)+1)) (b:=1) F F (by omega) (by omega)) (aj F (ae (aK (aA ?_))))))))
  refine aS (vN ((((xs++aa xs.length).length)+1)-1)) Tryz.results55 F ?_
  exact⟨[oI zo 32 [(.slice z3 (((xs++aa xs.length).length)+1) kH)],aq z3 kH 72 5 ((bt (xs++aa xs.length))++[(.int .u8 10),v8 x.p,v8 x.n,(vN (xs.length+n-1)),vI x.b]),oI ze 32 [(.slice eb e.length ec)],oI zf 58 [(.func (.func 55) #[] #[(.pointer (aD ze)),(.pointer (aD zf)),(.pointer (aD zo))])]],(by exact Sub.d (.k (.k (.k (.k .z))))),_,_,ax (Value.int .i64) (by first|rfl|(simp only[aw,bo,bV,hF];omega)),Ak (by simp only[aw,bo,bV,hF]<;>omega) (by have Pr:y=10:=(by omega);subst Pr;exact(kN (A:=xs++aa xs.length) (y:=(⟨10,x.p,x.n,((xs.length+n-1:Nat):Int),x.b⟩:dK))).trans (by rw[aI]))⟩
 have adb: ¬x.op=9:=by omega
 refine ai (ad (bJ F F) (aj F (ae (aP F (fun hc=>?_) (fun hc=>?_)))))
 ·have MC:x.op=10:=by omega
  refine a7 (ad (a_ bU F du F F) (ao F (bN (vs:=[(.int .u8 9)]) 5 du F F F F ?_)))
  refine ae (ai (ad (bi 0 cX F F F F) (ad (eu 5 bU F cm F F F) (ao F (cz (m:=1) (parts:=[(0,_)]) (cs:=[(.int .u8 9),v8 x.p,v8 x.n,(vN (xs.length+n-1)),vI x.b]) cX cm (by decide) (by kernel_rfl) F (fun z5=>?_))))))
  refine ao F (cW 2 cX cX cm F F F F (bY _) (by decide) (Src.row (j:=0) F (by simp)) (by simp[fa]) (by first|omega|(simp only[aw,hF]<;>omega)) (by decide) (by decide) (fun z6 AC=>?_))
  refine ao F (bN (vs:=[(.slice z6 (((xs++aa xs.length).length)+1) AC)]) 1 fT F F F F ?_)
  refine ae ?_
  refine iC [aq (aD z5) 1 72 5 [(.int .u8 9),v8 x.p,v8 x.n,(vN (xs.length+n-1)),vI x.b],oI zo 32 [(.slice z6 (((xs++aa xs.length).length)+1) AC)],aq z6 AC 72 5 ((bt (xs++aa xs.length))++[(.int .u8 9),v8 x.p,v8 x.n,(vN (xs.length+n-1)),vI x.b]),oI ze 32 [(.slice eb e.length ec)],oI zf 58 [(.func (.func 55) #[] #[(.pointer (aD ze)),(.pointer (aD zf)),(.pointer (aD zo))])],gT m,oI z1 72 [(.int .u8 9),v8 x.p,v8 x.n,(vN (xs.length+n-1)),vI x.b]] [(0,vN i),(1,(.pointer (aD ze))),(2,(.pointer (aD zf))),(3,(.pointer (aD zo))),(5,vI 0),(6,(.pointer (aD z1))),(16,.bool true),(46,.bool (decide (((x.op:Nat):Int)=9))),(49,.bool (decide (((x.op:Nat):Int)=10)))] F (.of F) (fun gF=>?_)
  refine ai (ad (bi 1 cX F F F F) (ad (cQ cX F) (ad (kZ (a:=(((xs++aa xs.length).length)+1)) (b:=1) F F (by omega) (by omega)) (aj F (ae (aK (aA ?_)))))))
  refine aS (vN ((((xs++aa xs.length).length)+1)-1)) Tryz.results55 F ?_
  exact⟨[oI zo 32 [(.slice z6 (((xs++aa xs.length).length)+1) AC)],aq z6 AC 72 5 ((bt (xs++aa xs.length))++[(.int .u8 9),v8 x.p,v8 x.n,(vN (xs.length+n-1)),vI x.b]),oI ze 32 [(.slice eb e.length ec)],oI zf 58 [(.func (.func 55) #[] #[(.pointer (aD ze)),(.pointer (aD zf)),(.pointer (aD zo))])]],(by exact Sub.d (.k (.k (.k (.k .z))))),_,_,ax (Value.int .i64) (by first|rfl|(simp only[aw,bo,bV,hF];omega)),Ak (by simp only[aw,bo,bV,hF]<;>omega) (by have Pr:y=9:=(by omega);subst Pr;exact(kN (A:=xs++aa xs.length) (y:=(⟨9,x.p,x.n,((xs.length+n-1:Nat):Int),x.b⟩:dK))).trans (by rw[aI]))⟩
 have Yj: ¬x.op=10:=by omega
 refine aE (ai (ad (bi 0 cX F F F F) (ad (eu 5 bU F cm F F F) (ao F (cz (m:=1) (parts:=[(0,_)]) (cs:=[v8 x.op,v8 x.p,v8 x.n,(vN (xs.length+n-1)),vI x.b]) cX cm (by decide) (by kernel_rfl) F (fun z8=>?_))))))
 refine ao F (cW 2 cX cX cm F F F F (bY _) (by decide) (Src.row (j:=0) F (by simp)) (by simp[fa]) (by first|omega|(simp only[aw,hF]<;>omega)) (by decide) (by decide) (fun z9 ni=>?_))
 refine ao F (bN (vs:=[(.slice z9 (((xs++aa xs.length).length)+1) ni)]) 1 fT F F F F ?_)
 refine ae (ai (ad (bi 1 cX F F F F) (ad (cQ cX F) (ad (kZ (a:=(((xs++aa xs.length).length)+1)) (b:=1) F F (by omega) (by omega)) (aj F (ae (aK (aA ?_))))))))
 refine aS (vN ((((xs++aa xs.length).length)+1)-1)) Tryz.results55 F ?_
 exact⟨[oI zo 32 [(.slice z9 (((xs++aa xs.length).length)+1) ni)],aq z9 ni 72 5 ((bt (xs++aa xs.length))++[v8 x.op,v8 x.p,v8 x.n,(vN (xs.length+n-1)),vI x.b]),oI ze 32 [(.slice eb e.length ec)],oI zf 58 [(.func (.func 55) #[] #[(.pointer (aD ze)),(.pointer (aD zf)),(.pointer (aD zo))])]],(by exact Sub.d (.k (.k (.k (.k .z))))),_,_,ax (Value.int .i64) (by first|rfl|(simp only[aw,bo,bV,hF];omega)),Ak (by simp only[aw,bo,bV,hF]<;>omega) (by have Pr:y=x.op:=(by omega);subst Pr;exact(kN (A:=xs++aa xs.length) (y:=(⟨x.op,x.p,x.n,((xs.length+n-1:Nat):Int),x.b⟩:dK))).trans (by rw[aI]))⟩
theorem Pw (w:World) [dE Tryz.prog w] (eb:Option Addr) (ec:Nat) (e:List dK) (hE:Sl w eb (bt e)) (ze zf zo:Nat) (i:Nat) (x:dK) (hx:e[i]? =some x) (h4:x.op=4) (j k n l:Nat) (hj:x.b=(j:Int)) (hk:x.a=(k:Int)) (hn:1≤n) (hm:1≤l) (aa G:Nat→List dK) (Ym: ∀s,(aa s).length=n) (Yn: ∀s,(G s).length=l) (hA:rT w eb ec e ze zf zo j n aa) (hB:rT w eb ec e ze zf zo k l G) (ob:Option Addr) (oc:Nat) (xs:List dK) (yY:xs.length+(n+l+1)≤64):
  bW Tryz.prog w 55 [vN i,(.pointer (aD ze)),(.pointer (aD zf)),(.pointer (aD zo))] [oI zo 32 [(.slice ob xs.length oc)],aq ob oc 72 5 (bt xs),oI ze 32 [(.slice eb e.length ec)],oI zf 58 [(.func (.func 55) #[] #[(.pointer (aD ze)),(.pointer (aD zf)),(.pointer (aD zo))])]] (fun v O'=> ∃wv ww,v=vN (xs.length+(n+l+1)-1)∧O'=[oI zo 32 [(.slice wv ((xs++(aa xs.length++(G (xs.length+n)++[(⟨x.op,x.p,x.n,((xs.length+n-1:Nat):Int),((xs.length+n+l-1:Nat):Int)⟩:dK)]))).length) ww)],aq wv ww 72 5 (bt (xs++(aa xs.length++(G (xs.length+n)++[(⟨x.op,x.p,x.n,((xs.length+n-1:Nat):Int),((xs.length+n+l-1:Nat):Int)⟩:dK)])))),oI ze 32 [(.slice eb e.length ec)],oI zf 58 [(.func (.func 55) #[] #[(.pointer (aD ze)),(.pointer (aD zf)),(.pointer (aD zo))])]]):=by
 refine aF func55 F ntmps55 F ?_
 obtain⟨hi,AP⟩:=List.getElem?_eq_some_iff.1 hx
 have n6:dH x.op=2:=by rw[h4];rfl
 have hF:=Ym xs.length
 have hG:=Yn (xs++aa xs.length).length
 have G3:(xs++aa xs.length).length=xs.length+n:=by rw[aw,hF]
 have G0:=Yn (xs.length+n)
 have hYl:(xs++aa xs.length++G (xs++aa xs.length).length).length=xs.length+n+l:=by rw[aw,G3,G0]
 refine ai (aj F (ae (ai (ad (bi 2 cX F F F F) (ah F (ad (dT (i:=i) cX cm F F (aL hE) (by omega) (by rw[bY];omega)) (ad (eO (vs:=x.cl) bU F cm F F (br _) (aL hE) (fy hx)) (ao F (bs cm F (fun z1=>?_))))))))))
 refine ao F (bN (vs:=x.cl) 0 cm F F F F ?_)
 refine ae (aM (aM ?_))
 refine fD [(1,0),(2,0),(0,1),(3,2),(4,2)] ?_
 refine au F (a_ bU F du F F) (au F (bi 0 fA F F F F) ?_)
 have oG:=fun(w1:World) (hI:Inv w [oI z1 72 x.cl,oI zo 32 [(.slice ob xs.length oc)],aq ob oc 72 5 (bt xs),oI ze 32 [(.slice eb e.length ec)],oI zf 58 [(.func (.func 55) #[] #[(.pointer (aD ze)),(.pointer (aD zf)),(.pointer (aD zo))])]] w1)=>(haveI:=et hI;jP w1)
 refine cr F F (bl vo (aX oG) F ?_)
 clear oG
 rintro vr O' ⟨N,rfl,m,rfl,rfl⟩
 refine⟨by exact Sub.d (.k (.k (.k (.k (.k .z))))),?_⟩
 refine b_ F F (d_ F F (bK (kY (a:=x.op) rB jZ (gh.u8 fA) F F (mG 0 F)) (v':=(.agg #[vN (dH x.op),str (iq x.op).1,str (iq x.op).2.1,str (iq x.op).2.2])) (mK x.op)) ?_)
 refine b_ F F (d_ F F (q7 vS F dP F F F) ?_)
 refine cw ?_
 refine iC [gT m,oI z1 72 x.cl,oI zo 32 [(.slice ob xs.length oc)],aq ob oc 72 5 (bt xs),oI ze 32 [(.slice eb e.length ec)],oI zf 58 [(.func (.func 55) #[] #[(.pointer (aD ze)),(.pointer (aD zf)),(.pointer (aD zo))])]] [(0,vN i),(1,(.pointer (aD ze))),(2,(.pointer (aD zf))),(3,(.pointer (aD zo))),(5,vI 0),(6,(.pointer (aD z1))),(15,vN (dH x.op))] F (.of F) (fun gF=>?_)
 refine aU (ai ?_)
 refine ad (aB (bJ F F) (ak (by omega))) (aj F (ae (a6 F (ai (ad (aB (bJ F F) (ay (by omega))) (aj F (ae ?_)))))))
 refine bO F ?_
 refine aM (ai (ad (a_ bU F du F F) (ad (bi 1 fA F F F F) (ad (aB (bJ F F) (ay (by omega))) (ae ?_)))))
 refine bO F ?_
 refine a7 (ad (a_ bU F bj F F) (ad (bi 1 dP F F F F) (ad (a_ bU F bj F F) (ad (bi 1 dP F F F F) (ad (a_ bU F bj F F) (ao F (bN (vs:=[(vI x.b)]) 1 bj F F F F ?_)))))))
 refine ad (a_ bU F bj F F) (ao F (bN (vs:=[(vI x.a)]) 1 bj F F F F ?_))
 refine ae (ai (ad (bi 5 IG F F F F) (ad (a_ bU F bj F F) (ad (bK (bi 1 dP F F F F) (v':=vN j) (ax (Value.int .i64) hj)) ?_))))
 have MJ:=(hA.under [gT m,oI z1 72 [v8 x.op,v8 x.p,v8 x.n,(vI x.b),(vI x.a)]] (O:=[gT m,oI z1 72 [v8 x.op,v8 x.p,v8 x.n,(vI x.b),(vI x.a)],oI zo 32 [(.slice ob xs.length oc)],aq ob oc 72 5 (bt xs),oI ze 32 [(.slice eb e.length ec)],oI zf 58 [(.func (.func 55) #[] #[(.pointer (aD ze)),(.pointer (aD zf)),(.pointer (aD zo))])]]) ob oc xs (by first|omega|(rw[aw];omega)) (by exact Sub.ew [gT m,oI z1 72 [v8 x.op,v8 x.p,v8 x.n,(vI x.b),(vI x.a)]] _ (.ew [gT m,oI z1 72 [v8 x.op,v8 x.p,v8 x.n,(vI x.b),(vI x.a)]] _ (.ew [gT m,oI z1 72 [v8 x.op,v8 x.p,v8 x.n,(vI x.b),(vI x.a)]] _ (.ew [gT m,oI z1 72 [v8 x.op,v8 x.p,v8 x.n,(vI x.b),(vI x.a)]] _ (.k (.k .z)))))))
 refine ao F (eN MJ F F ?_)
 clear MJ
 rintro vr O' ⟨Fl,Fm,rfl,rfl⟩
 refine ad (a_ bU F bj F F) (ao F (bN (vs:=[(vN (xs.length+n-1))]) 5 bj F F F F ?_))
 refine ae (a7 (ad (bi 3 IG F F F F) (ad (a_ bU F bj F F) (ad (bK (bi 5 dP F F F F) (v':=vN k) (ax (Value.int .i64) hk)) ?_))))
 have qv:=(hB.under [gT m,oI z1 72 [v8 x.op,v8 x.p,v8 x.n,(vN (xs.length+n-1)),(vI x.a)]] (O:=[oI zo 32 [(.slice Fl ((xs++aa xs.length).length) Fm)],aq Fl Fm 72 5 (bt (xs++aa xs.length)),oI ze 32 [(.slice eb e.length ec)],oI zf 58 [(.func (.func 55) #[] #[(.pointer (aD ze)),(.pointer (aD zf)),(.pointer (aD zo))])],gT m,oI z1 72 [v8 x.op,v8 x.p,v8 x.n,(vN (xs.length+n-1)),(vI x.a)]]) Fl Fm (xs++aa xs.length) (by first|omega|(rw[aw];omega)) (by exact Sub.rf))
 refine ao F (eN qv F F ?_)
 clear qv
 rintro vr O' ⟨abn,abo,rfl,rfl⟩
 refine ad (a_ bU F bj F F) (ao F (bN (vs:=[(vN ((xs++aa xs.length).length+l-1))]) 5 bj F F F F ?_))
 refine ae (aM (ai (ad (a_ bU F du F F) (ad (bi 5 fA F F F F) (ae (aU (ai (ad (aB (bJ F F) (ak (by first|omega|(intro h;rw[show x.op=9 by omega]at n6;exact absurd n6 (by decide))))) (aj F (ae (a6 F (ai (ad (aB (bJ F F) (ak (by first|omega|(intro h;rw[show x.op=10 by omega]at n6;exact absurd n6 (by decide))))) (aj F ?_))))))))))))))
 refine ae (a6 F (aE (ai (ad (bi 0 cX F F F F) (ad (eu 5 bU F cm F F F) (ao F (cz (m:=1) (parts:=[(0,_)]) (cs:=[v8 x.op,v8 x.p,v8 x.n,(vN (xs.length+n-1)),(vN ((xs++aa xs.length).length+l-1))]) cX cm (by decide) (by kernel_rfl) F (fun z2=>?_))))))))
 refine ao F (cW 2 cX cX cm F F F F (bY _) (by decide) (Src.row (j:=0) F (by simp)) (by simp[fa]) (by first|omega|(simp only[aw,hF,hG,G3,G0]<;>omega)) (by decide) (by decide) (fun z3 kH=>?_))
 refine ao F (bN (vs:=[(.slice z3 (((xs++aa xs.length++G (xs++aa xs.length).length).length)+1) kH)]) 1 fT F F F F ?_)
 refine ae ?_
 refine iC [aq (aD z2) 1 72 5 [v8 x.op,v8 x.p,v8 x.n,(vN (xs.length+n-1)),(vN ((xs++aa xs.length).length+l-1))],oI zo 32 [(.slice z3 (((xs++aa xs.length++G (xs++aa xs.length).length).length)+1) kH)],aq z3 kH 72 5 ((bt (xs++aa xs.length++G (xs++aa xs.length).length))++[v8 x.op,v8 x.p,v8 x.n,(vN (xs.length+n-1)),(vN ((xs++aa xs.length).length+l-1))]),oI ze 32 [(.slice eb e.length ec)],oI zf 58 [(.func (.func 55) #[] #[(.pointer (aD ze)),(.pointer (aD zf)),(.pointer (aD zo))])],gT m,oI z1 72 [v8 x.op,v8 x.p,v8 x.n,(vN (xs.length+n-1)),(vN ((xs++aa xs.length).length+l-1))]] [(0,vN i),(1,(.pointer (aD ze))),(2,(.pointer (aD zf))),(3,(.pointer (aD zo))),(5,vI 0),(6,(.pointer (aD z1))),(16,.bool false),(23,.bool true),(46,.bool false),(49,.bool false)] F (.of F) (fun gF=>?_)
 refine ai (ad (bi 1 cX F F F F) (ad (cQ cX F) (ad (kZ (a:=(((xs++aa xs.length++G (xs++aa xs.length).length).length)+1)) (b:=1) F F (by omega) (by omega)) (aj F (ae (aK (aA ?_)))))))
 refine aS (vI (((((xs++aa xs.length++G (xs++aa xs.length).length).length)+1)-1:Nat):Int)) Tryz.results55 F ?_
 exact⟨[oI zo 32 [(.slice z3 (((xs++aa xs.length++G (xs++aa xs.length).length).length)+1) kH)],aq z3 kH 72 5 ((bt (xs++aa xs.length++G (xs++aa xs.length).length))++[v8 x.op,v8 x.p,v8 x.n,(vN (xs.length+n-1)),(vN ((xs++aa xs.length).length+l-1))]),oI ze 32 [(.slice eb e.length ec)],oI zf 58 [(.func (.func 55) #[] #[(.pointer (aD ze)),(.pointer (aD zf)),(.pointer (aD zo))])]],(by exact Sub.d (.k (.k (.k (.k .z))))),_,_,ax (Value.int .i64) (by first|rfl|(simp only[aw,bo,bV,hF,hG,G3,G0];omega)),Ak (by simp only[aw,bo,bV,hF,hG,G3,G0]<;>omega) ((by have e5:(xs++aa xs.length).length+l-1=xs.length+n+l-1:=(by rw[G3]);rw[e5,G3];exact(kN (A:=xs++aa xs.length++G (xs.length+n)) (y:=(⟨x.op,x.p,x.n,((xs.length+n-1:Nat):Int),((xs.length+n+l-1:Nat):Int)⟩:dK))).trans (by simp only[aI])))⟩
theorem G4 (w:World) [dE Tryz.prog w] (eb:Option Addr) (ec:Nat) (e:List dK) (hE:Sl w eb (bt e)) (ze zf zo:Nat) (i:Nat) (x:dK) (hx:e[i]? =some x) (n6:dH x.op=2) (h4:x.op≠4) (j k n l:Nat) (hj:x.a=(j:Int)) (hk:x.b=(k:Int)) (hn:1≤n) (hm:1≤l) (aa G:Nat→List dK) (Ym: ∀s,(aa s).length=n) (Yn: ∀s,(G s).length=l) (hA:rT w eb ec e ze zf zo j n aa) (hB:rT w eb ec e ze zf zo k l G) (ob:Option Addr) (oc:Nat) (xs:List dK) (yY:xs.length+(n+l+1)≤64):
  bW Tryz.prog w 55 [vN i,(.pointer (aD ze)),(.pointer (aD zf)),(.pointer (aD zo))] [oI zo 32 [(.slice ob xs.length oc)],aq ob oc 72 5 (bt xs),oI ze 32 [(.slice eb e.length ec)],oI zf 58 [(.func (.func 55) #[] #[(.pointer (aD ze)),(.pointer (aD zf)),(.pointer (aD zo))])]] (fun v O'=> ∃wv ww,v=vN (xs.length+(n+l+1)-1)∧O'=[oI zo 32 [(.slice wv ((xs++(aa xs.length++(G (xs.length+n)++[(⟨x.op,x.p,x.n,((xs.length+n-1:Nat):Int),((xs.length+n+l-1:Nat):Int)⟩:dK)]))).length) ww)],aq wv ww 72 5 (bt (xs++(aa xs.length++(G (xs.length+n)++[(⟨x.op,x.p,x.n,((xs.length+n-1:Nat):Int),((xs.length+n+l-1:Nat):Int)⟩:dK)])))),oI ze 32 [(.slice eb e.length ec)],oI zf 58 [(.func (.func 55) #[] #[(.pointer (aD ze)),(.pointer (aD zf)),(.pointer (aD zo))])]]):=by
 refine aF func55 F ntmps55 F ?_
 obtain⟨hi,AP⟩:=List.getElem?_eq_some_iff.1 hx
 have hF:=Ym xs.length
 have hG:=Yn (xs++aa xs.length).length
 have G3:(xs++aa xs.length).length=xs.length+n:=by rw[aw,hF]
 have G0:=Yn (xs.length+n)
 have hYl:(xs++aa xs.length++G (xs++aa xs.length).length).length=xs.length+n+l:=by rw[aw,G3,G0]
 refine ai (aj F (ae (ai (ad (bi 2 cX F F F F) (ah F (ad (dT (i:=i) cX cm F F (aL hE) (by omega) (by rw[bY];omega)) (ad (eO (vs:=x.cl) bU F cm F F (br _) (aL hE) (fy hx)) (ao F (bs cm F (fun z1=>?_))))))))))
 refine ao F (bN (vs:=x.cl) 0 cm F F F F ?_)
 refine ae (aM (aM ?_))
 refine fD [(1,0),(2,0),(0,1),(3,2),(4,2)] ?_
 refine au F (a_ bU F du F F) (au F (bi 0 fA F F F F) ?_)
 have oG:=fun(w1:World) (hI:Inv w [oI z1 72 x.cl,oI zo 32 [(.slice ob xs.length oc)],aq ob oc 72 5 (bt xs),oI ze 32 [(.slice eb e.length ec)],oI zf 58 [(.func (.func 55) #[] #[(.pointer (aD ze)),(.pointer (aD zf)),(.pointer (aD zo))])]] w1)=>(haveI:=et hI;jP w1)
 refine cr F F (bl vo (aX oG) F ?_)
 clear oG
 rintro vr O' ⟨N,rfl,m,rfl,rfl⟩
 refine⟨by exact Sub.d (.k (.k (.k (.k (.k .z))))),?_⟩
 refine b_ F F (d_ F F (bK (kY (a:=x.op) rB jZ (gh.u8 fA) F F (mG 0 F)) (v':=(.agg #[vN (dH x.op),str (iq x.op).1,str (iq x.op).2.1,str (iq x.op).2.2])) (mK x.op)) ?_)
 refine b_ F F (d_ F F (q7 vS F dP F F F) ?_)
 refine cw ?_
 refine iC [gT m,oI z1 72 x.cl,oI zo 32 [(.slice ob xs.length oc)],aq ob oc 72 5 (bt xs),oI ze 32 [(.slice eb e.length ec)],oI zf 58 [(.func (.func 55) #[] #[(.pointer (aD ze)),(.pointer (aD zf)),(.pointer (aD zo))])]] [(0,vN i),(1,(.pointer (aD ze))),(2,(.pointer (aD zf))),(3,(.pointer (aD zo))),(5,vI 0),(6,(.pointer (aD z1))),(15,vN (dH x.op))] F (.of F) (fun gF=>?_)
 refine aU (ai ?_)
 refine ad (aB (bJ F F) (ak (by omega))) (aj F (ae (a6 F (ai (ad (aB (bJ F F) (ay (by omega))) (aj F (ae ?_)))))))
 refine bO F ?_
 refine aM (ai (ad (a_ bU F du F F) (ad (bi 1 fA F F F F) (ad (aB (bJ F F) (ak (by omega))) (ae (a6 F (aE (ai (ad (bi 5 IG F F F F) (ad (a_ bU F bj F F) (ad (bK (bi 1 dP F F F F) (v':=vN j) (ax (Value.int .i64) hj)) ?_)))))))))))
 have MJ:=(hA.under [gT m,oI z1 72 x.cl] (O:=[gT m,oI z1 72 x.cl,oI zo 32 [(.slice ob xs.length oc)],aq ob oc 72 5 (bt xs),oI ze 32 [(.slice eb e.length ec)],oI zf 58 [(.func (.func 55) #[] #[(.pointer (aD ze)),(.pointer (aD zf)),(.pointer (aD zo))])]]) ob oc xs (by first|omega|(rw[aw];omega)) (by exact Sub.ew [gT m,oI z1 72 x.cl] _ (.ew [gT m,oI z1 72 x.cl] _ (.ew [gT m,oI z1 72 x.cl] _ (.ew [gT m,oI z1 72 x.cl] _ (.k (.k .z)))))))
 refine ao F (eN MJ F F ?_)
 clear MJ
 rintro vr O' ⟨Fl,Fm,rfl,rfl⟩
 refine ad (a_ bU F bj F F) (ao F (bN (vs:=[(vN (xs.length+n-1))]) 5 bj F F F F ?_))
 refine ae (a7 (ad (bi 3 IG F F F F) (ad (a_ bU F bj F F) (ad (bK (bi 5 dP F F F F) (v':=vN k) (ax (Value.int .i64) hk)) ?_))))
 have qv:=(hB.under [gT m,oI z1 72 [v8 x.op,v8 x.p,v8 x.n,(vN (xs.length+n-1)),vI x.b]] (O:=[oI zo 32 [(.slice Fl ((xs++aa xs.length).length) Fm)],aq Fl Fm 72 5 (bt (xs++aa xs.length)),oI ze 32 [(.slice eb e.length ec)],oI zf 58 [(.func (.func 55) #[] #[(.pointer (aD ze)),(.pointer (aD zf)),(.pointer (aD zo))])],gT m,oI z1 72 [v8 x.op,v8 x.p,v8 x.n,(vN (xs.length+n-1)),vI x.b]]) Fl Fm (xs++aa xs.length) (by first|omega|(rw[aw];omega)) (by exact Sub.rf))
 refine ao F (eN qv F F ?_)
 clear qv
 rintro vr O' ⟨abn,abo,rfl,rfl⟩
 refine ad (a_ bU F bj F F) (ao F (bN (vs:=[(vN ((xs++aa xs.length).length+l-1))]) 5 bj F F F F ?_))
 refine ae (aM (ai (ad (a_ bU F du F F) (ad (bi 5 fA F F F F) (ae (aU (ai (ad (aB (bJ F F) (ak (by first|omega|(intro h;rw[show x.op=9 by omega]at n6;exact absurd n6 (by decide))))) (aj F (ae (a6 F (ai (ad (aB (bJ F F) (ak (by first|omega|(intro h;rw[show x.op=10 by omega]at n6;exact absurd n6 (by decide))))) (aj F ?_))))))))))))))
 refine ae (a6 F (aE (ai (ad (bi 0 cX F F F F) (ad (eu 5 bU F cm F F F) (ao F (cz (m:=1) (parts:=[(0,_)]) (cs:=[v8 x.op,v8 x.p,v8 x.n,(vN (xs.length+n-1)),(vN ((xs++aa xs.length).length+l-1))]) cX cm (by decide) (by kernel_rfl) F (fun z2=>?_))))))))
 refine ao F (cW 2 cX cX cm F F F F (bY _) (by decide) (Src.row (j:=0) F (by simp)) (by simp[fa]) (by first|omega|(simp only[aw,hF,hG,G3,G0]<;>omega)) (by decide) (by decide) (fun z3 kH=>?_))
 refine ao F (bN (vs:=[(.slice z3 (((xs++aa xs.length++G (xs++aa xs.length).length).length)+1) kH)]) 1 fT F F F F ?_)
 refine ae ?_
 refine iC [aq (aD z2) 1 72 5 [v8 x.op,v8 x.p,v8 x.n,(vN (xs.length+n-1)),(vN ((xs++aa xs.length).length+l-1))],oI zo 32 [(.slice z3 (((xs++aa xs.length++G (xs++aa xs.length).length).length)+1) kH)],aq z3 kH 72 5 ((bt (xs++aa xs.length++G (xs++aa xs.length).length))++[v8 x.op,v8 x.p,v8 x.n,(vN (xs.length+n-1)),(vN ((xs++aa xs.length).length+l-1))]),oI ze 32 [(.slice eb e.length ec)],oI zf 58 [(.func (.func 55) #[] #[(.pointer (aD ze)),(.pointer (aD zf)),(.pointer (aD zo))])],gT m,oI z1 72 [v8 x.op,v8 x.p,v8 x.n,(vN (xs.length+n-1)),(vN ((xs++aa xs.length).length+l-1))]] [(0,vN i),(1,(.pointer (aD ze))),(2,(.pointer (aD zf))),(3,(.pointer (aD zo))),(5,vI 0),(6,(.pointer (aD z1))),(16,.bool false),(23,.bool true),(46,.bool false),(49,.bool false)] F (.of F) (fun gF=>?_)
 refine ai (ad (bi 1 cX F F F F) (ad (cQ cX F) (ad (kZ (a:=(((xs++aa xs.length++G (xs++aa xs.length).length).length)+1)) (b:=1) F F (by omega) (by omega)) (aj F (ae (aK (aA ?_)))))))
 refine aS (vI (((((xs++aa xs.length++G (xs++aa xs.length).length).length)+1)-1:Nat):Int)) Tryz.results55 F ?_
 exact⟨[oI zo 32 [(.slice z3 (((xs++aa xs.length++G (xs++aa xs.length).length).length)+1) kH)],aq z3 kH 72 5 ((bt (xs++aa xs.length++G (xs++aa xs.length).length))++[v8 x.op,v8 x.p,v8 x.n,(vN (xs.length+n-1)),(vN ((xs++aa xs.length).length+l-1))]),oI ze 32 [(.slice eb e.length ec)],oI zf 58 [(.func (.func 55) #[] #[(.pointer (aD ze)),(.pointer (aD zf)),(.pointer (aD zo))])]],(by exact Sub.d (.k (.k (.k (.k .z))))),_,_,ax (Value.int .i64) (by first|rfl|(simp only[aw,bo,bV,hF,hG,G3,G0];omega)),Ak (by simp only[aw,bo,bV,hF,hG,G3,G0]<;>omega) ((by have e5:(xs++aa xs.length).length+l-1=xs.length+n+l-1:=(by rw[G3]);rw[e5,G3];exact(kN (A:=xs++aa xs.length++G (xs.length+n)) (y:=(⟨x.op,x.p,x.n,((xs.length+n-1:Nat):Int),((xs.length+n+l-1:Nat):Int)⟩:dK))).trans (by simp only[aI])))⟩
theorem jr {w:World} {eb:Option Addr} {ec:Nat} {e:List dK} {ze zf zo i n n':Nat} {aa F':Nat→List dK} (h:rT w eb ec e ze zf zo i n aa) (hn:n=n') (hF: ∀s,aa s=F' s):rT w eb ec e ze zf zo i n' F':=by
 subst hn
 rwa[show aa=F' from funext hF]at h
theorem qW (w:World) [dE Tryz.prog w] (eb:Option Addr) (ec:Nat) (e:List dK) (hE:Sl w eb (bt e)) (ze zf zo:Nat): ∀(t:Rx) (i:Nat),re e t i→rT w eb ec e ze zf zo i t.sz (post (eJ t))
 | .none,i,h=>fun ob oc xs hl=>yg w eb ec e hE ze zf zo i _ h F (by decide) ob oc xs hl
 | .empty,i,h=>fun ob oc xs hl=>yg w eb ec e hE ze zf zo i _ h F (by decide) ob oc xs hl
 | .letter p n,i,h=>fun ob oc xs hl=>yg w eb ec e hE ze zf zo i _ h.1 F ⟨by simp,by simp⟩ ob oc xs hl
 | .not a,i,⟨j,h,ha⟩=>(jr (aa:=fun s=>post (eJ a) s++[⟨7,0,0,((s+a.sz-1:Nat):Int),0⟩]) (fun ob oc xs hl=>Bq w eb ec e hE ze zf zo i _ h F 7 (.inr (.inr ⟨by simp,by simp,F⟩)) j a.sz F a.dN (post (eJ a)) (fun s=>by rw[fg,ez]) (qW w eb ec e hE ze zf zo a j ha) ob oc xs hl) F fun s=>by
   have e9:((s+a.sz-1:Nat):Int)=((s+(eJ a).sz:Nat):Int)-1:=by rw[ez];have:=a.dN;omega
   show post (eJ a) s++[_]=_
   rw[e9];rfl)
 | .star a,i,⟨j,h,ha⟩=>(jr (aa:=fun s=>post (eJ a) s++[⟨8,0,0,((s+a.sz-1:Nat):Int),0⟩]) (fun ob oc xs hl=>Bq w eb ec e hE ze zf zo i _ h F 8 (.inr (.inr ⟨by simp,by simp,F⟩)) j a.sz F a.dN (post (eJ a)) (fun s=>by rw[fg,ez]) (qW w eb ec e hE ze zf zo a j ha) ob oc xs hl) F fun s=>by
   have e9:((s+a.sz-1:Nat):Int)=((s+(eJ a).sz:Nat):Int)-1:=by rw[ez];have:=a.dN;omega
   show post (eJ a) s++[_]=_
   rw[e9];rfl)
 | .ahead a,i,⟨j,h,ha⟩=>(jr (aa:=fun s=>post (eJ a) s++[⟨10,0,0,((s+a.sz-1:Nat):Int),0⟩]) (fun ob oc xs hl=>Bq w eb ec e hE ze zf zo i _ h F 10 (.inl ⟨F,F⟩) j a.sz F a.dN (post (eJ a)) (fun s=>by rw[fg,ez]) (qW w eb ec e hE ze zf zo a j ha) ob oc xs hl) F fun s=>by
   have e9:((s+a.sz-1:Nat):Int)=((s+(eJ a).sz:Nat):Int)-1:=by rw[ez];have:=a.dN;omega
   show post (eJ a) s++[_]=_
   rw[e9];rfl)
 | .behind a,i,⟨j,h,ha⟩=>(jr (aa:=fun s=>post (eJ a) s++[⟨9,0,0,((s+a.sz-1:Nat):Int),0⟩]) (fun ob oc xs hl=>Bq w eb ec e hE ze zf zo i _ h F 9 (.inr (.inl ⟨F,F⟩)) j a.sz F a.dN (post (eJ a)) (fun s=>by rw[fg,ez]) (qW w eb ec e hE ze zf zo a j ha) ob oc xs hl) F fun s=>by
   have e9:((s+a.sz-1:Nat):Int)=((s+(eJ a).sz:Nat):Int)-1:=by rw[ez];have:=a.dN;omega
   show post (eJ a) s++[_]=_
   rw[e9];rfl)
 | .gZ a b,i,⟨j,k,h,ha,hb⟩=>(jr (aa:=fun s=>post (eJ b) s++(post (eJ a) (s+b.sz)++[⟨4,0,0,((s+b.sz-1:Nat):Int),((s+b.sz+a.sz-1:Nat):Int)⟩])) (fun ob oc xs hl=>Pw w eb ec e hE ze zf zo i _ h F k j b.sz a.sz F F b.dN a.dN (post (eJ b)) (post (eJ a)) (fun s=>by rw[fg,ez]) (fun s=>by rw[fg,ez]) (qW w eb ec e hE ze zf zo b _ hb) (qW w eb ec e hE ze zf zo a _ ha) ob oc xs hl) (by simp only[Rx.sz];omega) fun s=>by
   have e8:((s+b.sz-1:Nat):Int)=((s+(eJ b).sz:Nat):Int)-1:=by rw[ez];have:=b.dN;omega
   have e9:((s+b.sz+a.sz-1:Nat):Int)=((s+(eJ b).sz+(eJ a).sz:Nat):Int)-1:=by rw[ez,ez];have:=b.dN;omega
   show post (eJ b) s++(post (eJ a) (s+b.sz)++[_])=_
   rw[e8,e9,←ez b];rfl)
 | .iv a b,i,⟨j,k,h,ha,hb⟩=>(jr (aa:=fun s=>post (eJ a) s++(post (eJ b) (s+a.sz)++[⟨5,0,0,((s+a.sz-1:Nat):Int),((s+a.sz+b.sz-1:Nat):Int)⟩])) (fun ob oc xs hl=>G4 w eb ec e hE ze zf zo i _ h F (by simp) j k a.sz b.sz F F a.dN b.dN (post (eJ a)) (post (eJ b)) (fun s=>by rw[fg,ez]) (fun s=>by rw[fg,ez]) (qW w eb ec e hE ze zf zo a _ ha) (qW w eb ec e hE ze zf zo b _ hb) ob oc xs hl) (by simp only[Rx.sz]) fun s=>by
   have e8:((s+a.sz-1:Nat):Int)=((s+(eJ a).sz:Nat):Int)-1:=by rw[ez];have:=a.dN;omega
   have e9:((s+a.sz+b.sz-1:Nat):Int)=((s+(eJ a).sz+(eJ b).sz:Nat):Int)-1:=by rw[ez,ez];have:=a.dN;omega
   show post (eJ a) s++(post (eJ b) (s+a.sz)++[_])=_
   rw[e8,e9,←ez a];rfl)
 | .and a b,i,⟨j,k,h,ha,hb⟩=>(jr (aa:=fun s=>post (eJ a) s++(post (eJ b) (s+a.sz)++[⟨6,0,0,((s+a.sz-1:Nat):Int),((s+a.sz+b.sz-1:Nat):Int)⟩])) (fun ob oc xs hl=>G4 w eb ec e hE ze zf zo i _ h F (by simp) j k a.sz b.sz F F a.dN b.dN (post (eJ a)) (post (eJ b)) (fun s=>by rw[fg,ez]) (fun s=>by rw[fg,ez]) (qW w eb ec e hE ze zf zo a _ ha) (qW w eb ec e hE ze zf zo b _ hb) ob oc xs hl) (by simp only[Rx.sz]) fun s=>by
   have e8:((s+a.sz-1:Nat):Int)=((s+(eJ a).sz:Nat):Int)-1:=by rw[ez];have:=a.dN;omega
   have e9:((s+a.sz+b.sz-1:Nat):Int)=((s+(eJ a).sz+(eJ b).sz:Nat):Int)-1:=by rw[ez,ez];have:=a.dN;omega
   show post (eJ a) s++(post (eJ b) (s+a.sz)++[_])=_
   rw[e8,e9,←ez a];rfl)
theorem Uc (w:World) [dE Tryz.prog w] (eb:Option Addr) (ec:Nat) (e:List dK) (hE:Sl w eb (bt e)) (wl:e.length<4611686018427387904) (lF: ∀x∈e,x.p<256∧x.n<256) (vars:Int) (h0:gw vars e≠0):
  cH Tryz.prog 26 [.slice eb e.length ec,vI vars] w fun v N=>v=.tuple #[nS,vN (gw vars e)]∧N=[]:=by
 refine aF func26 F ntmps26 F ?_
 refine ai (ao F (dG (cs:=[(.slice eb e.length ec)]) F F (fun z1=>?_)))
 refine ao F (bs fT F (fun z2=>?_))
 refine aj F (ae (aM (ai (ad (bi 1 cX F F F F) (ah F ?_)))))
 have MK:=fun(w1:World) (hI:Inv w [oI z2 32 [nS],oI z1 32 [(.slice eb e.length ec)]] w1)=>(haveI:=et hI;EX w1 eb ec e (hI.sl hE) wl lF vars)
 refine ao F (bl Ln (aX MK) F ?_)
 clear MK
 rintro vr O' ⟨N,rfl,bf,nf,cf,rfl,rfl⟩
 refine ah F (ad (bE (vs:=_) F F) (ad (bE (vs:=_) F F) (aj F (aj F (ae ?_)))))
 refine iC [oI z2 32 [nS],oI z1 32 [(.slice eb e.length ec)]] [(0,(.slice eb e.length ec)),(1,vI vars),(2,(.pointer (aD z1))),(4,(.pointer (aD z2))),(5,vI 0),(7,vN (gw vars e))] F (.of F) (fun gF=>?_)
 refine ai (ah F (ad (aB (dQ F F) (ay (by omega))) (ae ?_)))
 refine bO F ?_
 refine ai (ah F (ao F (bN (vs:=[nS]) 0 fT F F F F ?_)))
 refine aj F (ae (aK (aA ?_)))
 refine t_ (i:=0) (vN (gw vars e)) Tryz.results26 cX F F F F ?_
 exact⟨[],Sub.z,F,F⟩
theorem Yo (w:World) [dE Tryz.prog w] (eb:Option Addr) (ec:Nat) (e:List dK) (hE:Sl w eb (bt e)) (wl:e.length<4611686018427387904) (lF: ∀x∈e,x.p<256∧x.n<256) (vars:Int) (h0:gw vars e=0):
  cH Tryz.prog 26 [.slice eb e.length ec,vI vars] w fun v N=> ∃b c,v=.tuple #[.slice b (uU e).length c,vI 0]∧N=[aq b c 72 5 (bt (uU e))]:=by
 refine aF func26 F ntmps26 F ?_
 obtain⟨k1,k2,k3,k4,zQ⟩:=wx lF h0
 have Ht:0<e.length:=(pm h0).2.2.1
 have h64:e.length≤64:=(pm h0).2.2.2.1
 have sR:(oW e).sz≤e.length:=by have:=fg (eJ (oW e)) 0;rw[ez]at this;unfold uU at k3;omega
 refine ai (ao F (dG (cs:=[(.slice eb e.length ec)]) F F (fun z1=>?_)))
 refine ao F (bs fT F (fun z2=>?_))
 refine aj F (ae (aM (ai (ad (bi 1 cX F F F F) (ah F ?_)))))
 have MK:=fun(w1:World) (hI:Inv w [oI z2 32 [nS],oI z1 32 [(.slice eb e.length ec)]] w1)=>(haveI:=et hI;EX w1 eb ec e (hI.sl hE) wl lF vars)
 refine ao F (bl Ln (aX MK) F ?_)
 clear MK
 rintro vr O' ⟨N,rfl,bf,nf,cf,rfl,rfl⟩
 refine ah F (ad (bE (vs:=_) F F) (ad (bE (vs:=_) F F) (aj F (aj F (ae ?_)))))
 refine iC [oI z2 32 [nS],oI z1 32 [(.slice eb e.length ec)]] [(0,(.slice eb e.length ec)),(1,vI vars),(2,(.pointer (aD z1))),(4,(.pointer (aD z2))),(5,vI 0),(7,vN (gw vars e))] F (.of F) (fun gF=>?_)
 refine ai (ah F (ad (aB (dQ F F) (ak (by omega))) (ae (a6 F (aE (ai (ao F (bs QM F (fun z3=>?_)))))))))
 refine ae (ai (ad (eZ) (ao F (bN (vs:=[(.func (.func 55) #[] #[(.pointer (aD z1)),(.pointer (aD z3)),(.pointer (aD z2))])]) 0 QM F F F F ?_))))
 refine ae (aM (T.eX 72 5 ?_))
 refine a7 (ad (bi 1 IG F F F F) (ad (bi 3 cX F F F F) (ad (cQ cX F) (ad (kZ (a:=e.length) (b:=1) F F (by omega) (by omega)) ?_))))
 have CN:=((qW w eb ec e hE z1 z3 z2 (oW e) (e.length-1) zQ).under [] (O:=[aq none 0 72 5 [],oI z3 58 [(.func (.func 55) #[] #[(.pointer (aD z1)),(.pointer (aD z3)),(.pointer (aD z2))])],oI z2 32 [nS],oI z1 32 [(.slice eb e.length ec)]]) none 0 [] (by simp;omega) (by exact Sub.ew [aq none 0 72 5 [],oI z3 58 [(.func (.func 55) #[] #[(.pointer (aD z1)),(.pointer (aD z3)),(.pointer (aD z2))])]] _ (.k (.ew [oI z3 58 [(.func (.func 55) #[] #[(.pointer (aD z1)),(.pointer (aD z3)),(.pointer (aD z2))])]] _ (.k .z)))))
 refine ao F (eN CN F F ?_)
 clear CN
 rintro vr O' ⟨ob,oc,rfl,rfl⟩
 refine ae (ai (ad (bi 0 cX F F F F) (ao F (bN (vs:=[(.slice ob (([]++post (eJ (oW e)) ([]:List dK).length).length) oc)]) 0 fT F F F F ?_))))
 refine aj F (ae (aK (aA ?_)))
 refine t_ (i:=0) (vI 0) Tryz.results26 cX F F F F ?_
 exact⟨[aq ob oc 72 5 (bt ([]++post (eJ (oW e)) ([]:List dK).length))],(by exact Sub.d (.k .z)),_,_,F,F⟩
end Go.Proofs.YtgdbfideeeegmaaGreatDoor

namespace Go.Proofs.YtgdbfideeeegmaaGreatDoor
open Go.Lx Go.RowKit _root_.Go.Proofs.Tryz
set_option maxRecDepth 20000 in
theorem CL (w:World) [dE Tryz.prog w] (a b:cU) (j k:DK) (ha:At w a j) (hb:At w b k) (va:Valid a) (vb:Valid b) (hv:a.vars=b.vars) (f:Bool→Bool→Bool) (g:Nat) (hf: ∀(base:World) (x y:Bool),eK Tryz.prog base (.func (.func g) #[] #[]) [.bool x,.bool y] [] (fun v O'=>v=.bool (f x y)∧O'=[])):
  cH Tryz.prog 138 [dV a j,dV b k,.func (.func g) #[] #[]] w fun v N=> ∃M k' e,v=.tuple #[dV M k',vI e]∧N=[dI 56 4 3 M k']∧(((order (bI f a b)).length≤4096∧M=ud f a b∧e=0)∨(4096<(order (bI f a b)).length∧e=10)):=by
 rcases Nat.lt_or_ge 4096 (order (bI f a b)).length with c|c
 ·refine(bW.dk (II:=56) (Bo:=4) (I:=3) (D:=DH) (g:=fun x=>.tuple #[x,vI 10]) ((fO 56 1 (fO 4 1 (ED w a b j k ha hb va vb hv f g hf c))).mono ?_)).mono ?_
  ·rintro v N ⟨O2,rfl,O3,rfl,rfl,rfl⟩
   exact⟨none,0,none,0,[],F,F,F⟩
  ·rintro v N ⟨k',rfl,rfl⟩
   exact⟨DH,k',10,F,F,.inr ⟨c,F⟩⟩
 ·refine(CM w a b j k ha hb va vb hv f g hf c).mono ?_
  rintro v N ⟨k',rfl,rfl⟩
  exact⟨ud f a b,k',0,F,F,.inl ⟨c,F,F⟩⟩
theorem Z1 (w:World) [dE Tryz.prog w] (a b:cU) (j k:DK) (ha:At w a j) (hb:At w b k) (va:Valid a) (vb:Valid b) (hv:a.vars=b.vars):
  cH Tryz.prog 107 [dV a j,dV b k] w fun v N=> ∃M k' e,v=.tuple #[dV M k',vI e]∧N=[dI 56 4 3 M k']∧(((order (bI rV a b)).length≤4096∧M=ud rV a b∧e=0)∨(4096<(order (bI rV a b)).length∧e=10)):=by
 refine aF func107 F ntmps107 F ?_
 refine ai (ao F (dG (cs:=(dC a j)) F F (fun nY=>?_)))
 refine ao F (dG (cs:=(dC b k)) F F (fun xq=>?_))
 refine ao F (bs bL F (fun KK=>?_))
 refine aj F (ae (ai (ad (eu 2 cZ F bL F F F) (ad (eu 1 cZ F bL F F F) ?_))))
 have FL:=fun(w1:World) (hI:Inv w [oI KK 25 [(vI 0),(vI 0),nS,nS],oI xq 25 (dC b k),oI nY 25 (dC a j)] w1)=>(haveI:=et hI;CL w1 a b j k (hI.pR ha) (hI.pR hb) va vb hv rV 152 WB)
 refine ao F (bl EE (aX FL) F ?_)
 clear FL
 rintro vr O' ⟨N,rfl,M,k',e,rfl,rfl,Ow⟩
 refine ad (bE (vs:=_) F F) (ad (bE (vs:=_) F F) (ao F (bN (vs:=(dC M k')) 1 bL F F F F ?_)))
 refine aj F (ae (aK (aA ?_)))
 refine jT (vI e) (i:=1) Tryz.results107 cZ F bL F F F F ?_
 exact⟨[dI 56 4 3 M k'],(by exact Sub.k .z),M,k',e,F,F,Ow⟩
theorem orE (w:World) [dE Tryz.prog w] (a b:cU) (j k:DK) (ha:At w a j) (hb:At w b k) (va:Valid a) (vb:Valid b) (hv:a.vars=b.vars):
  cH Tryz.prog 106 [dV a j,dV b k] w fun v N=> ∃M k' e,v=.tuple #[dV M k',vI e]∧N=[dI 56 4 3 M k']∧(((order (bI DT a b)).length≤4096∧M=ud DT a b∧e=0)∨(4096<(order (bI DT a b)).length∧e=10)):=by
 refine aF func106 F ntmps106 F ?_
 refine ai (ao F (dG (cs:=(dC a j)) F F (fun nY=>?_)))
 refine ao F (dG (cs:=(dC b k)) F F (fun xq=>?_))
 refine ao F (bs bL F (fun KK=>?_))
 refine aj F (ae (ai (ad (eu 2 cZ F bL F F F) (ad (eu 1 cZ F bL F F F) ?_))))
 have FL:=fun(w1:World) (hI:Inv w [oI KK 25 [(vI 0),(vI 0),nS,nS],oI xq 25 (dC b k),oI nY 25 (dC a j)] w1)=>(haveI:=et hI;CL w1 a b j k (hI.pR ha) (hI.pR hb) va vb hv DT 151 Z2)
 refine ao F (bl EE (aX FL) F ?_)
 clear FL
 rintro vr O' ⟨N,rfl,M,k',e,rfl,rfl,Ow⟩
 refine ad (bE (vs:=_) F F) (ad (bE (vs:=_) F F) (ao F (bN (vs:=(dC M k')) 1 bL F F F F ?_)))
 refine aj F (ae (aK (aA ?_)))
 refine jT (vI e) (i:=1) Tryz.results106 cZ F bL F F F F ?_
 exact⟨[dI 56 4 3 M k'],(by exact Sub.k .z),M,k',e,F,F,Ow⟩
theorem WC (w:World) [dE Tryz.prog w] (a:cU) (j:DK) (ha:At w a j) (va:Valid a):
  cH Tryz.prog 102 [dV a j] w fun v N=> ∃k':DK,v=.tuple #[dV (n8 a) k',vI 0]∧N=[dI 56 4 3 (n8 a) k']:=by
 have h:=Z3 w a j ha (by have:=va.n4;omega) va.wJ (by have:=va.fin;have:=va.n4;omega)
 rw[I4 (by rw[uX,eA.2 va]),eA.2 va]at h
 exact h
theorem HY (w:World) [dE Tryz.prog w] (cb:Nat) (eb:Option Addr) (en ec vs B:Nat) (eV:Sl w (aD cb) [.slice eb en ec,vI (vs:Int),vI (B:Int)]) (gv:vs≤6) (iR:1≤B) (hB:B≤4096) (e:List dK) (hE:Sl w eb (bt e)) (j6:en=e.length) (i:Nat) (hp:e[i]? =some ⟨1,0,0,0,0⟩):
  dB Tryz.prog w (.iface 163 (.agg #[])) 72 [(dW (aD cb) 0),vN i] [] (sN vs B Rx.none) (¬kQ vs Rx.none B):=by
 refine dM func72 F ntmps72 F ?_
 obtain⟨hi,_⟩:=iK hp
 refine ai (ao F (bs bL F (fun z1=>?_)))
 refine ae (ai (ah F (ad (a8 F) (ad (cy lx F fT F F (aL eV) (by first|omega|(simp;done)|(simp;omega)|(simp_all;done)|(simp_all;omega))) (ad (de cX F F (aL eV) F) (ah F (ad (dT (i:=i) cX cm F F (aL hE) (by omega) (by rw[bY];omega)) (ad (eO (vs:=[v8 1,v8 0,v8 0,vI 0,vI 0]) bU F cm F F (br _) (aL hE) (fy hp)) (ao F (bs cm F (fun z2=>?_)))))))))))
 refine ao F (bN (vs:=[v8 1,v8 0,v8 0,vI 0,vI 0]) 0 cm F F F F ?_)
 refine ae (aM (ai (ad (a_ bU F du F F) (ad (bi 0 fA F F F F) (ae (aU (ai (ad (bJ F F) (ad (aB (cx F) (ay (by decide))) (ae ?_))))))))))
 refine bO F ?_
 refine ai (ah F (ah F ?_))
 have qu:=fun(w1:World) (hI:Inv w [oI z2 72 [v8 1,v8 0,v8 0,vI 0,vI 0],oI z1 25 [(vI 0),(vI 0),nS,nS]] w1)=>(haveI:=et hI;Na w1 cb eb en ec vs B (hI.sl eV) gv)
 refine ao F (bl EF (aX qu) F ?_)
 clear qu
 rintro vr O' ⟨N,rfl,kA,rfl,rfl⟩
 have nk:=fun(w1:World) (hI:Inv w [dI 56 4 3 (fJ (vs:Int) true) kA,oI z2 72 [v8 1,v8 0,v8 0,vI 0,vI 0],oI z1 25 [(vI 0),(vI 0),nS,nS]] w1)=>(haveI:=et hI;WC w1 (fJ (vs:Int) true) kA (hI.at (k:=kA) (mG 0 F)) (fN gv).valid)
 refine ao F (bl KL (aX nk) F ?_)
 clear nk
 rintro vr O' ⟨N,rfl,kr,rfl,rfl⟩
 refine ad (bE (vs:=_) F F) (ad (bE (vs:=_) F F) ?_)
 have CN:=fun(w1:World) (hI:Inv w [dI 56 4 3 (n8 (fJ (vs:Int) true)) kr,dI 56 4 3 (fJ (vs:Int) true) kA,oI z2 72 [v8 1,v8 0,v8 0,vI 0,vI 0],oI z1 25 [(vI 0),(vI 0),nS,nS]] w1)=>(haveI:=et hI;nl w1 cb eb en ec vs B (hI.sl eV) (n8 (fJ (vs:Int) true)) kr 0)
 refine eG F (eW so (dB.pure CN) F (fun z _=>⟨F,fun h9=>z ⟨F,h9⟩⟩) ?_)
 clear CN
 rintro vr O' ⟨N,rfl,rfl,rfl,_,DP⟩
 have EA:=KM gv DP
 refine ao F (bN (vs:=(dC (n8 (fJ (vs:Int) true)) kr)) 3 bL F F F F ?_)
 refine ae (aK (aA ?_))
 refine cM (i:=3) Tryz.results72 cZ F bL F F F ?_
 exact⟨[dI 56 4 3 (n8 (fJ (vs:Int) true)) kr],(by exact Sub.k .z),(n8 (fJ (vs:Int) true)),kr,F,F,EA,DP⟩
theorem KN (w:World) [dE Tryz.prog w] (cb:Nat) (eb:Option Addr) (en ec vs B:Nat) (eV:Sl w (aD cb) [.slice eb en ec,vI (vs:Int),vI (B:Int)]) (gv:vs≤6) (iR:1≤B) (hB:B≤4096) (e:List dK) (hE:Sl w eb (bt e)) (j6:en=e.length) (i:Nat) (a:Rx) (j:Nat) (hp:e[i]? =some ⟨7,0,0,(j:Int),0⟩) (Ov: ∀(w1:World) [dE Tryz.prog w1],Inv w [] w1→dB Tryz.prog w1 (.iface 163 (.agg #[])) 72 [(dW (aD cb) 0),vN j] [] (sN vs B a) (¬kQ vs a B)):
  dB Tryz.prog w (.iface 163 (.agg #[])) 72 [(dW (aD cb) 0),vN i] [] (sN vs B (.not a)) (¬kQ vs (.not a) B):=by
 refine dM func72 F ntmps72 F ?_
 obtain⟨hi,_⟩:=iK hp
 refine ai (ao F (bs bL F (fun z1=>?_)))
 refine ae (ai (ah F (ad (a8 F) (ad (cy lx F fT F F (aL eV) (by first|omega|(simp;done)|(simp;omega)|(simp_all;done)|(simp_all;omega))) (ad (de cX F F (aL eV) F) (ah F (ad (dT (i:=i) cX cm F F (aL hE) (by omega) (by rw[bY];omega)) (ad (eO (vs:=[v8 7,v8 0,v8 0,vN j,vI 0]) bU F cm F F (br _) (aL hE) (fy hp)) (ao F (bs cm F (fun z2=>?_)))))))))))
 refine ao F (bN (vs:=[v8 7,v8 0,v8 0,vN j,vI 0]) 0 cm F F F F ?_)
 refine ae (aM (ai (ad (a_ bU F du F F) (ad (bi 0 fA F F F F) (ae (aU (ai (ad (bJ F F) (ad (aB (cx F) (ak (by decide))) (ae (a6 F (ai (ad (bJ F F) (ad (aB (cx F) (ak (by decide))) ?_))))))))))))))
 refine ae (a6 F (ai (ad (bJ F F) (ad (aB (cx F) (ak (by decide))) (ae (a6 F (ai (ad (bJ F F) (ad (aB (cx F) (ay (by decide))) ?_)))))))))
 refine ae ?_
 refine bO F ?_
 refine ai (ah F (ah F (ad (a_ bU F bj F F) (ad (bi 0 dP F F F F) ?_))))
 have oE:=fun(w1:World) (hI:Inv w [oI z2 72 [v8 7,v8 0,v8 0,vN j,vI 0],oI z1 25 [(vI 0),(vI 0),nS,nS]] w1)=>(haveI:=et hI;Ov w1 hI.nD)
 refine eG F (eW pL (dB.pure oE) F (fun z _=>⟨F,fun h9=>z h9.1⟩) ?_)
 clear oE
 rintro vr O' ⟨N,rfl,MA,kA,rfl,rfl,qF,HW⟩
 have zK:=gX qF hB
 have KO:=fun(w1:World) (hI:Inv w [dI 56 4 3 MA kA,oI z2 72 [v8 7,v8 0,v8 0,vN j,vI 0],oI z1 25 [(vI 0),(vI 0),nS,nS]] w1)=>(haveI:=et hI;WC w1 MA kA (hI.at (k:=kA) (mG 0 F)) qF.valid)
 refine ao F (bl KL (aX KO) F ?_)
 clear KO
 rintro vr O' ⟨N,rfl,kr,rfl,rfl⟩
 refine ad (bE (vs:=_) F F) (ad (bE (vs:=_) F F) ?_)
 have Cj:=fun(w1:World) (hI:Inv w [dI 56 4 3 (n8 MA) kr,dI 56 4 3 MA kA,oI z2 72 [v8 7,v8 0,v8 0,vN j,vI 0],oI z1 25 [(vI 0),(vI 0),nS,nS]] w1)=>(haveI:=et hI;nl w1 cb eb en ec vs B (hI.sl eV) (n8 MA) kr 0)
 refine eG F (eW so (dB.pure Cj) F (fun z _=>⟨F,fun h9=>z ⟨F,by rw[zK];exact h9.2⟩⟩) ?_)
 clear Cj
 rintro vr O' ⟨N,rfl,rfl,rfl,_,Qt⟩
 have EA:=notM qF.toHasL Qt
 have DP:kQ vs (.not a) B:=⟨HW,by rw[←zK];exact Qt⟩
 refine ao F (bN (vs:=(dC (n8 MA) kr)) 3 bL F F F F ?_)
 refine ae (aK (aA ?_))
 refine cM (i:=3) Tryz.results72 cZ F bL F F F ?_
 exact⟨[dI 56 4 3 (n8 MA) kr],(by exact Sub.k .z),(n8 MA),kr,F,F,EA,DP⟩
theorem KP (w:World) [dE Tryz.prog w] (cb:Nat) (eb:Option Addr) (en ec vs B:Nat) (eV:Sl w (aD cb) [.slice eb en ec,vI (vs:Int),vI (B:Int)]) (gv:vs≤6) (iR:1≤B) (hB:B≤4096) (e:List dK) (hE:Sl w eb (bt e)) (j6:en=e.length) (i:Nat) (a b:Rx) (j k:Nat) (hp:e[i]? =some ⟨5,0,0,(j:Int),(k:Int)⟩) (Ov: ∀(w1:World) [dE Tryz.prog w1],Inv w [] w1→dB Tryz.prog w1 (.iface 163 (.agg #[])) 72 [(dW (aD cb) 0),vN j] [] (sN vs B a) (¬kQ vs a B)) (Wy: ∀(w1:World) [dE Tryz.prog w1],Inv w [] w1→dB Tryz.prog w1 (.iface 163 (.agg #[])) 72 [(dW (aD cb) 0),vN k] [] (sN vs B b) (¬kQ vs b B)):
  dB Tryz.prog w (.iface 163 (.agg #[])) 72 [(dW (aD cb) 0),vN i] [] (sN vs B (.iv a b)) (¬kQ vs (.iv a b) B):=by
 refine dM func72 F ntmps72 F ?_
 obtain⟨hi,_⟩:=iK hp
 refine ai (ao F (bs bL F (fun z1=>?_)))
 refine ae (ai (ah F (ad (a8 F) (ad (cy lx F fT F F (aL eV) (by first|omega|(simp;done)|(simp;omega)|(simp_all;done)|(simp_all;omega))) (ad (de cX F F (aL eV) F) (ah F (ad (dT (i:=i) cX cm F F (aL hE) (by omega) (by rw[bY];omega)) (ad (eO (vs:=[v8 5,v8 0,v8 0,vN j,vN k]) bU F cm F F (br _) (aL hE) (fy hp)) (ao F (bs cm F (fun z2=>?_)))))))))))
 refine ao F (bN (vs:=[v8 5,v8 0,v8 0,vN j,vN k]) 0 cm F F F F ?_)
 refine ae (aM (ai (ad (a_ bU F du F F) (ad (bi 0 fA F F F F) (ae (aU (ai (ad (bJ F F) (ad (aB (cx F) (ak (by decide))) (ae (a6 F (ai (ad (bJ F F) (ad (aB (cx F) (ak (by decide))) ?_))))))))))))))
 refine ae (a6 F (ai (ad (bJ F F) (ad (aB (cx F) (ak (by decide))) (ae (a6 F (ai (ad (bJ F F) (ad (aB (cx F) (ak (by decide))) ?_)))))))))
 refine ae (a6 F (ai (ad (bJ F F) (ad (aB (cx F) (ak (by decide))) (ae (a6 F (ai (ad (bJ F F) (ad (aB (cx F) (ay (by decide))) ?_)))))))))
 refine ae ?_
 refine bO F ?_
 refine aM ?_
 refine fD [(0,0),(1,0),(2,0),(3,0),(5,0),(6,0),(7,0),(4,1),(8,1),(9,1),(10,0),(11,0),(12,2),(13,2)] ?_
 refine au F (aN F) (au F (aN F) (au F (a_ bU F bj F F) (au F (bi 0 dP F F F F) (au F (aN F) (au F (a_ bU F bj F F) (au F (bi 0 dP F F F F) ?_))))))
 have KQ:=fun(w1:World) (hI:Inv w [oI z2 72 [v8 5,v8 0,v8 0,vN j,vN k],oI z1 25 [(vI 0),(vI 0),nS,nS]] w1)=>(haveI:=et hI;Ov w1 hI.nD)
 refine io F F (eW pL (dB.pure KQ) F (fun z _=>⟨F,fun h9=>z h9.1⟩) ?_)
 clear KQ
 rintro vr O' ⟨N,rfl,MA,kA,rfl,rfl,qF,HW⟩
 refine⟨by exact Sub.d (.k (.k .z)),?_⟩
 have zK:=gX qF hB
 have KR:=fun(w1:World) (hI:Inv w [dI 56 4 3 MA kA,oI z2 72 [v8 5,v8 0,v8 0,vN j,vN k],oI z1 25 [(vI 0),(vI 0),nS,nS]] w1)=>(haveI:=et hI;Wy w1 hI.nD)
 refine io F F (eW pL (dB.pure KR) F (fun z _=>⟨F,fun h9=>z h9.2.1⟩) ?_)
 clear KR
 rintro vr O' ⟨N,rfl,MB,kB,rfl,rfl,yI,HX⟩
 refine⟨by exact Sub.d (.d (.k (.k .z))),?_⟩
 have Qs:=gX yI hB
 have WD:=fun(w1:World) (hI:Inv w [dI 56 4 3 MB kB,dI 56 4 3 MA kA,oI z2 72 [v8 5,v8 0,v8 0,vN j,vN k],oI z1 25 [(vI 0),(vI 0),nS,nS]] w1)=>(haveI:=et hI;orE w1 MA MB kA kB (hI.at (k:=kA) (mG 1 F)) (hI.at (k:=kB) (mG 0 F)) qF.valid yI.valid (by rw[qF.vars,yI.vars]))
 refine cr F F (bl SN (aX WD) F ?_)
 clear WD
 rintro vr O' ⟨N,rfl,MR,kr,ee,rfl,rfl,Ow⟩
 refine⟨by exact Sub.d (.d (.d (.k (.k .z)))),?_⟩
 refine au F (bE (vs:=_) F F) (au F (bE (vs:=_) F F) ?_)
 have KS:=fun(w1:World) (hI:Inv w [dI 56 4 3 MR kr,dI 56 4 3 MB kB,dI 56 4 3 MA kA,oI z2 72 [v8 5,v8 0,v8 0,vN j,vN k],oI z1 25 [(vI 0),(vI 0),nS,nS]] w1)=>(haveI:=et hI;nl w1 cb eb en ec vs B (hI.sl eV) MR kr ee)
 refine sr F F (eW so (dB.pure KS) F (fun z _=>⟨F,fun h9=>by
  have h8:=h9.2.2
  rw[←zK,←Qs]at h8
  rcases Ow with⟨_,rfl,rfl⟩|⟨h7,_⟩
  ·exact z ⟨F,h8.2⟩
  ·exact absurd h8.1 (by omega)⟩) ?_)
 clear KS
 rintro vr O' ⟨N,rfl,rfl,rfl,PC,Qt⟩
 obtain⟨ho,WE⟩:(order (bI DT MA MB)).length≤4096∧MR=ud DT MA MB:=Ow.elim (fun h9=>⟨h9.1,h9.2.1⟩) (fun h9=>absurd h9.2 (by omega))
 have EA:fM (vs:Int) B MR (gB (.iv a b)):=by subst WE;exact YH qF yI ho Qt
 have DP:kQ vs (.iv a b) B:=⟨HW,HX,by rw[←zK,←Qs];exact⟨ho,WE▸Qt⟩⟩
 refine b_ F F (bN (vs:=(dC MR kr)) 4 bL F F F F ?_)
 refine cw ?_
 refine aK (aA ?_)
 refine cM (i:=4) Tryz.results72 cZ F bL F F F ?_
 exact⟨[dI 56 4 3 MR kr],(by exact Sub.k .z),MR,kr,F,F,EA,DP⟩
theorem KT (w:World) [dE Tryz.prog w] (cb:Nat) (eb:Option Addr) (en ec vs B:Nat) (eV:Sl w (aD cb) [.slice eb en ec,vI (vs:Int),vI (B:Int)]) (gv:vs≤6) (iR:1≤B) (hB:B≤4096) (e:List dK) (hE:Sl w eb (bt e)) (j6:en=e.length) (i:Nat) (a b:Rx) (j k:Nat) (hp:e[i]? =some ⟨6,0,0,(j:Int),(k:Int)⟩) (Ov: ∀(w1:World) [dE Tryz.prog w1],Inv w [] w1→dB Tryz.prog w1 (.iface 163 (.agg #[])) 72 [(dW (aD cb) 0),vN j] [] (sN vs B a) (¬kQ vs a B)) (Wy: ∀(w1:World) [dE Tryz.prog w1],Inv w [] w1→dB Tryz.prog w1 (.iface 163 (.agg #[])) 72 [(dW (aD cb) 0),vN k] [] (sN vs B b) (¬kQ vs b B)):
  dB Tryz.prog w (.iface 163 (.agg #[])) 72 [(dW (aD cb) 0),vN i] [] (sN vs B (.and a b)) (¬kQ vs (.and a b) B):=by
 refine dM func72 F ntmps72 F ?_
 obtain⟨hi,_⟩:=iK hp
 refine ai (ao F (bs bL F (fun z1=>?_)))
 refine ae (ai (ah F (ad (a8 F) (ad (cy lx F fT F F (aL eV) (by first|omega|(simp;done)|(simp;omega)|(simp_all;done)|(simp_all;omega))) (ad (de cX F F (aL eV) F) (ah F (ad (dT (i:=i) cX cm F F (aL hE) (by omega) (by rw[bY];omega)) (ad (eO (vs:=[v8 6,v8 0,v8 0,vN j,vN k]) bU F cm F F (br _) (aL hE) (fy hp)) (ao F (bs cm F (fun z2=>?_)))))))))))
 refine ao F (bN (vs:=[v8 6,v8 0,v8 0,vN j,vN k]) 0 cm F F F F ?_)
 refine ae (aM (ai (ad (a_ bU F du F F) (ad (bi 0 fA F F F F) (ae (aU (ai (ad (bJ F F) (ad (aB (cx F) (ak (by decide))) (ae (a6 F (ai (ad (bJ F F) (ad (aB (cx F) (ak (by decide))) ?_))))))))))))))
 refine ae (a6 F (ai (ad (bJ F F) (ad (aB (cx F) (ak (by decide))) (ae (a6 F (ai (ad (bJ F F) (ad (aB (cx F) (ak (by decide))) ?_)))))))))
 refine ae (a6 F (ai (ad (bJ F F) (ad (aB (cx F) (ak (by decide))) (ae (a6 F (ai (ad (bJ F F) (ad (aB (cx F) (ak (by decide))) ?_)))))))))
 refine ae (a6 F (ai (ad (bJ F F) (ad (aB (cx F) (ay (by decide))) (ae ?_)))))
 refine bO F ?_
 refine aM ?_
 refine fD [(0,0),(1,0),(2,0),(3,0),(5,0),(6,0),(7,0),(4,1),(8,1),(9,1),(10,0),(11,0),(12,2),(13,2)] ?_
 refine au F (aN F) (au F (aN F) (au F (a_ bU F bj F F) (au F (bi 0 dP F F F F) (au F (aN F) (au F (a_ bU F bj F F) (au F (bi 0 dP F F F F) ?_))))))
 have WF:=fun(w1:World) (hI:Inv w [oI z2 72 [v8 6,v8 0,v8 0,vN j,vN k],oI z1 25 [(vI 0),(vI 0),nS,nS]] w1)=>(haveI:=et hI;Ov w1 hI.nD)
 refine io F F (eW pL (dB.pure WF) F (fun z _=>⟨F,fun h9=>z h9.1⟩) ?_)
 clear WF
 rintro vr O' ⟨N,rfl,MA,kA,rfl,rfl,qF,HW⟩
 refine⟨by exact Sub.d (.k (.k .z)),?_⟩
 have zK:=gX qF hB
 have JW:=fun(w1:World) (hI:Inv w [dI 56 4 3 MA kA,oI z2 72 [v8 6,v8 0,v8 0,vN j,vN k],oI z1 25 [(vI 0),(vI 0),nS,nS]] w1)=>(haveI:=et hI;Wy w1 hI.nD)
 refine io F F (eW pL (dB.pure JW) F (fun z _=>⟨F,fun h9=>z h9.2.1⟩) ?_)
 clear JW
 rintro vr O' ⟨N,rfl,MB,kB,rfl,rfl,yI,HX⟩
 refine⟨by exact Sub.d (.d (.k (.k .z))),?_⟩
 have Qs:=gX yI hB
 have WG:=fun(w1:World) (hI:Inv w [dI 56 4 3 MB kB,dI 56 4 3 MA kA,oI z2 72 [v8 6,v8 0,v8 0,vN j,vN k],oI z1 25 [(vI 0),(vI 0),nS,nS]] w1)=>(haveI:=et hI;Z1 w1 MA MB kA kB (hI.at (k:=kA) (mG 1 F)) (hI.at (k:=kB) (mG 0 F)) qF.valid yI.valid (by rw[qF.vars,yI.vars]))
 refine cr F F (bl SO (aX WG) F ?_)
 clear WG
 rintro vr O' ⟨N,rfl,MR,kr,ee,rfl,rfl,Ow⟩
 refine⟨by exact Sub.d (.d (.d (.k (.k .z)))),?_⟩
 refine au F (bE (vs:=_) F F) (au F (bE (vs:=_) F F) ?_)
 have WH:=fun(w1:World) (hI:Inv w [dI 56 4 3 MR kr,dI 56 4 3 MB kB,dI 56 4 3 MA kA,oI z2 72 [v8 6,v8 0,v8 0,vN j,vN k],oI z1 25 [(vI 0),(vI 0),nS,nS]] w1)=>(haveI:=et hI;nl w1 cb eb en ec vs B (hI.sl eV) MR kr ee)
 refine sr F F (eW so (dB.pure WH) F (fun z _=>⟨F,fun h9=>by
  have h8:=h9.2.2
  rw[←zK,←Qs]at h8
  rcases Ow with⟨_,rfl,rfl⟩|⟨h7,_⟩
  ·exact z ⟨F,h8.2⟩
  ·exact absurd h8.1 (by omega)⟩) ?_)
 clear WH
 rintro vr O' ⟨N,rfl,rfl,rfl,PC,Qt⟩
 obtain⟨ho,WE⟩:(order (bI rV MA MB)).length≤4096∧MR=ud rV MA MB:=Ow.elim (fun h9=>⟨h9.1,h9.2.1⟩) (fun h9=>absurd h9.2 (by omega))
 have EA:fM (vs:Int) B MR (gB (.and a b)):=by subst WE;exact YH qF yI ho Qt
 have DP:kQ vs (.and a b) B:=⟨HW,HX,by rw[←zK,←Qs];exact⟨ho,WE▸Qt⟩⟩
 refine b_ F F (bN (vs:=(dC MR kr)) 4 bL F F F F ?_)
 refine cw ?_
 refine aK (aA ?_)
 refine cM (i:=4) Tryz.results72 cZ F bL F F F ?_
 exact⟨[dI 56 4 3 MR kr],(by exact Sub.k .z),MR,kr,F,F,EA,DP⟩
theorem SM.of {cb:Nat} {eb:Option Addr} {en ec vs B:Nat} {e:List dK} (j6:en=e.length):SM cb eb en ec vs B e:=
 ⟨fun w _ gv iR hB eV hE i hp=>HY w cb eb en ec vs B eV gv iR hB e hE j6 i hp,fun w _ gv iR hB eV hE i a j hp hA=>KN w cb eb en ec vs B eV gv iR hB e hE j6 i a j hp hA,
  fun w _ gv iR hB eV hE i a b j k hp hA hb=>KP w cb eb en ec vs B eV gv iR hB e hE j6 i a b j k hp hA hb,fun w _ gv iR hB eV hE i a b j k hp hA hb=>KT w cb eb en ec vs B eV gv iR hB e hE j6 i a b j k hp hA hb⟩
end Go.Proofs.YtgdbfideeeegmaaGreatDoor

namespace Go.Proofs.YtgdbfideeeegmaaGreatDoor
open Go.Lx Go.RowKit _root_.Go.Proofs.Tryz
theorem Lc (w:World) [dE Tryz.prog w] (cb:Nat) (eb:Option Addr) (en ec vs B:Nat) (eV:Sl w (aD cb) [.slice eb en ec,vI (vs:Int),vI (B:Int)]) (gv:vs≤6) (iR:1≤B) (hB:B≤4096) (e:List dK) (hE:Sl w eb (bt e)) (j6:en=e.length) (i:Nat) (ob:Nat) (fv:Value) (a b:Rx) (j k:Nat) (hp:e[i]? =some ⟨5,0,0,(j:Int),(k:Int)⟩) (hA:nr w cb vs B ob fv a j) (hB:nr w cb vs B ob fv b k) (lb:Option Addr) (lc:Nat) (ls:List Lf) (ks:List LK) (nE:ks.length=ls.length) (hl:ls.length+(Rx.iv a b).lv≤64) (IS:sw ls (Rx.iv a b)):
  dB Tryz.prog w (.iface 163 (.agg #[])) 73 [(.pointer (aD ob)),vN i] ([oI ob 114 [(dW (aD cb) 0),(.slice lb ls.length lc),fv],aq lb lc 118 7 (dj ls ks)]++(cd 3 (eU ls ks)++gJ 56 4 3 ls ks)) (fun v O'=> ∃ua ub pS oT oU yp yr,v=.tuple #[(.slice oT (((aR vs (Rx.iv a b) ls).fi).length) oU),(.slice yp (((aR vs (Rx.iv a b) ls).la).length) yr)]∧O'=[oI ob 114 [(dW (aD cb) 0),(.slice ua (((aR vs (Rx.iv a b) ls).ls).length) ub),fv],aq ua ub 118 7 (dj ((aR vs (Rx.iv a b) ls).ls) pS),aq oT oU 3 1 (bS ((aR vs (Rx.iv a b) ls).fi)),aq yp yr 3 1 (bS ((aR vs (Rx.iv a b) ls).la))]++(cd 3 (eU ((aR vs (Rx.iv a b) ls).ls) pS)++gJ 56 4 3 ((aR vs (Rx.iv a b) ls).ls) pS)∧pS.length=(aR vs (Rx.iv a b) ls).ls.length∧okB vs (Rx.iv a b) B) (¬okB vs (Rx.iv a b) B):=by
 refine dM func73 F ntmps73 F ?_
 obtain⟨hi,_⟩:=iK hp
 have Tk:=gm vs a ls
 have aab:=gm vs b (aR vs a ls).ls
 have W6:=dY vs a ls
 have W7:=dY vs b (aR vs a ls).ls
 have aac:a.lv+b.lv≤64:=by simp only[Rx.lv]at hl;omega
 simp only[Rx.lv]at hl
 refine ai (aj F (aj F (ae (ai (ah F (ad (a8 F) (ad (a_ gA F oK F F) (ad (bi 0 vQ F F F F) (ad (a8 F) (ad (cy lx F fT F F (aL eV) (by first|omega|(simp;done)|(simp;omega)|(simp_all;done)|(simp_all;omega))) (ad (de cX F F (aL eV) F) (ah F (ad (dT (i:=i) cX cm F F (aL hE) (by omega) (by rw[bY];omega)) (ad (eO (vs:=[v8 5,v8 0,v8 0,vN j,vN k]) bU F cm F F (br _) (aL hE) (fy hp)) (ao F (bs cm F (fun z1=>?_)))))))))))))))))
 refine ao F (bN (vs:=[v8 5,v8 0,v8 0,vN j,vN k]) 0 cm F F F F ?_)
 refine ae (aM (ai (ad (a_ bU F du F F) (ad (bi 0 fA F F F F) (ae (aU (ai (ad (bJ F F) (ad (aB (cx F) (ak (by decide))) (ae (a6 F (ai (ad (bJ F F) (ad (aB (cx F) (ay (by decide))) ?_))))))))))))))
 refine ae ?_
 refine bO F ?_
 refine ai (ah F (ad (a_ bU F bj F F) (ad (bi 0 dP F F F F) ?_)))
 have Xa:=(hA.frame [oI z1 72 [v8 5,v8 0,v8 0,vN j,vN k]] (O:=[oI z1 72 [v8 5,v8 0,v8 0,vN j,vN k],oI ob 114 [(dW (aD cb) 0),(.slice lb ls.length lc),fv],aq lb lc 118 7 (dj ls ks)]) lb lc ls ks nE (by first|omega|(rw[dY];omega)) (sw.left IS) (by exact Sub.ew [oI z1 72 [v8 5,v8 0,v8 0,vN j,vN k]] _ (.ew [oI z1 72 [v8 5,v8 0,v8 0,vN j,vN k]] _ (.k .z))))
 refine eG F (eW C1 Xa F (fun z _=>⟨F,fun h9=>z h9.1⟩) ?_)
 clear Xa
 rintro vr O' ⟨Tl,Tm,W8,M4,M5,QC,QD,rfl,rfl,hkA,HW⟩
 refine ah F (ad (bE (vs:=_) F F) (ad (bE (vs:=_) F F) (aj F (aj F (ae (ai (ah F (ad (a_ bU F bj F F) (ad (bi 4 dP F F F F) ?_)))))))))
 have QG:=(hB.frame [aq M4 M5 3 1 (bS ((aR vs a ls).fi)),aq QC QD 3 1 (bS ((aR vs a ls).la)),oI z1 72 [v8 5,v8 0,v8 0,vN j,vN k]] (O:=[oI ob 114 [(dW (aD cb) 0),(.slice Tl (((aR vs a ls).ls).length) Tm),fv],aq Tl Tm 118 7 (dj ((aR vs a ls).ls) W8),aq M4 M5 3 1 (bS ((aR vs a ls).fi)),aq QC QD 3 1 (bS ((aR vs a ls).la)),oI z1 72 [v8 5,v8 0,v8 0,vN j,vN k]]) Tl Tm ((aR vs a ls).ls) W8 hkA (by first|omega|(rw[dY];omega)) (sw.right IS) (by exact Sub.rf))
 refine eG F (eW C1 QG F (fun z _=>⟨F,fun h9=>z h9.2⟩) ?_)
 clear QG
 rintro vr O' ⟨zO,zP,OI,W9,W_,QE,QF,rfl,rfl,Oi,HX⟩
 refine ah F (ad (bE (vs:=_) F F) (ad (bE (vs:=_) F F) (aj F (aj F (ae (ai (ah F (ah F (ao F (cW 4 cL cL bj F F F F (by rw[ar];omega) (by decide) (Src.row (j:=2) F (by rw[ar];omega)) (by simp[fa]) (by omega) (by decide) (by decide) (fun z2 tx=>?_)))))))))))
 refine ah F (ah F (ao F (cW 5 cL cL bj F F F F (by rw[ar];omega) (by decide) (Src.row (j:=3) F (by rw[ar];omega)) (by simp[fa]) (by omega) (by decide) (by decide) (fun z4 IU=>?_))))
 refine aj F (aj F (ae (aK (aA ?_))))
 refine dl (.slice z2 (((aR vs a ls).fi.length)+((aR vs b ((aR vs a ls).ls)).fi.length)) tx) (.slice z4 (((aR vs a ls).la.length)+((aR vs b ((aR vs a ls).ls)).la.length)) IU) Tryz.results73 F F ?_
 exact⟨[oI ob 114 [(dW (aD cb) 0),(.slice zO (((aR vs b ((aR vs a ls).ls)).ls).length) zP),fv],aq zO zP 118 7 (dj ((aR vs b ((aR vs a ls).ls)).ls) OI),aq z2 tx 3 1 ((bS ((aR vs a ls).fi))++(bS ((aR vs b ((aR vs a ls).ls)).fi))),aq z4 IU 3 1 ((bS ((aR vs a ls).la))++(bS ((aR vs b ((aR vs a ls).ls)).la)))]++(cd 3 (eU ((aR vs b ((aR vs a ls).ls)).ls) OI)++gJ 56 4 3 ((aR vs b ((aR vs a ls).ls)).ls) OI),(by exact Sub.k (.k (.d (.d (.k (.k (.d .rf))))))),zO,zP,OI,z2,tx,z4,IU,by show _=Value.tuple #[.slice _ ((aR vs a ls).fi++(aR vs b ((aR vs a ls).ls)).fi).length _,.slice _ ((aR vs a ls).la++(aR vs b ((aR vs a ls).ls)).la).length _];rw[aw,aw],by show _=[_,_,aq _ _ _ _ (bS ((aR vs a ls).fi++(aR vs b ((aR vs a ls).ls)).fi)),aq _ _ _ _ (bS ((aR vs a ls).la++(aR vs b ((aR vs a ls).ls)).la))]++_;rw[show∀x y:List Nat,bS (x++y)=bS x++bS y from fun x y=>bm,show∀x y:List Nat,bS (x++y)=bS x++bS y from fun x y=>bm];rfl,Oi,HW,HX⟩
theorem C4 (w:World) [dE Tryz.prog w] (cb:Nat) (eb:Option Addr) (en ec vs B:Nat) (eV:Sl w (aD cb) [.slice eb en ec,vI (vs:Int),vI (B:Int)]) (gv:vs≤6) (iR:1≤B) (hB:B≤4096) (e:List dK) (hE:Sl w eb (bt e)) (j6:en=e.length) (i:Nat) (ob:Nat) (fv:Value) (a:Rx) (j:Nat) (hp:e[i]? =some ⟨10,0,0,(j:Int),0⟩) (W3: ∀ls,aR vs (Rx.behind a) ls=⟨ls++[⟨10,minOf vs (je (fun _=>true) (gB a)),[],false⟩],[ls.length],[ls.length]⟩) (W5: ∀(w1:World) [dE Tryz.prog w1],Inv w [] w1→dB Tryz.prog w1 (.iface 163 (.agg #[])) 72 [(dW (aD cb) 0),vN j] [] (sN vs B a) (¬kQ vs a B)) (lb:Option Addr) (lc:Nat) (ls:List Lf) (ks:List LK) (nE:ks.length=ls.length) (hl:ls.length+(Rx.behind a).lv≤64) (IS:sw ls (Rx.behind a)):
  dB Tryz.prog w (.iface 163 (.agg #[])) 73 [(.pointer (aD ob)),vN i] ([oI ob 114 [(dW (aD cb) 0),(.slice lb ls.length lc),fv],aq lb lc 118 7 (dj ls ks)]++(cd 3 (eU ls ks)++gJ 56 4 3 ls ks)) (fun v O'=> ∃ua ub pS oT oU yp yr,v=.tuple #[(.slice oT (((aR vs (Rx.behind a) ls).fi).length) oU),(.slice yp (((aR vs (Rx.behind a) ls).la).length) yr)]∧O'=[oI ob 114 [(dW (aD cb) 0),(.slice ua (((aR vs (Rx.behind a) ls).ls).length) ub),fv],aq ua ub 118 7 (dj ((aR vs (Rx.behind a) ls).ls) pS),aq oT oU 3 1 (bS ((aR vs (Rx.behind a) ls).fi)),aq yp yr 3 1 (bS ((aR vs (Rx.behind a) ls).la))]++(cd 3 (eU ((aR vs (Rx.behind a) ls).ls) pS)++gJ 56 4 3 ((aR vs (Rx.behind a) ls).ls) pS)∧pS.length=(aR vs (Rx.behind a) ls).ls.length∧okB vs (Rx.behind a) B) (¬okB vs (Rx.behind a) B):=by
 refine dM func73 F ntmps73 F ?_
 obtain⟨hi,_⟩:=iK hp
 simp only[W3]
 refine ai (aj F (aj F (ae (ai (ah F (ad (a8 F) (ad (a_ gA F oK F F) (ad (bi 0 vQ F F F F) (ad (a8 F) (ad (cy lx F fT F F (aL eV) (by first|omega|(simp;done)|(simp;omega)|(simp_all;done)|(simp_all;omega))) (ad (de cX F F (aL eV) F) (ah F (ad (dT (i:=i) cX cm F F (aL hE) (by omega) (by rw[bY];omega)) (ad (eO (vs:=[v8 10,v8 0,v8 0,vN j,vI 0]) bU F cm F F (br _) (aL hE) (fy hp)) (ao F (bs cm F (fun z1=>?_)))))))))))))))))
 refine ao F (bN (vs:=[v8 10,v8 0,v8 0,vN j,vI 0]) 0 cm F F F F ?_)
 refine ae (aM (ai (ad (a_ bU F du F F) (ad (bi 0 fA F F F F) (ae (aU (ai (ad (bJ F F) (ad (aB (cx F) (ak (by decide))) (ae (a6 F (ai (ad (bJ F F) (ad (aB (cx F) (ak (by decide))) ?_))))))))))))))
 refine ae (a6 F (ai (ad (bJ F F) (ad (aB (cx F) (ak (by decide))) (ae (a6 F (ai (ad (bJ F F) (ad (aB (cx F) (ay (by decide))) ?_)))))))))
 refine ae ?_
 refine bO F ?_
 refine T.ds [oI z1 72 [v8 10,v8 0,v8 0,vN j,vI 0],oI ob 114 [(dW (aD cb) 0),(.slice lb ls.length lc),fv]] [(0,0),(1,0),(2,0),(3,0),(4,0),(5,0),(6,0),(7,0),(8,0),(9,0),(10,0),(11,0),(12,0),(13,0),(14,0),(16,0),(17,0),(18,0),(19,0),(20,0),(21,0),(15,1),(22,1),(23,1),(24,0),(25,1),(26,1),(27,0),(28,0),(29,2)] (by exact Sub.k (.k .z)) ?_
 refine au F (aN F) (au F (aN F) (au F (a8 F) (au F (a_ gA F gD F F) (au F (bi 1 fB F F F F) (au F (a_ bU F du F F) (au F (bi 0 fA F F F F) (au F (aN F) (au F (a8 F) (au F (a_ gA F oK F F) (au F (bi 1 vQ F F F F) (au F (aN F) (au F (a8 F) (au F (a_ gA F oK F F) (au F (bi 1 vQ F F F F) (au F (aN F) (au F (a8 F) (au F (a_ gA F oK F F) (au F (bi 1 vQ F F F F) (au F (a_ bU F bj F F) (au F (bi 0 dP F F F F) ?_))))))))))))))))))))
 have QH:=fun(w1:World) (hI:Inv w ([oI z1 72 [v8 10,v8 0,v8 0,vN j,vI 0],oI ob 114 [(dW (aD cb) 0),(.slice lb ls.length lc),fv],aq lb lc 118 7 (dj ls ks)]++(cd 3 (eU ls ks)++gJ 56 4 3 ls ks)) w1)=>(haveI:=et hI;Na w1 cb eb en ec vs B (hI.sl eV) gv)
 refine cr F F (bl EF (aX QH) F ?_)
 clear QH
 rintro vr O' ⟨N,rfl,kS,rfl,rfl⟩
 refine⟨by exact Sub.d (.k (.k .z)),?_⟩
 have QI:=fun(w1:World) (hI:Inv w ([dI 56 4 3 (fJ (vs:Int) true) kS,oI z1 72 [v8 10,v8 0,v8 0,vN j,vI 0],oI ob 114 [(dW (aD cb) 0),(.slice lb ls.length lc),fv],aq lb lc 118 7 (dj ls ks)]++(cd 3 (eU ls ks)++gJ 56 4 3 ls ks)) w1)=>(haveI:=et hI;W5 w1 hI.nD)
 refine io F F (eW pL (dB.pure QI) F (fun z _=>⟨F,fun h9=>z h9.1⟩) ?_)
 clear QI
 rintro vr O' ⟨N,rfl,MA,kA,rfl,rfl,qF,hO⟩
 refine⟨by exact Sub.d (.d (.k (.k .z))),?_⟩
 have zK:=gX qF hB
 have QJ:=fun(w1:World) (hI:Inv w ([dI 56 4 3 MA kA,dI 56 4 3 (fJ (vs:Int) true) kS,oI z1 72 [v8 10,v8 0,v8 0,vN j,vI 0],oI ob 114 [(dW (aD cb) 0),(.slice lb ls.length lc),fv],aq lb lc 118 7 (dj ls ks)]++(cd 3 (eU ls ks)++gJ 56 4 3 ls ks)) w1)=>(haveI:=et hI;Sw w1 cb eb en ec vs B (hI.sl eV) gv iR hB (fJ (vs:Int) true) kS (hI.at (k:=kS) (mG 1 F)) (fN gv).valid F MA kA (hI.at (k:=kA) (mG 0 F)) qF.valid (by rw[qF.vars];rfl))
 refine io F F (eW EB (dB.pure QJ) F (fun z _=>⟨F,fun h9=>z (by rw[zK];exact h9.2)⟩) ?_)
 clear QJ
 rintro vr O' ⟨N,rfl,M,kM,rfl,rfl,SK,SL⟩
 refine⟨by exact Sub.d (.d (.d (.k (.k .z)))),?_⟩
 have eM:M=minOf vs (je (fun _=>true) (gB a)):=gX (SK.to fun w9 h9=>pv (fun u hu=>(fN gv).iM u hu) (fun u hu=>qF.iM u hu) h9) hB
 refine au F (cE (cs:=[v8 10,(vI M.vars),(vI M.start),(.slice kM.nb M.next.length kM.nc),(.slice kM.fb M.aY.length kM.fc),nS,(.bool false)]) A2 fe (by kernel_rfl)) ?_
 refine cr F F (cz (m:=1) (parts:=[(0,_)]) (cs:=[v8 10,(vI M.vars),(vI M.start),(.slice kM.nb M.next.length kM.nc),(.slice kM.fb M.aY.length kM.fc),nS,(.bool false)]) fB fe (by decide) (by kernel_rfl) F (fun z2=>⟨by exact Sub.d (.d (.d (.d (.k (.k .z))))),?_⟩))
 refine cr F F (cW 6 fB fB fe F F F F (by rw[dS nE]) (by decide) (Src.row (j:=0) F (by simp)) (by simp[fa]) (by omega) (by decide) (by decide) (fun z3 kH=>⟨by exact Sub.d (.d (.d (.d (.k (.k .z))))),?_⟩))
 refine au F (a8 F) (au F (a_ gA F gD F F) ?_)
 refine b_ F F (bN (vs:=[(.slice z3 (ls.length+1) kH)]) 5 gD F F F F ?_)
 refine cw ?_
 refine ai (ah F (ad (a8 F) (ad (a_ gA F gD F F) (ad (bi 5 fB F F F F) (ad (cQ fB F) (ad (bK (fH F F (by omega)) (v':=vN ls.length) (ax (Value.int .i64) (by omega))) (aj F (ae (aM (T.eX 3 1 ?_))))))))))
 refine a7 (ah F (ao F (cN (v:=vN ls.length) cL bj F F F (fun z5=>?_))))
 refine ah F (ao F (cN (v:=vN ls.length) cL bj F F F (fun z6=>?_)))
 refine aj F (aj F (ae (aK (aA ?_))))
 refine dl (.slice (aD z5) 1 1) (.slice (aD z6) 1 1) Tryz.results73 F F ?_
 exact⟨[oI ob 114 [(dW (aD cb) 0),(.slice z3 ((ls++[(⟨10,minOf vs (je (fun _=>true) (gB a)),[],false⟩:Lf)]).length) kH),fv],aq z3 kH 118 7 (dj (ls++[(⟨10,minOf vs (je (fun _=>true) (gB a)),[],false⟩:Lf)]) (ks++[(⟨kM,none,0⟩:LK)])),aq (aD z5) 1 3 1 (bS [ls.length]),aq (aD z6) 1 3 1 (bS [ls.length])]++(cd 3 (eU (ls++[(⟨10,minOf vs (je (fun _=>true) (gB a)),[],false⟩:Lf)]) (ks++[(⟨kM,none,0⟩:LK)]))++gJ 56 4 3 (ls++[(⟨10,minOf vs (je (fun _=>true) (gB a)),[],false⟩:Lf)]) (ks++[(⟨kM,none,0⟩:LK)])),by
   rw[sx nE,sy,uE nE,qO nE,aw,←eM]
   exact qP [oI ob 114 [(dW (aD cb) 0),(.slice z3 (ls.length+1) kH),fv],aq z3 kH 118 7 ((dj ls ks)++[v8 10,(vI M.vars),(vI M.start),(.slice kM.nb M.next.length kM.nc),(.slice kM.fb M.aY.length kM.fc),nS,(.bool false)]),aq (aD z5) 1 3 1 [vN ls.length],aq (aD z6) 1 3 1 [vN ls.length]] [aq (aD z6) 1 3 1 [vN ls.length],aq (aD z5) 1 3 1 [vN ls.length],aq none 0 3 1 [],aq (aD z2) 1 118 7 [v8 10,(vI M.vars),(vI M.start),(.slice kM.nb M.next.length kM.nc),(.slice kM.fb M.aY.length kM.fc),nS,(.bool false)],dI 56 4 3 M kM,dI 56 4 3 MA kA,dI 56 4 3 (fJ (vs:Int) true) kS,oI z1 72 [v8 10,v8 0,v8 0,vN j,vI 0],oI ob 114 [(dW (aD cb) 0),(.slice z3 (ls.length+1) kH),fv],aq z3 kH 118 7 ((dj ls ks)++[v8 10,(vI M.vars),(vI M.start),(.slice kM.nb M.next.length kM.nc),(.slice kM.fb M.aY.length kM.fc),nS,(.bool false)])] _ _ _ _ (by exact Sub.ew [aq (aD z6) 1 3 1 [vN ls.length],aq (aD z5) 1 3 1 [vN ls.length],aq none 0 3 1 [],aq (aD z2) 1 118 7 [v8 10,(vI M.vars),(vI M.start),(.slice kM.nb M.next.length kM.nc),(.slice kM.fb M.aY.length kM.fc),nS,(.bool false)],dI 56 4 3 M kM,dI 56 4 3 MA kA,dI 56 4 3 (fJ (vs:Int) true) kS,oI z1 72 [v8 10,v8 0,v8 0,vN j,vI 0]] _ (.ew [aq (aD z6) 1 3 1 [vN ls.length],aq (aD z5) 1 3 1 [vN ls.length],aq none 0 3 1 [],aq (aD z2) 1 118 7 [v8 10,(vI M.vars),(vI M.start),(.slice kM.nb M.next.length kM.nc),(.slice kM.fb M.aY.length kM.fc),nS,(.bool false)],dI 56 4 3 M kM,dI 56 4 3 MA kA,dI 56 4 3 (fJ (vs:Int) true) kS,oI z1 72 [v8 10,v8 0,v8 0,vN j,vI 0]] _ (.ew [aq (aD z6) 1 3 1 [vN ls.length]] _ (.k (.k (.d (.k .z))))))),z3,kH,(ks++[(⟨kM,none,0⟩:LK)]),(aD z5),1,(aD z6),1,F,F,by simp[nE],⟨hO,by rw[←zK];exact SL⟩⟩
theorem Tn.of {cb:Nat} {eb:Option Addr} {en ec vs B:Nat} {e:List dK} (j6:en=e.length):Tn cb eb en ec vs B e:=
 ⟨SM.of j6,fun w _ gv iR hB eV hE ob fv i a b j k hp hA hb=>Lc w cb eb en ec vs B eV gv iR hB e hE j6 i ob fv a b j k hp hA hb,
  fun w _ gv iR hB eV hE ob fv i a j hp hA=>C4 w cb eb en ec vs B eV gv iR hB e hE j6 i ob fv a j hp (fun _=>rfl) hA⟩
end Go.Proofs.YtgdbfideeeegmaaGreatDoor

namespace Go.Proofs.YtgdbfideeeegmaaGreatDoor
open Go.Lx Go.RowKit _root_.Go.Proofs.Tryz
theorem XT (base:World) [dE Tryz.prog base] (eb:Option Addr) (ec:Nat) (e:List dK) (hE:Sl base eb (bt e)) (wl:e.length<4611686018427387904) (lF: ∀x∈e,x.p<256∧x.n<256) (vars jE:Int) (D6:e.any lm=true→e.length≤24):
  cH Tryz.prog 19 [.slice eb e.length ec,.int .i64 vars,.int .i64 jE] base fun v N=> ∃D k er,v=.tuple #[dV D k,.int .i64 ((er:Nat):Int)]∧N=[dI 56 4 3 D k]∧XI (gw vars e) jE (fun M=>fM vars jE.toNat M (mx vars.toNat e)∧Bx vars.toNat e jE.toNat) (¬Bx vars.toNat e jE.toNat) D er:=by
 by_cases hb:1≤jE∧jE≤4096
 ·refine FR (J7 base eb ec e hE wl lF vars jE D6 (K:=137438953471) (by omega) (fun _=>Tn.of F) fun h0 hl ho=>?_)
  obtain⟨h1,h2,h3,h4,fs,h5,h6,h7⟩:=pm h0
  have h8:=tU h5 e.length (e.length-1) (by omega) (by omega)
  have h9:=D6 hl
  exact Pp (B:=jE.toNat) (by omega) (by omega) ((rm h5 e.length (e.length-1) (by omega) (by omega)).2 h7) ho (by show(jy e e.length (e.length-1)).sz≤24;omega)
 ·refine(FR (QX base eb e.length ec vars (gw vars e) jE _ _ (fun w1 _ hI=>Gc w1 eb ec e (hI.sl hE) wl lF vars) fun h0 Hr D8=>absurd ⟨Hr,D8⟩ hb))
end Go.Proofs.YtgdbfideeeegmaaGreatDoor

namespace Go.Proofs.YtgdbfideeeegmaaGreatDoor
open Go.Lx Go.RowKit _root_.Go.Proofs.Tryz
theorem X2 (w:World) [dE Tryz.prog w] (b:Option Addr) (n c:Nat):cH Tryz.prog 18 [.slice b n c] w fun v N=>v=.bool (decide ((24:Int)<(n:Int)))∧N=[]:=by
 refine aF func18 F ntmps18 F ?_
 refine ai (aj F (ae (ai (ah F (ad (cQ cX F) (ad (iy F F) (aj F (ae (aK ?_)))))))))
 refine aS (.bool (decide ((n:Int)>24))) Tryz.results18 F ?_
 exact⟨F,F⟩
end Go.Proofs.YtgdbfideeeegmaaGreatDoor

namespace Go.Proofs.YtgdbfideeeegmaaGreatDoor
open Go.Lx Go.RowKit _root_.Go.Proofs.Tryz
theorem X5 (w:World) [dE Tryz.prog w] (b:Option Addr) (c:Nat) (e:List dK) (hE:Sl w b (bt e)) (wl:e.length<4611686018427387904) (lF: ∀x∈e,x.p<256∧x.n<256) (vars jE:Int) (D6:e.any lm=true→e.length≤24) (wb:Option Addr) (wc:Nat) (l:List Nat) (hW:Sl w wb (p7 l)) (hwl:l.length<9223372036854775807) (Pt: ∀x∈l,x<256):
  cH Tryz.prog 21 [.slice b e.length c,vI vars,vI jE,.slice wb l.length wc] w fun v N=> ∃x er,v=.tuple #[.bool x,vN er]∧N=[]∧MI vars jE e l x er:=by
 refine aF func21 F ntmps21 F ?_
 refine ai (aj F (aj F (ae (ai (ah F (ah F (ah F (ao F (bl J_ (aX fun w1 hI=>(haveI:=et hI;XT w1 b c e (hI.sl hE) wl lF vars jE D6)) F ?_)))))))))
 rintro vr O' ⟨N,rfl,D,k,er,rfl,rfl,hF⟩
 refine ah F (ad (bE (vs:=_) F F) (ad (bE (vs:=_) F F) (ao F (bs bL F (fun z1=>?_)))))
 refine ao F (bN (vs:=(dC D k)) 0 bL F F F F ?_)
 refine aj F (ae ?_)
 refine iC [oI z1 25 (dC D k),dI 56 4 3 D k] [(0,(.slice b e.length c)),(1,vI vars),(2,vI jE),(3,(.slice wb l.length wc)),(8,.bool false),(9,vI 0),(10,(.pointer (aD z1))),(11,vN er)] F (.of F) (fun gF=>?_)
 refine aM (ai (ah F (ad (dQ F F) (ae (aP F (fun hc=>?_) (fun hc=>?_))))))
 ·have xF:er≠0:=by omega
  refine ai (ah F (aj F (aj F (ae (aK (aA ?_))))))
  refine dl (.bool false) (vN er) Tryz.results21 F F ?_
  exact⟨[],Sub.z,_,_,F,F,D,er,hF,.inl ⟨by omega,F,F⟩⟩
 have Qw: ¬er≠0:=by omega
 refine aE (aM ?_)
 have hB:=wI (uV (v:=0) (e:=e) hF (by omega)).2.1.toHasL
 refine a7 (ad (eu 0 cZ F bL F F F) (ah F (ao F (bl Ka (aX fun w1 hI=>(haveI:=et hI;Cs w1 D k.nb k.fb k.nc k.fc (dm k.qs) (hI.at (mG 1 F)) hB.1 hB.2.1 hB.2.2 wb wc l (hI.sl hW) hwl Pt)) F ?_))))
 rintro vr O' ⟨N,rfl,rfl,rfl⟩
 refine ad (bE (vs:=_) F F) (ad (bE (vs:=_) F F) (aj F (aj F (ae (aK (aA ?_))))))
 refine dl (.bool (Aq D l)) (vN (kp D l)) Tryz.results21 F F ?_
 exact⟨[],Sub.z,_,_,F,F,D,er,hF,.inr ⟨by omega,F,F⟩⟩
theorem abb (w:World) [dE Tryz.prog w] (eb:Option Addr) (ec:Nat) (e:List dK) (hE:Sl w eb (bt e)) (wl:e.length<4611686018427387904) (lF: ∀x∈e,x.p<256∧x.n<256) (vars:Int):
  cH Tryz.prog 26 [.slice eb e.length ec,vI vars] w fun v N=> ∃b c x,v=.tuple #[.slice b x.length c,vN (gw vars e)]∧N=[aq b c 72 5 (bt x)]∧(gw vars e=0→x=uU e)∧(∀y∈x,y.p<256∧y.n<256)∧x.length≤e.length:=by
 by_cases h0:gw vars e=0
 ·refine(Yo w eb ec e hE wl lF vars h0).mono ?_
  rintro v N ⟨b,c,rfl,rfl⟩
  obtain⟨_,_,h3,h4,_⟩:=wx lF h0
  exact⟨b,c,uU e,by rw[h0];rfl,F,fun _=>rfl,h4,h3⟩
 ·refine(fO 72 5 (Uc w eb ec e hE wl lF vars h0)).mono ?_
  rintro v N ⟨O2,rfl,rfl,rfl⟩
  exact⟨none,0,[],F,F,fun h=>absurd h h0,fun y hy=>absurd hy (by simp),bn _⟩
end Go.Proofs.YtgdbfideeeegmaaGreatDoor

namespace Go.Proofs.YtgdbfideeeegmaaGreatDoor
open Go.Lx Go.RowKit _root_.Go.Proofs.Tryz
deriving instance DecidableEq for dK
theorem qV {P:Program} {d:Nat} {xs ys:Array Value} {f:Field} {fs:List Field} {a b:Value} {r r2:Bool} {w:World} (hn:f.name≠ "_") (he:P.plainKey f.type=true) (ha:xs[f.offset]? =some a) (hb:ys[f.offset]? =some b)
  (hr:(Op.equalIn d f.type a b).run P w=.ok r w) (h2:(Op.eqFields d xs ys fs).run P w=.ok r2 w):(Op.eqFields d xs ys (f::fs)).run P w=.ok (r&&r2) w:=by
 simp only[Op.eqFields,aO hn,Sem.run_bind,run_part_plain w he ha,run_part_plain w he hb,hr,Result.andThen_ok,Sem.run_ite]
 cases r<;>simp[h2]
theorem X1 (x y:dK) (w:World):(Op.equalIn 10000 72 (.agg x.cells.toArray) (.agg y.cells.toArray)).run Tryz.prog w=.ok (decide (x=y)) w:=by
 have hf:Tryz.prog.fieldsOf 72= #[⟨"Op",5,0,false, "", "",0⟩,⟨"Pos",5,1,false, "", "",1⟩,⟨"Neg",5,2,false, "", "",2⟩,⟨"A",3,3,false, "", "",8⟩,⟨"B",3,4,false, "", "",16⟩]:=by
  unfold Program.fieldsOf;rw[bU]
 rw[run_equalIn_agg w 9999 72 _ _ (by rw[hf];exact bU) (by kernel_rfl),hf]
 have hu8:Tryz.prog.underlying 5=some (.int .u8):=fA
 have hi:Tryz.prog.underlying 3=some (.int .i64):=dP
 have p5:Tryz.prog.plainKey 5=true:=by unfold Program.plainKey;rw[hu8]
 have p3:Tryz.prog.plainKey 3=true:=by unfold Program.plainKey;rw[hi]
 have e5: ∀(u v:Int) w,(Op.equalIn 9999 5 (.int .u8 u) (.int .u8 v)).run Tryz.prog w=.ok (u==v) w:=fun u v w=>run_equalIn_int w 9998 5 .u8 .u8 u v hu8
 have e3: ∀(u v:Int) w,(Op.equalIn 9999 3 (.int .i64 u) (.int .i64 v)).run Tryz.prog w=.ok (u==v) w:=fun u v w=>run_equalIn_int w 9998 3 .i64 .i64 u v hi
 clear hf
 generalize 9999=q at e5 e3⊢
 obtain⟨o,p,n,a,b⟩:=x
 obtain⟨o2,p2,n2,a2,b2⟩:=y
 refine Eq.trans (qV (by simp) p5 F F (e5 _ _ w) (qV (by simp) p5 F F (e5 _ _ w) (qV (by simp) p5 F F (e5 _ _ w) (qV (by simp) p3 F F (e3 _ _ w) (qV (by simp) p3 F F (e3 _ _ w) F))))) ?_
 refine ax (fun r=>Result.ok r w) ?_
 rw[eo];simp;omega
section
variable {base:World} {ρ:Env} {O:List Lx.Item} {dst:Option Nat} {t:TypeId} {p:String} {af:Array Edge} {g:Option (Nat×Bool)}
theorem C7 {x y:Operand} {u v:dK} {U:TypeId} (hx:ev ρ x=.agg u.cells.toArray) (hy:ev ρ y=.agg v.cells.toArray):
  QT Tryz.prog base ⟨dst,.binOp .neq 72 x y U,t,p,af,g⟩ ρ O (.bool (!decide (u=v))):=fun w _=>by
 have h:=X1 u v w
 have hm:Tryz.prog.eqGuardType Tryz.prog.depth 72=false:=by kernel_rfl
 simp[execOp,hx,hy,run_eqGuard_agg w .neq 72 x y _ _ hm,run_neq_struct,h]
end
end Go.Proofs.YtgdbfideeeegmaaGreatDoor

namespace Go.Proofs.YtgdbfideeeegmaaGreatDoor
open Go.Lx Go.RowKit _root_.Go.Proofs.Tryz
theorem N6 (w:World) [dE Tryz.prog w] (xb yb:Option Addr) (xc yc:Nat) (xs ys:List dK) (hX:Sl w xb (bt xs)) (hY:Sl w yb (bt ys)) (hb:xs.length<4611686018427387904):
  cH Tryz.prog 15 [.slice xb xs.length xc,.slice yb ys.length yc] w fun v N=>v=.bool (decide (xs=ys))∧N=[]:=by
 refine aF func15 F ntmps15 F ?_
 refine ai (aj F (ae (aM (ai (ah F (ad (cQ cX F) (ah F (ad (cQ cX F) (ad (dQ F F) (ae (aP F (fun hc=>?_) (fun hc=>?_))))))))))))
 ·have lG:xs.length≠ys.length:=by omega
  have iA:xs.length≠ys.length:=by omega
  refine ai (aj F (ae (aK ?_)))
  refine aS (.bool false) Tryz.results15 F ?_
  exact⟨ax Value.bool (ak (fun e=>iA (by rw[e]))).symm,F⟩
 have vg: ¬xs.length≠ys.length:=by omega
 have iA:xs.length=ys.length:=by omega
 refine aE (aM (ai (aj F (ae (aU ?_)))))
 refine eF (fun(k:Nat) ρ O=>O=[]∧k≤xs.length∧xs.take k=ys.take k∧dv [(0,(.slice xb xs.length xc)),(1,(.slice yb ys.length yc)),(5,vN k)] ρ) (fun k=>xs.length-k) 0 ?_ ?_
 ·exact⟨F,bn _,F,⟨F,F,F,trivial⟩⟩
 rintro k ρ O ⟨rfl,hk,he,hH⟩
 obtain⟨gF,rfl⟩:=hH.elim
 clear hH
 refine aM (ai (ah F (ah F (ad (cQ cX F) (ad (cT F F) (ae (aP F (fun hc=>?_) (fun hc=>?_))))))))
 ·have pN:k<xs.length:=by omega
  have gn:k<xs.length:=by omega
  have lO:k<ys.length:=by omega
  refine aE (aM (aU (aM ?_)))
  refine fD [(0,0),(1,0),(2,0),(3,0),(4,0),(5,0),(6,0),(7,0),(8,0)] ?_
  refine au F (aN F) (au F (aN F) (au F (dT (i:=k) cX cm F F (aL hX) gn (by rw[bY];omega)) (au F (eO (vs:=xs[k].cl) bU F cm F F (br _) (aL hX) (fy (ap gn))) ?_)))
  refine au F (aN F) (au F (aN F) (au F (dT (i:=k) cX cm F F (aL hY) lO (by rw[bY];omega)) (au F (eO (vs:=ys[k].cl) bU F cm F F (br _) (aL hY) (fy (ap lO))) ?_)))
  refine au F (C7 (u:=xs[k]) (v:=ys[k]) F F) ?_
  refine cw ?_
  refine T.cond F (fun hc=>?_) (fun hc=>?_)
  ·refine aM ?_
   refine a7 (aj F (ae (aK ?_)))
   refine aS (.bool false) Tryz.results15 F ?_
   exact⟨ax Value.bool (ak (fun e=>(by simp at hc;exact hc:xs[k]≠ys[k]) (by subst e;rfl))).symm,F⟩
  refine aE (a7 (ah F (ad (dy (a:=k) (b:=1) F F (by omega)) (aj F (ae ?_)))))
  refine⟨k+1,by omega,F,by omega,?_,⟨F,F,F,trivial⟩⟩
  rw[aH gn,aH lO,he]
  exact ax _ (ax (fun z=>[z]) (by simpa using hc))
 have xC: ¬k<xs.length:=by omega
 refine cK ?_
 refine ai (aj F (ae (aK ?_)))
 refine aS (.bool true) Tryz.results15 F ?_
 exact⟨ax Value.bool (ay (show xs=ys by rw[bw (by omega),bw (by omega)]at he;exact he)).symm,F⟩
theorem NB (w:World) [dE Tryz.prog w] (xb yb:Option Addr) (xc yc:Nat) (xs ys:List dK) (hX:Sl w xb (bt xs)) (hY:Sl w yb (bt ys)) (hb:xs.length<4611686018427387904):
  cH Tryz.prog 67 [.slice xb xs.length xc,.slice yb ys.length yc] w fun v N=>v=.bool (decide (xs=ys))∧N=[]:=by
 refine aF func67 F ntmps67 F ?_
 refine ai (aj F (ae (aM (ai (ah F (ad (cQ cX F) (ah F (ad (cQ cX F) (ad (dQ F F) (ae (aP F (fun hc=>?_) (fun hc=>?_))))))))))))
 ·have lG:xs.length≠ys.length:=by omega
  have iA:xs.length≠ys.length:=by omega
  refine ai (aj F (ae (aK ?_)))
  refine aS (.bool false) Tryz.results67 F ?_
  exact⟨ax Value.bool (ak (fun e=>iA (by rw[e]))).symm,F⟩
 have vg: ¬xs.length≠ys.length:=by omega
 have iA:xs.length=ys.length:=by omega
 refine aE (aM (ai (ah F (ad (cQ cX F) (ah F (ae (aU ?_)))))))
 refine eF (fun(k:Nat) ρ O=>O=[]∧k≤xs.length∧xs.take k=ys.take k∧dv [(0,(.slice xb xs.length xc)),(1,(.slice yb ys.length yc)),(12,vI (xs.length:Int)),(13,vN k)] ρ) (fun k=>xs.length-k) 0 ?_ ?_
 ·exact⟨F,bn _,F,⟨F,F,F,F,trivial⟩⟩
 rintro k ρ O ⟨rfl,hk,he,hH⟩
 obtain⟨gF,rfl⟩:=hH.elim
 clear hH
 refine ai (ad (cT F F) (ae (aM (aP F (fun hc=>?_) (fun hc=>?_)))))
 ·have pN:k<xs.length:=by omega
  have gn:k<xs.length:=by omega
  have lO:k<ys.length:=by omega
  refine aE (aM (aU (ai (ah F (aj F (ae (aM ?_)))))))
  refine fD [(0,0),(1,0),(2,0),(3,0),(4,0),(5,0),(6,0),(7,0),(8,0)] ?_
  refine au F (aN F) (au F (aN F) (au F (dT (i:=k) cX cm F F (aL hX) gn (by rw[bY];omega)) (au F (eO (vs:=xs[k].cl) bU F cm F F (br _) (aL hX) (fy (ap gn))) ?_)))
  refine au F (aN F) (au F (aN F) (au F (dT (i:=k) cX cm F F (aL hY) lO (by rw[bY];omega)) (au F (eO (vs:=ys[k].cl) bU F cm F F (br _) (aL hY) (fy (ap lO))) ?_)))
  refine au F (C7 (u:=xs[k]) (v:=ys[k]) F F) ?_
  refine cw ?_
  refine T.cond F (fun hc=>?_) (fun hc=>?_)
  ·refine aM ?_
   refine a7 (aj F (ae (aK ?_)))
   refine aS (.bool false) Tryz.results67 F ?_
   exact⟨ax Value.bool (ak (fun e=>(by simp at hc;exact hc:xs[k]≠ys[k]) (by subst e;rfl))).symm,F⟩
  refine aE (a7 (ad (dy (a:=k) (b:=1) F F (by omega)) (ah F (ae ?_))))
  refine⟨k+1,by omega,F,by omega,?_,⟨F,F,F,F,trivial⟩⟩
  rw[aH gn,aH lO,he]
  exact ax _ (ax (fun z=>[z]) (by simpa using hc))
 have xC: ¬k<xs.length:=by omega
 refine cK ?_
 refine ai (aj F (ae (aK ?_)))
 refine aS (.bool true) Tryz.results67 F ?_
 exact⟨ax Value.bool (ay (show xs=ys by rw[bw (by omega),bw (by omega)]at he;exact he)).symm,F⟩
end Go.Proofs.YtgdbfideeeegmaaGreatDoor

