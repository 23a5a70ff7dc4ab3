/- Contracts. -/
import Derived.Test.YtjcophmajgcehaaGreatDoorProg
import Derived.Shelf.Slices.Clone
import Derived.Test.YtjcophmajgcehaaGreatDoorA3
set_option linter.all false
set_option maxHeartbeats 8000000
set_option maxRecDepth 20000
namespace Go.Proofs.YtjcophmajgcehaaGreatDoor
open Go.Lx Go.RowKit _root_.Go.Proofs.Tryz
theorem Wh (base:World) [eT prog base] (p:dG) (k:DK) (h:p6 base p k) (hv:Val p.d) (hn:p.next.length≤4096) (hw:dF p.d≤64) (OO:List Lx.Item) (al one two:Nat→Bool) (iB Ap zP:Value) (hfc:iB.cells= #[iB]) (yp: ∀u,u<p.next.length→dS prog base iB [vI ((u:Nat):Int)] OO (fun v O'=>v=.bool (decide (al u=true))∧O'=OO)) (Cc: ∀u,u<p.next.length→dS prog base Ap [vI ((u:Nat):Int)] OO (fun v O'=>v=.bool (decide (one u=true))∧O'=OO)) (TZ: ∀u,u<p.next.length→dS prog base zP [vI ((u:Nat):Int)] OO (fun v O'=>v=.bool (decide (two u=true))∧O'=OO)):
  cZ prog base 53 [pV p k,iB,Ap,zP] OO (fun v O'=> ∃b l kl,v=.tuple #[lV l kl,.bool b]∧O'=lI 5 l kl::OO∧Wf p.d al one two b l):=
 (Y8 base p k h hv hn hw OO al one two iB Ap zP hfc yp Cc TZ).EP fun v O' hR=>by
  obtain⟨b,l,pb,pc,lb,lc,rfl,rfl,hf⟩:=hR
  exact⟨True,_,OO,trivial,F,b,l,⟨pb,pc,lb,lc⟩,F,F,hf⟩
theorem aeE (base:World) [eT prog base] (p:dG) (k:DK) (h:p6 base p k) (hv:cU p) (pb kb a u:Nat) (hu:u<p.next.length):
  cZ prog base 56 [vI ((u:Nat):Int),(.pointer (aD pb)),(.pointer (aD kb))] [oI pb 34 (pC p k),oI kb 3 [vI ((a:Nat):Int)]] (fun v O'=>v=.bool (decide (Am p a u=true))∧O'=[oI pb 34 (pC p k),oI kb 3 [vI ((a:Nat):Int)]]):=by
 refine aF func56 F ntmps56 F ?_
 have Mr:u<p.dX.length:=by rw[hv.pl];exact hu
 refine a8 (ai (ba ?_))
 refine e6 [(0,0),(1,0),(2,0),(3,0),(4,0),(5,0),(6,0),(7,0)] ?_
 refine am F (bY underlying34 cf) (am F (bp 0 underlying22) (am F aC (am F (b8 u underlying22 bt F F (bS h.dX) Mr (by rw[ag];exact Mr)) ?_)))
 refine am F (eA underlying3 F F h.dX (by rw[ints,bc,hv.tg hu];rfl)) (am F (bp 1 underlying3) (am F en (am F dN ?_)))
 refine cl ?_
 refine cF ?_
 refine aM (.bool (decide (((fC p u:Nat):Int)=((a:Nat):Int)))) results56 F ?_
 exact⟨av Value.bool (decide_eq_decide.2 (by simp only[Am,bo];omega)),F⟩
theorem leF (base:World) [eT prog base] (p:dG) (k:DK) (h:p6 base p k) (hv:cU p) (pb kb a u:Nat) (hu:u<p.next.length):
  cZ prog base 57 [vI ((u:Nat):Int),(.pointer (aD pb)),(.pointer (aD kb))] [oI pb 34 (pC p k),oI kb 3 [vI ((a:Nat):Int)]] (fun v O'=>v=.bool (decide (ZN p a u=true))∧O'=[oI pb 34 (pC p k),oI kb 3 [vI ((a:Nat):Int)]]):=by
 refine aF func57 F ntmps57 F ?_
 have Mr:u<p.dX.length:=by rw[hv.pl];exact hu
 refine a8 (ai (ba ?_))
 refine e6 [(0,0),(1,0),(2,0),(3,0),(4,0),(5,0),(6,0),(7,0)] ?_
 refine am F (bY underlying34 cf) (am F (bp 0 underlying22) (am F aC (am F (b8 u underlying22 bt F F (bS h.dX) Mr (by rw[ag];exact Mr)) ?_)))
 refine am F (eA underlying3 F F h.dX (by rw[ints,bc,hv.tg hu];rfl)) (am F (bp 1 underlying3) (am F vO (am F dN ?_)))
 refine cl ?_
 refine cF ?_
 refine aM (.bool (decide (((fC p u:Nat):Int)≤((a:Nat):Int)))) results57 F ?_
 exact⟨av Value.bool (decide_eq_decide.2 (by simp only[ZN,bo];omega)),F⟩
theorem aiw (base:World) [eT prog base] (p:dG) (k:DK) (h:p6 base p k) (hv:cU p) (q:dG) (hq:cU q) (pb mb kb a u:Nat) (hub:u<1000000000000) (hu:u<p.next.length*q.next.length):
  cZ prog base 54 [vI ((u:Nat):Int),(.pointer (aD pb)),(.pointer (aD mb)),(.pointer (aD kb))] [oI pb 34 (pC p k),oI mb 3 [vI ((q.next.length:Nat):Int)],oI kb 3 [vI ((a:Nat):Int)]] (fun v O'=>v=.bool (decide ((fun v:Nat=>decide (f1 p q v=a)) u=true))∧O'=[oI pb 34 (pC p k),oI mb 3 [vI ((q.next.length:Nat):Int)],oI kb 3 [vI ((a:Nat):Int)]]):=by
 refine aF func54 F ntmps54 F ?_
 obtain⟨JL,Zc⟩:=qP (n:=q.next.length) (k:=p.next.length) (c:=u) hu
 have hqp:0<q.next.length:=hq.val.n0
 have hq4:=hq.n4
 have Mr:u/q.next.length<p.dX.length:=by rw[hv.pl];exact JL
 have ZW:u%q.next.length<q.dX.length:=by rw[hq.pl];exact Zc
 have YX:u<1000000000000:=hub
 refine a8 (ai (ba ?_))
 refine e6 [(0,0),(1,0),(2,0),(3,0),(4,0),(5,0),(6,0),(7,0),(8,0),(9,0)] ?_
 refine am F (bY underlying34 cf) (am F (bp 0 underlying22) (am F aC (am F (bp 1 underlying3) ?_)))
 refine am F (Ch (a:=u) (b:=q.next.length) F F (by omega) (by omega)) (am F (b8 ((u/q.next.length)) underlying22 bt F F (bS h.dX) Mr (by rw[ag];exact Mr)) (am F (eA underlying3 F F h.dX (by rw[ints,bc,hv.tg JL];rfl)) (am F (bp 2 underlying3) ?_)))
 refine am F en (am F dN ?_)
 refine cl ?_
 refine cF ?_
 refine aM (.bool (decide (((fC p (u/q.next.length):Nat):Int)=((a:Nat):Int)))) results54 F ?_
 exact⟨av Value.bool (decide_eq_decide.2 (by show((fC p (u/q.next.length):Nat):Int)=((a:Nat):Int)↔decide (fC p (u/q.next.length)=a)=true;rw[bo];omega)),F⟩
theorem aix (base:World) [eT prog base] (p:dG) (hv:cU p) (q:dG) (k2:DK) (h2:p6 base q k2) (hq:cU q) (qb mb jb c u:Nat) (hub:u<1000000000000) (hu:u<p.next.length*q.next.length):
  cZ prog base 55 [vI ((u:Nat):Int),(.pointer (aD qb)),(.pointer (aD mb)),(.pointer (aD jb))] [oI qb 34 (pC q k2),oI mb 3 [vI ((q.next.length:Nat):Int)],oI jb 3 [vI ((c:Nat):Int)]] (fun v O'=>v=.bool (decide ((fun v:Nat=>decide (f2 q v=c)) u=true))∧O'=[oI qb 34 (pC q k2),oI mb 3 [vI ((q.next.length:Nat):Int)],oI jb 3 [vI ((c:Nat):Int)]]):=by
 refine aF func55 F ntmps55 F ?_
 obtain⟨JL,Zc⟩:=qP (n:=q.next.length) (k:=p.next.length) (c:=u) hu
 have hqp:0<q.next.length:=hq.val.n0
 have hq4:=hq.n4
 have Mr:u/q.next.length<p.dX.length:=by rw[hv.pl];exact JL
 have ZW:u%q.next.length<q.dX.length:=by rw[hq.pl];exact Zc
 have YX:u<1000000000000:=hub
 refine a8 (ai (ba ?_))
 refine e6 [(0,0),(1,0),(2,0),(3,0),(4,0),(5,0),(6,0),(7,0),(8,0),(9,0)] ?_
 refine am F (bY underlying34 cf) (am F (bp 0 underlying22) (am F aC (am F (bp 1 underlying3) ?_)))
 refine am F (kR (a:=u) (b:=q.next.length) F F (by omega)) (am F (b8 ((u%q.next.length)) underlying22 bt F F (bS h2.dX) ZW (by rw[ag];exact ZW)) (am F (eA underlying3 F F h2.dX (by rw[ints,bc,hq.tg Zc];rfl)) (am F (bp 2 underlying3) ?_)))
 refine am F en (am F dN ?_)
 refine cl ?_
 refine cF ?_
 refine aM (.bool (decide (((fC q (u%q.next.length):Nat):Int)=((c:Nat):Int)))) results55 F ?_
 exact⟨av Value.bool (decide_eq_decide.2 (by show((fC q (u%q.next.length):Nat):Int)=((c:Nat):Int)↔decide (fC q (u%q.next.length)=c)=true;rw[bo];omega)),F⟩
theorem aeG (base:World) [eT prog base] (p:dG) (k:DK) (h:p6 base p k) (hv:cU p) (q:dG) (k2:DK) (h2:p6 base q k2) (hq:cU q) (pb mb kb qb jb a c u:Nat) (hub:u<1000000000000) (hu:u<p.next.length*q.next.length):
  cZ prog base 52 [vI ((u:Nat):Int),(.pointer (aD pb)),(.pointer (aD mb)),(.pointer (aD kb)),(.pointer (aD qb)),(.pointer (aD jb))] [oI pb 34 (pC p k),oI mb 3 [vI ((q.next.length:Nat):Int)],oI kb 3 [vI ((a:Nat):Int)],oI qb 34 (pC q k2),oI jb 3 [vI ((c:Nat):Int)]] (fun v O'=>v=.bool (decide (Tx p q a c u=true))∧O'=[oI pb 34 (pC p k),oI mb 3 [vI ((q.next.length:Nat):Int)],oI kb 3 [vI ((a:Nat):Int)],oI qb 34 (pC q k2),oI jb 3 [vI ((c:Nat):Int)]]):=by
 refine aF func52 F ntmps52 F ?_
 obtain⟨JL,Zc⟩:=qP (n:=q.next.length) (k:=p.next.length) (c:=u) hu
 have hqp:0<q.next.length:=hq.val.n0
 have hq4:=hq.n4
 have Mr:u/q.next.length<p.dX.length:=by rw[hv.pl];exact JL
 have ZW:u%q.next.length<q.dX.length:=by rw[hq.pl];exact Zc
 have YX:u<1000000000000:=hub
 refine a8 (ai (ba ?_))
 refine e6 [(0,0),(1,0),(2,0),(3,0),(4,0),(5,0),(6,0),(7,0),(8,0),(9,0),(10,0),(11,0),(12,0),(13,0),(14,0),(15,0),(16,0),(17,0),(18,0),(19,0),(20,0)] ?_
 refine am F (bY underlying34 cf) (am F (bp 0 underlying22) (am F aC (am F (bp 1 underlying3) ?_)))
 refine am F (Ch (a:=u) (b:=q.next.length) F F (by omega) (by omega)) (am F (b8 ((u/q.next.length)) underlying22 bt F F (bS h.dX) Mr (by rw[ag];exact Mr)) (am F (eA underlying3 F F h.dX (by rw[ints,bc,hv.tg JL];rfl)) (am F (bp 2 underlying3) ?_)))
 refine am F vO ?_
 by_cases ZG:((fC p (u/q.next.length):Nat):Int)≤((a:Nat):Int)
 ·refine am F (cm aC ZG) ?_
  refine bg F F F (bY underlying34 cf) ?_
  refine bg F F F (bp 3 underlying22) ?_
  refine bg F F F aC ?_
  refine bg F F F (bp 1 underlying3) ?_
  refine bg F F F (kR (a:=u) (b:=q.next.length) F F (by omega)) ?_
  refine bg F F F (b8 ((u%q.next.length)) underlying22 bt F F (bS h2.dX) ZW (by rw[ag];exact ZW)) ?_
  refine bg F F F (eA underlying3 F F h2.dX (by rw[ints,bc,hq.tg Zc];rfl)) ?_
  refine bg F F F (bp 4 underlying3) ?_
  refine bg F F F vO ?_
  refine am F bR (am F dN ?_)
  refine cl ?_
  refine cF ?_
  refine aM (.bool (decide (((fC q (u%q.next.length):Nat):Int)≤((c:Nat):Int)))) results52 F ?_
  exact⟨av Value.bool (decide_eq_decide.2 (by show((fC q (u%q.next.length):Nat):Int)≤((c:Nat):Int)↔(decide (fC p (u/q.next.length)≤a)&&decide (fC q (u%q.next.length)≤c))=true;rw[aY,bo,bo];omega)),F⟩
 refine am F (cD aC ZG) (aT F F F (aT F F F (aT F F F (aT F F F (aT F F F (aT F F F (aT F F F ?_)))))))
 refine aT F F F (aT F F F (am F ca (am F dN ?_)))
 refine cl ?_
 refine cF ?_
 refine aM (.bool false) results52 F ?_
 exact⟨av Value.bool (bT (fun g=>by have g2:(decide (fC p (u/q.next.length)≤a)&&decide (fC q (u%q.next.length)≤c))=true:=g;rw[aY,bo]at g2;omega)).symm,F⟩
theorem Zd (w:World) [eT prog w] (p:dG) (k:DK) (h:p6 w p k) (hv:cU p) (q:dG) (k2:DK) (h2:p6 w q k2) (hq:cU q) (GU:p.vars=q.vars) (J7:p.next.length*q.next.length≤4096):
  cR prog 50 [pV p k,pV q k2] w fun v N=> ∃nb nc qs,v=.agg (ri (gi p q) nb nc none 0).toArray∧N=[ak nb nc 22 1 (bW qs),ak none 0 3 1 (ints [])]++bQ 3 qs∧nums qs=gT p.d q.d:=by
 refine aF func50 F ntmps50 F ?_
 have qw:=h.rows.1
 have aiy:=h2.rows.1
 have hw6:=hv.wx
 have hn4:=hv.n4
 have hm4:=hq.n4
 have mK:=vT hv.st hq.st
 have hLq:dF q.d=dF p.d:=by show 2^q.vars.toNat=2^p.vars.toNat;rw[GU]
 refine a8 (au (e5 ((pC p k)) (fun z1=>?_)))
 refine au (e5 ((pC q k2)) (fun z2=>?_))
 refine au (bO cQ (fun z3=>?_))
 refine TO.nl (aB (bY underlying34 dQ) (ad (bp 1 underlying24) (ad (bV underlying24) (ai (aB (bY underlying34 bt) (ad (bp 2 underlying3) (ad (bY underlying34 bt) (ad (bH (bp 2 underlying3) (v':=vI ((p.start.toNat:Nat):Int)) (av (Value.int .i64) (bq hv.val.s0).symm)) (az (jx (a:=p.start.toNat) (b:=q.next.length) F F (by omega)) (ad (bY underlying34 bt) (ad (bH (bp 1 underlying3) (v':=vI ((q.start.toNat:Nat):Int)) (av (Value.int .i64) (bq hq.val.s0).symm)) (ad (bK (b:=q.start.toNat) ((p.start.toNat*q.next.length)) F F (by omega)) (ad (dy [(vI p.vars),vI (((p.start.toNat*q.next.length)+q.start.toNat:Nat):Int),nS,nS] nz cQ (by kernel_rfl)) (au (bO cQ (fun z4=>?_))))))))))))))))
 refine au (cE [(vI p.vars),vI (((p.start.toNat*q.next.length)+q.start.toNat:Nat):Int),nS,nS] 0 cQ ?_)
 refine bJ (ad (bY underlying34 dQ) (ad (bp 3 underlying24) (ad (bV underlying24) (aS (aw (T.dH 22 1 ?_))))))
 refine cS (fun(s:Nat) ρ O=> ∃(nb:Option Addr) (nc:Nat) (qs:List Rec),O=([ak nb nc 22 1 (bW qs),oI z4 34 [(vI p.vars),vI (((p.start.toNat*q.next.length)+q.start.toNat:Nat):Int),(.slice nb qs.length nc),nS],oI z3 34 [(vI 0),(vI 0),nS,nS],oI z2 34 (pC q k2),oI z1 34 (pC p k)]++(bQ 3 qs))∧s≤p.next.length∧nums qs=(gT p.d q.d).take (s*q.next.length)∧cL [(0,(pV p k)),(1,(pV q k2)),(2,(.pointer (aD z1))),(3,(.pointer (aD z2))),(4,(.pointer (aD z3))),(5,vI (q.next.length:Int)),(6,(.pointer (aD z4))),(27,(.slice k.nb p.next.length k.nc)),(28,vI (p.next.length:Int)),(29,vI ((s:Nat):Int))] ρ) (fun s=>p.next.length-s) 0 ?_ ?_
 ·exact⟨none,0,[],F,aG _,by simp,(.of F)⟩
 rintro s ρ O ⟨nb,nc,qs,rfl,hs,pO,hH⟩
 obtain⟨fy,rfl⟩:=hH.elim
 clear hH
 refine aB cH (TO.ns (aH F (fun hc=>?_) (fun hc=>?_)))
 ·have ab5:s<p.next.length:=by omega
  have kB:s<p.next.length:=by omega
  obtain⟨v1,c1,g1,s1⟩:=h.rows.get kB
  have uf:p.next[s].length=dF p.d:=hv.val.len _ (ap kB)
  refine aE (ba (aw (aB (b8 s underlying24 cf F F (bS h.outer) kB (qw▸kB)) (ad (eA underlying22 F F h.outer g1) (ai (aB (bY underlying34 dQ) (ad (bp 3 underlying24) (ad (bV underlying24) (aS (aw ?_))))))))))
  refine cS (fun(u:Nat) ρ O=> ∃(nb:Option Addr) (nc:Nat) (qs:List Rec),O=([ak nb nc 22 1 (bW qs),oI z4 34 [(vI p.vars),vI (((p.start.toNat*q.next.length)+q.start.toNat:Nat):Int),(.slice nb qs.length nc),nS],oI z3 34 [(vI 0),(vI 0),nS,nS],oI z2 34 (pC q k2),oI z1 34 (pC p k)]++(bQ 3 qs))∧u≤q.next.length∧nums qs=(gT p.d q.d).take (s*q.next.length+u)∧cL [(0,(pV p k)),(1,(pV q k2)),(2,(.pointer (aD z1))),(3,(.pointer (aD z2))),(4,(.pointer (aD z3))),(5,vI (q.next.length:Int)),(6,(.pointer (aD z4))),(8,(.slice v1 p.next[s].length c1)),(27,(.slice k.nb p.next.length k.nc)),(28,vI (p.next.length:Int)),(29,vI ((s:Nat):Int)),(34,(.slice k2.nb q.next.length k2.nc)),(35,vI (q.next.length:Int)),(36,vI ((u:Nat):Int))] ρ) (fun u=>q.next.length-u) 0 ?_ ?_
  ·exact⟨nb,nc,qs,F,aG _,pO,(.of F)⟩
  rintro u ρ O ⟨nb,nc,qs,rfl,hu,pO,hH⟩
  obtain⟨fy,rfl⟩:=hH.elim
  clear hH
  refine aB cH (TO.ns (aH F (fun hc=>?_) (fun hc=>?_)))
  ·have AB:u<q.next.length:=by omega
   have tC:u<q.next.length:=by omega
   obtain⟨v2,c2,g2,s2⟩:=h2.rows.get tC
   have Mo:q.next[u].length=dF p.d:=(hq.val.len _ (ap tC)).trans hLq
   have hsu:=vT kB tC
   have XX:(gT p.d q.d).take (s*q.next.length+(u+1))=(gT p.d q.d).take (s*q.next.length+u)++[iA p.d q.d s u]:=Gl (a:=p.d) (b:=q.d) kB tC
   refine aE (ba (aw (aB (b8 u underlying24 cf F F (bS h2.outer) tC (aiy▸tC)) (ad (eA underlying22 F F h2.outer g2) (ai (bP (bV underlying22) (au (cq (p.next[s].length) underlying22 bt F F (by omega) (by omega) (fun z5=>?_)))))))))
   refine bh (bJ (az (bV underlying22) (aS (aw ?_))))
   have tD:qs.length≤4096:=by
    have h1:=av List.length pO
    rw[ag,bC,pF]at h1
    have h3:p.d.next.length=p.next.length:=rfl
    have h4:q.d.next.length=q.next.length:=rfl
    rw[h3,h4]at h1;omega
   refine cS (fun(x:Nat) ρ O=>O=([aU z5 p.next[s].length 3 1 (ints (r7 (iA p.d q.d s u) x)),ak nb nc 22 1 (bW qs),oI z4 34 [(vI p.vars),vI (((p.start.toNat*q.next.length)+q.start.toNat:Nat):Int),(.slice nb qs.length nc),nS],oI z3 34 [(vI 0),(vI 0),nS,nS],oI z2 34 (pC q k2),oI z1 34 (pC p k)]++(bQ 3 qs))∧x≤dF p.d∧cL [(0,(pV p k)),(1,(pV q k2)),(2,(.pointer (aD z1))),(3,(.pointer (aD z2))),(4,(.pointer (aD z3))),(5,vI (q.next.length:Int)),(6,(.pointer (aD z4))),(8,(.slice v1 p.next[s].length c1)),(10,(.slice v2 q.next[u].length c2)),(11,(.slice (aD z5) p.next[s].length p.next[s].length)),(27,(.slice k.nb p.next.length k.nc)),(28,vI (p.next.length:Int)),(29,vI ((s:Nat):Int)),(34,(.slice k2.nb q.next.length k2.nc)),(35,vI (q.next.length:Int)),(36,vI ((u:Nat):Int)),(44,vI (p.next[s].length:Int)),(45,vI ((x:Nat):Int))] ρ) (fun x=>dF p.d-x) 0 ?_ ?_
   ·exact⟨by rw[LX,oU,uf];simp,aG _,(.of F)⟩
   rintro x ρ O ⟨rfl,hx,hH⟩
   obtain⟨fy,rfl⟩:=hH.elim
   clear hH
   have nN:=Qs (iA p.d q.d s u) (x:=x) (by rw[oU];exact hx)
   refine aB cH (TO.ns (aH F (fun hc=>?_) (fun hc=>?_)))
   ·have akw:x<p.next[s].length:=by omega
    have jm:x<dF p.d:=by omega
    have hxq:x<dF q.d:=by omega
    obtain⟨ht1,ru,e1,_⟩:=hv.to kB jm
    obtain⟨Ye,Kr,e2,_⟩:=hq.to tC hxq
    have wS:=vT ht1 Ye
    have xC:=oU p.d q.d s u
    have aiz:=M6 (a:=p.d) (b:=q.d) (s:=s) (t:=u) jm
    refine aE (ba (aw (bI (ai ?_))))
    refine e6 [(0,0),(1,0),(2,0),(3,0),(4,0),(5,0),(6,0),(7,0),(8,0),(9,0),(10,0),(11,0),(12,0),(13,0),(14,2)] ?_
    refine am F aC (am F aC (am F aC (am F aC (am F (b8 x underlying22 bt F F (bS s1) ru (by rw[ag];exact ru)) (am F (eA underlying3 F F s1 e1) (am F aC (am F (jx (a:=(di p.d s x)) (b:=q.next.length) F F (by omega)) (am F aC (am F aC (am F (b8 x underlying22 bt F F (bS s2) Kr (by rw[ag];exact Kr)) (am F (eA underlying3 F F s2 e2) (am F (bK (b:=(di q.d u x)) (((di p.d s x)*q.next.length)) F F (by omega)) (am F (b8 x underlying22 bt F F (bU 0) ru (by rw[ag];omega)) ?_)))))))))))))
    refine cG F F (gw (v:=vI ((((di p.d s x)*q.next.length)+(di q.d u x):Nat):Int)) (vs:=[(vI ((((di p.d s x)*q.next.length)+(di q.d u x):Nat):Int))]) (cs:=ints (r7 (iA p.d q.d s u) x)) x 0 bt F F F F F (by simp) F (by first|(simp;omega)|(simp_all;omega)) ?_)
    refine eM (O':=([aU z5 p.next[s].length 3 1 (ints (r7 (iA p.d q.d s u) (x+1))),ak nb nc 22 1 (bW qs),oI z4 34 [(vI p.vars),vI (((p.start.toNat*q.next.length)+q.start.toNat:Nat):Int),(.slice nb qs.length nc),nS],oI z3 34 [(vI 0),(vI 0),nS,nS],oI z2 34 (pC q k2),oI z1 34 (pC p k)]++(bQ 3 qs))) (by rw[show dq (ints (r7 (iA p.d q.d s u) x)) x [(vI ((((di p.d s x)*q.next.length)+(di q.d u x):Nat):Int))]=ints (r7 (iA p.d q.d s u) (x+1))from(by rw[←Qt (v:=((di p.d s x*q.next.length+di q.d u x:Nat):Int)) (by omega) aiz];simp[dq])];exact bj (ay _)) ?_
    refine cl ?_
    refine aJ (ad (bK (b:=1) x F F (by omega)) (aS ?_))
    exact⟨x+1,by omega,([aU z5 p.next[s].length 3 1 (ints (r7 (iA p.d q.d s u) (x+1))),ak nb nc 22 1 (bW qs),oI z4 34 [(vI p.vars),vI (((p.start.toNat*q.next.length)+q.start.toNat:Nat):Int),(.slice nb qs.length nc),nS],oI z3 34 [(vI 0),(vI 0),nS,nS],oI z2 34 (pC q k2),oI z1 34 (pC p k)]++(bQ 3 qs)),(by exact Sub.rf),F,by omega,(.of F)⟩
   have akx: ¬x<p.next[s].length:=by omega
   refine bA ?_
   refine aJ (ad (bY underlying34 dQ) (ad (bp 2 underlying24) (aQ (au (dv (v:=(.slice (aD z5) p.next[s].length p.next[s].length)) underlying24 cf F F F (fun z6=>?_))))))
   refine au (dp 2 underlying24 underlying24 cf F F F F (by simp) (by decide) (Src.row (j:=0) F (by simp)) (by simp[fL]) (by omega) (by decide) (by decide) (fun z7 z_=>?_))
   refine ad (bY underlying34 dQ) (au (cE [(.slice z7 (qs.length+1) z_)] 3 dQ ?_))
   refine TO.nl ?_
   have W_:r7 (iA p.d q.d s u) x=(iA p.d q.d s u):=by
    have h9:=Qr (iA p.d q.d s u)
    rw[oU]at h9
    rw[show x=dF p.d by omega];exact h9
   refine cV (O':=[aU z6 1 22 1 [(.slice (aD z5) p.next[s].length p.next[s].length)],Rec.jS 3 ⟨(aD z5),p.next[s].length,(iA p.d q.d s u)⟩,ak z7 z_ 22 1 ((bW qs)++[(.slice (aD z5) p.next[s].length p.next[s].length)]),oI z4 34 [(vI p.vars),vI (((p.start.toNat*q.next.length)+q.start.toNat:Nat):Int),(.slice z7 (qs.length+1) z_),nS],oI z3 34 [(vI 0),(vI 0),nS,nS],oI z2 34 (pC q k2),oI z1 34 (pC p k)]++(bQ 3 qs)) (by rw[W_];exact Sub.rf) ?_
   refine cV (O':=[ak z7 z_ 22 1 (bW (qs++[⟨(aD z5),p.next[s].length,(iA p.d q.d s u)⟩])),oI z4 34 [(vI p.vars),vI (((p.start.toNat*q.next.length)+q.start.toNat:Nat):Int),(.slice z7 (qs.length+1) z_),nS],oI z3 34 [(vI 0),(vI 0),nS,nS],oI z2 34 (pC q k2),oI z1 34 (pC p k)]++(bQ 3 (qs++[⟨(aD z5),p.next[s].length,(iA p.d q.d s u)⟩]))) (by rw[show bW (qs++[(⟨(aD z5),p.next[s].length,(iA p.d q.d s u)⟩:Rec)])=bW qs++[Value.slice (aD z5) p.next[s].length p.next[s].length] by simp[Rec.val,oU,uf]];exact fq [aU z6 1 22 1 [(.slice (aD z5) p.next[s].length p.next[s].length)]]) ?_
   refine aJ (ad (bK (b:=1) u F F (by omega)) (aS ?_))
   exact⟨u+1,by omega,([ak z7 z_ 22 1 (bW (qs++[⟨(aD z5),p.next[s].length,(iA p.d q.d s u)⟩])),oI z4 34 [(vI p.vars),vI (((p.start.toNat*q.next.length)+q.start.toNat:Nat):Int),(.slice z7 (qs.length+1) z_),nS],oI z3 34 [(vI 0),(vI 0),nS,nS],oI z2 34 (pC q k2),oI z1 34 (pC p k)]++(bQ 3 (qs++[⟨(aD z5),p.next[s].length,(iA p.d q.d s u)⟩]))),(by exact Sub.rf),z7,z_,qs++[⟨(aD z5),p.next[s].length,(iA p.d q.d s u)⟩],by rw[aI];rfl,by omega,by rw[XX,←pO];exact aL,(.of F)⟩
  have IB: ¬u<q.next.length:=by omega
  refine bA ?_
  refine aJ (ad (bK (b:=1) s F F (by omega)) (aS ?_))
  have hue:u=q.next.length:=by omega
  exact⟨s+1,by omega,([ak nb nc 22 1 (bW qs),oI z4 34 [(vI p.vars),vI (((p.start.toNat*q.next.length)+q.start.toNat:Nat):Int),(.slice nb qs.length nc),nS],oI z3 34 [(vI 0),(vI 0),nS,nS],oI z2 34 (pC q k2),oI z1 34 (pC p k)]++(bQ 3 qs)),(by exact Sub.rf),nb,nc,qs,F,by omega,by rw[pO,hue,Nat.succ_mul],(.of F)⟩
 have ab7: ¬s<p.next.length:=by omega
 refine bA ?_
 refine ba (T.dH 3 1 ?_)
 refine aJ (ad (eg 2 underlying34 cQ) (au (cE [(vI p.vars),vI (((p.start.toNat*q.next.length)+q.start.toNat:Nat):Int),(.slice nb qs.length nc),nS] 3 cQ ?_)))
 refine l_ ?_
 refine iX (i:=3) results50 underlying34 F cQ F F F ?_
 have JZ:s=p.next.length:=by omega
 have hnq:nums qs=gT p.d q.d:=by rw[pO,JZ,aN (by rw[pF];exact aV _)]
 have Gb:qs.length=(gT p.d q.d).length:=by rw[←hnq,ag]
 exact⟨[ak nb nc 22 1 (bW qs),ak none 0 3 1 (ints [])]++bQ 3 qs,(by exact Sub.dm [ak none 0 3 1 []] _ (.k (.d (.d (.d (.d .rf)))))),nb,nc,qs,by show _=Value.agg #[vI p.vars,vI ((p.start.toNat*q.next.length+q.start.toNat:Nat):Int),.slice nb (gT p.d q.d).length nc,nS];rw[←Gb];rfl,F,hnq⟩
theorem Gs (w:World) [eT prog w] (p:dG) (k:DK) (h:p6 w p k) (hv:cU p) (q:dG) (k2:DK) (h2:p6 w q k2) (hq:cU q) (GU:p.vars=q.vars) (J7:p.next.length*q.next.length≤4096):
  cR prog 50 [pV p k,pV q k2] w fun v N=> ∃k9:DK,v=pV (gi p q) k9∧N=[pI 22 3 (gi p q) k9]:=
 (Zd w p k h hv q k2 h2 hq GU J7).EP fun v O' hR=>by
  obtain⟨nb,nc,qs,rfl,rfl,pS⟩:=hR
  exact⟨nums qs=(gi p q).next,_,[],pS,(bZ _).symm,⟨nb,nc,none,0,qs⟩,F,F⟩
theorem Ze (w:World) [eT prog w] (p:dG) (k:DK) (h:p6 w p k) (hB:nT p):
  cR prog 20 [pV p k] w fun v N=> ∃(l:La) (kl:LK) (e:Nat),v=.tuple #[lV l kl,vN e]∧N=[lI 5 l kl]∧WiR p l e:=by
 refine aF func20 F ntmps20 F ?_
 have ZO:=hB.n;have ZP:=hB.f
 refine a8 (au (e5 ((pC p k)) (fun dk=>?_)))
 refine au (bO dD (fun dI=>?_))
 refine bh (bJ (ad (eg 1 underlying34 cQ) (TO.lc wh (aK fun w1 hI=>(haveI:=Inv.tab (P:=prog) hI;mj w1 p k (hI.wT h) hB)) ?_)))
 rintro vr O' ⟨N,rfl,rfl,rfl⟩
 refine ai (bP gB (TO.nl (aH F (fun hc=>?_) (fun hc=>?_))))
 ·have F8:b7 p≠0:=by omega
  refine ba ?_
  refine pg 5 ?_
  refine aJ (ad (dy _ mF dD F) (aQ (au (cE [nS,nS] 1 dD ?_))))
  refine bm ?_
  refine dT (vI (b7 p:Int)) (i:=1) results20 underlying29 F dD F F F F ?_
  exact⟨[lI 5 jt JS],(by exact Sub.k .z),jt,JS,b7 p,F,F,.inl ⟨by omega,F,F⟩⟩
 have adT: ¬b7 p≠0:=by omega
 have wY:b7 p=0:=by omega
 have hv:cU p:=de.1 wY
 refine aE (ba (a8 (au (bO bt (fun fj=>?_)))))
 refine au (cE [(vI 0)] 0 bt ?_)
 refine TO.nl (aw ?_)
 let dM:Lx.Item:=oI dI 29 [nS,nS]
 let eE:Lx.Item:=oI dk 34 (pC p k)
 refine cS (fun(a:Nat) ρ O=> ∃(kb:Nat),O=[oI kb 3 [vN a],dM,eE]∧a%2=0∧a≤18∧(∀k9,k9<a→k9%2=0→ ¬F5 p.d (ZN p k9) (Am p k9) (Am p k9))∧cL [(0,(pV p k)),(1,(.pointer (aD dk))),(2,(.pointer (aD dI))),(4,vI (b7 p:Int)),(5,(.pointer (aD kb)))] ρ) (fun a=>18-a) 0 ?_ ?_
 ·exact⟨fj,F,F,by omega,(fun k9 h9=>absurd h9 (by omega)),(.of F)⟩
 rintro a ρ O ⟨kb,rfl,hev,ant,kK,hH⟩
 obtain⟨fy,rfl⟩:=hH.elim
 clear hH
 refine ba (aB (bp 0 underlying3) (bF vO (aH F (fun hc=>?_) (fun hc=>?_))))
 ·have IF:a≤16:=by omega
  let dC:List Value:=[(.pointer (aD dk)),(.pointer (aD kb))]
  let fo:Lx.Item:=oI kb 3 [vN a]
  refine aE (ba (aw (aB (dZ) (ai (aB (eg 2 underlying34 cQ) (ad (dZ) (dr (TO.lc VK (aK fun w1 hI=>(haveI:=Inv.tab (P:=prog) hI;Wh w1 p k (hI.wT h) hv.val hv.n4 hv.wx [] (ZN p a) (Am p a) (Am p a) (.func (.func 57) #[] dC.toArray) (.func (.func 56) #[] dC.toArray) (.func (.func 56) #[] dC.toArray) F (fun u hu=>iQ (B:=[eE,fo]) (hI.mA (by exact Sub.dm [fo,dM] _ (.k .z))) (fh (fh rH.nil)) (b_ (first:=[]) (args:=[vN u]) (fU:=dC) adi (leF w p k h hv dk kb a u hu))) (fun u hu=>iQ (B:=[eE,fo]) (hI.mA (by exact Sub.dm [fo,dM] _ (.k .z))) (fh (fh rH.nil)) (b_ (first:=[]) (args:=[vN u]) (fU:=dC) VL (aeE w p k h hv dk kb a u hu))) (fun u hu=>iQ (B:=[eE,fo]) (hI.mA (by exact Sub.dm [fo,dM] _ (.k .z))) (fh (fh rH.nil)) (b_ (first:=[]) (args:=[vN u]) (fU:=dC) VL (aeE w p k h hv dk kb a u hu))))) ?_))))))))
  rintro vr O' ⟨N,rfl,b9,l9,Ds,rfl,rfl,XH⟩
  refine az (bX _) (ad (bX _) (au (bO dD (fun fA=>?_))))
  refine au (cE ((lC l9 Ds)) 0 dD ?_)
  refine ai (bI (TO.nl (aH (p:=b9=true) (av Value.bool (by cases b9<;>rfl)) (fun hc=>?_) (fun hc=>?_))))
  ·have Hi:=XH.UE hc
   refine aB (eg 0 underlying29 dD) (au (cE ((lC l9 Ds)) 3 dD ?_))
   refine bm ?_
   refine dT (vI 0) (i:=3) results20 underlying29 F dD F F F F ?_
   exact⟨[lI 5 l9 Ds],(by exact Sub.d (.k .z)),l9,Ds,0,F,F,.inr (.inl ⟨wY,F,a,hev,by omega,Hi⟩)⟩
  have ZX:=XH.no hc
  refine aE (ba (aB (bp 2 underlying3) (TO.nl (aJ (au (bO bt (fun fK=>?_)))))))
  refine au (cE [(vN a)] 0 bt ?_)
  refine TO.nl (aJ (ad (bp 0 underlying3) (ad (bK (b:=2) a F F (by omega)) (au (cE [(vN (a+2))] 0 bt ?_)))))
  refine TO.nl ?_
  exact⟨a+2,by omega,[oI fK 3 [(vN (a+2))],dM,eE],(by exact Sub.k (.d (.d (.d (.k (.k .z)))))),fK,F,by omega,by omega,(fun k9 h9 e9=>if fM:k9<a then kK k9 fM e9 else by obtain rfl:k9=a:=(by omega);exact ZX.2),(.of F)⟩
 have IG: ¬a≤16:=by omega
 refine bA ?_
 refine ba ?_
 refine pg 5 ?_
 refine aJ (ad (dy _ mF dD F) (au (cE [nS,nS] 2 dD ?_)))
 refine bm ?_
 refine dT (vI 9) (i:=2) results20 underlying29 F dD F F F F ?_
 exact⟨[lI 5 jt JS],(by exact Sub.k .z),jt,JS,9,F,F,.inr (.inr ⟨wY,F,F,fun⟨k9,h1,h2,h3⟩=>kK k9 (by omega) h1 h3⟩)⟩
theorem rV (w:World) [eT prog w] (p:dG) (k:DK) (h:p6 w p k) (hv:cU p) (i:Nat):
  cR prog 51 [.slice k.fb p.dX.length k.fc,vN i] w fun r N=>r=.bool (decide (((i:Nat):Int)∈p.dX))∧N=[]:=by
 have h9:=BJ w k.fb k.fc (p.dX.map Int.toNat) (by rw[LZ hv];exact h.dX) (by rw[ag,hv.pl];have:=hv.n4;omega) i
 rw[ag,show decide (i∈p.dX.map Int.toNat)=decide (((i:Nat):Int)∈p.dX)from decide_eq_decide.2 (Qy hv i)]at h9
 exact h9
theorem Zf (w:World) [eT prog w] (p:dG) (k:DK) (h:p6 w p k) (q:dG) (k2:DK) (h2:p6 w q k2) (hB:nT p) (hB2:nT q) (sj:DM p q=0→p.next.length*q.next.length≤4096):
  cR prog 19 [pV p k,pV q k2] w fun v N=> ∃(l:La) (kl:LK) (b:Bool) (e:Nat),v=.tuple #[lV l kl,.bool b,vN e]∧N=[lI 5 l kl]∧DiR p q l b e:=by
 refine aF func19 F ntmps19 F ?_
 have ZO:=hB.n;have ZP:=hB.f
 refine a8 (au (e5 ((pC p k)) (fun dk=>?_)))
 refine au (e5 ((pC q k2)) (fun dI=>?_))
 refine au (bO dD (fun fj=>?_))
 refine bh (bh (bJ (ad (eg 2 underlying34 cQ) (ad (eg 1 underlying34 cQ) (au (cW (m:=2) (parts:=[(0,_),(1,_)]) (cs:=[(vI p.vars),(vI p.start),(.slice k.nb p.next.length k.nc),(.slice k.fb p.dX.length k.fc),(vI q.vars),(vI q.start),(.slice k2.nb q.next.length k2.nc),(.slice k2.fb q.dX.length k2.fc)]) underlying113 cQ (by decide) (by kernel_rfl) F (fun fA=>?_)))))))
 refine ad (bV underlying113) (aS (aw ?_))
 refine jc 3 (T.round ?_)
 refine aB (dE cH (b':=true) F) (TO.ns ?_)
 refine cJ ?_
 refine aE (ba (aw (aB (fO (i:=0) underlying113 cQ F F (bU 0) (by first|assumption|omega|(simp;omega)|simp_all) (by first|omega|(simp;done)|(simp;omega)|(simp_all;done)|(simp_all;omega))) (ad (mM ((pC p k)) underlying34 F cQ F F (eo _) (bU 0) (fun j hj=>by match j,hj with|0,_=>rfl|1,_=>rfl|2,_=>rfl|3,_=>rfl)) (au (bO cQ (fun fK=>?_)))))))
 refine au (cE ((pC p k)) 0 cQ ?_)
 refine TO.nl (aB (eg 0 underlying34 cQ) (TO.lc wh (aK fun w1 hI=>(haveI:=Inv.tab (P:=prog) hI;mj w1 p k (hI.wT h) hB)) ?_))
 rintro vr O' ⟨N,rfl,rfl,rfl⟩
 refine ai (bP gB (TO.nl (aH F (fun hc=>?_) (fun hc=>?_))))
 ·have Un:b7 p≠0:=by omega
  have BW:DM p q=b7 p:=by unfold DM;rw[aA (by omega)]
  have hdz:DM p q≠0:=by omega
  refine ba ?_
  refine pg 5 ?_
  refine aJ (ad (eg 3 underlying29 dD) (aQ (au (cE [nS,nS] 3 dD ?_))))
  refine bh (bm ?_)
  refine lh (i:=3) (.bool false) (vI (b7 p:Int)) results19 underlying29 F dD F F F F F ?_
  exact⟨[lI 5 jt JS],(by exact Sub.k .z),jt,JS,false,b7 p,F,F,.inl ⟨hdz,BW.symm,F,F⟩⟩
 have Uo: ¬b7 p≠0:=by omega
 have he1:b7 p=0:=by omega
 refine aE (aJ (ad (bH (jJ F F (by omega)) (v':=vI 1) F) (aS ?_)))
 let dC:Lx.Item:=aU fA 2 34 4 [(vI p.vars),(vI p.start),(.slice k.nb p.next.length k.nc),(.slice k.fb p.dX.length k.fc),(vI q.vars),(vI q.start),(.slice k2.nb q.next.length k2.nc),(.slice k2.fb q.dX.length k2.fc)]
 let fo:Lx.Item:=oI dI 34 (pC q k2)
 let gC:Lx.Item:=oI fK 34 (pC p k)
 let gS:Lx.Item:=oI dk 34 (pC p k)
 let jR:Value:=(.pointer (aD dk))
 let jT:Value:=(.pointer (aD dI))
 let gG:Lx.Item:=oI fj 29 [nS,nS]
 let gn:Value:=(.pointer (aD fj))
 refine kI [gC,dC,gG,fo,gS] [(0,(pV p k)),(1,(pV q k2)),(2,jR),(3,jT),(4,gn),(5,.bool false),(6,vI 0),(8,(.pointer (aD fK))),(9,vI (b7 p:Int)),(15,(pV p k)),(16,(pV q k2)),(17,(.slice (aD fA) 2 2)),(18,vI 2),(19,vI 1)] F (.of F) (fun fy=>?_)
 refine T.round ?_
 refine aB (dE cH (b':=true) F) (TO.ns ?_)
 refine cJ ?_
 refine aE (ba (aw (aB (fO (i:=1) underlying113 cQ F F (bU 1) (by first|assumption|omega|(simp;omega)|simp_all) (by first|omega|(simp;done)|(simp;omega)|(simp_all;done)|(simp_all;omega))) (ad (mM ((pC q k2)) underlying34 F cQ F F (eo _) (bU 1) (fun j hj=>by match j,hj with|0,_=>rfl|1,_=>rfl|2,_=>rfl|3,_=>rfl)) (au (bO cQ (fun ig=>?_)))))))
 refine au (cE ((pC q k2)) 0 cQ ?_)
 refine TO.nl (aB (eg 0 underlying34 cQ) (TO.lc wh (aK fun w1 hI=>(haveI:=Inv.tab (P:=prog) hI;mj w1 q k2 (hI.wT h2) hB2)) ?_))
 rintro vr O' ⟨N,rfl,rfl,rfl⟩
 refine ai (bP gB (TO.nl (aH F (fun hc=>?_) (fun hc=>?_))))
 ·have Un:b7 q≠0:=by omega
  have BW:DM p q=b7 q:=by unfold DM;rw[ar (by omega),aA (by omega)]
  have hdz:DM p q≠0:=by omega
  refine ba ?_
  refine pg 5 ?_
  refine aJ (ad (eg 4 underlying29 dD) (aQ (au (cE [nS,nS] 4 dD ?_))))
  refine bh (bm ?_)
  refine lh (i:=4) (.bool false) (vI (b7 q:Int)) results19 underlying29 F dD F F F F F ?_
  exact⟨[lI 5 jt JS],(by exact Sub.k .z),jt,JS,false,b7 q,F,F,.inl ⟨hdz,BW.symm,F,F⟩⟩
 have Uo: ¬b7 q≠0:=by omega
 have he2:b7 q=0:=by omega
 refine aE (aJ (ad (bH (jJ F F (by omega)) (v':=vI 2) F) (aS ?_)))
 let gk:Lx.Item:=oI ig 34 (pC q k2)
 let oN:Value:=(.pointer (aD ig))
 refine kI [gk,gC,dC,gG,fo,gS] [(0,(pV p k)),(1,(pV q k2)),(2,jR),(3,jT),(4,gn),(5,.bool false),(6,vI 0),(8,oN),(9,vI (b7 q:Int)),(15,(pV p k)),(16,(pV q k2)),(17,(.slice (aD fA) 2 2)),(18,vI 2),(19,vI 2)] F (.of F) (fun fy=>?_)
 refine T.round ?_
 refine aB (dE cH (b':=false) F) (TO.ns (cK ?_))
 refine bA ?_
 refine ba (aB (bY underlying34 bt) (ad (bp 5 underlying3) (ad (bY underlying34 bt) (ad (bp 4 underlying3) (bF gB (aH (p:= ¬p.vars=q.vars) F (fun hc=>?_) (fun hc=>?_)))))))
 ·have BW:DM p q=7:=by unfold DM;rw[ar (by omega),ar (by omega),aA hc]
  have hdz:DM p q≠0:=by omega
  refine ba ?_
  refine pg 5 ?_
  refine aJ (ad (eg 4 underlying29 dD) (au (cE [nS,nS] 4 dD ?_)))
  refine bh (bm ?_)
  refine lh (i:=4) (.bool false) (vI 7) results19 underlying29 F dD F F F F F ?_
  exact⟨[lI 5 jt JS],(by exact Sub.k .z),jt,JS,false,7,F,F,.inl ⟨hdz,BW.symm,F,F⟩⟩
 have GU:p.vars=q.vars:=Classical.not_not.1 hc
 have hv:cU p:=de.1 he1
 have hq:cU q:=de.1 he2
 have Q2:DM p q=0:=Gm.2 ⟨hv,hq,GU⟩
 have J7:=sj Q2
 have sf:(gi p q).next.length=p.next.length*q.next.length:=pF p.d q.d
 have hGv:Val (gi p q).d:=(BA hv hq GU (f:=fun _=>0) (fun _=>aG _) J7).val
 have hGw:dF (gi p q).d≤64:=hv.wx
 refine aE ?_
 let dM:Value:=(vI (q.next.length:Int))
 refine iD (fun ρ O=> ∃(zT zM:Nat) (k9:DK),O=[oI zT 34 (pC (gi p q) k9),oI zM 3 [dM],pI 22 3 (gi p q) k9,gk,gC,dC,gG,fo,gS]∧cL [(0,(pV p k)),(1,(pV q k2)),(2,jR),(3,jT),(4,gn),(5,.bool false),(6,vI 0),(8,oN),(9,vI (b7 q:Int)),(10,(.pointer (aD zT))),(11,(.pointer (aD zM)))] ρ) ?_ ?_
 ·refine T.oH [gk,gC,fo,gS] 10 mixed F (by exact Sub.k (.k (.d (.d (.k (.k .z)))))) (fun _ _ _ _ h=>h) ?_
  refine aO 0 F (by kernel_rfl) (eg 3 underlying34 cQ) ?_
  refine aO 1 F (by kernel_rfl) (eg 2 underlying34 cQ) ?_
  refine aO 3 F (by kernel_rfl) (bY underlying34 dQ) ?_
  refine aO 4 F (by kernel_rfl) (bp 2 underlying24) ?_
  refine aO 5 F (by kernel_rfl) (bV underlying24) ?_
  have rD:=fun(w1:World) (hI:Inv w [gk,gC,dC,gG,fo,gS] w1)=>(haveI:=Inv.tab (P:=prog) hI;Gs w1 p k (hI.wT h) hv q k2 (hI.wT h2) hq GU J7)
  refine aZ [2,6,7] (by kernel_rfl) F ⟨⟨_,F,F,dV Fe (aK rD) ?_⟩,⟨_,F,F,bO cQ (fun zT=>⟨by exact Sub.d (.k (.k (.d (.d (.k (.k .z)))))),?_⟩)⟩,⟨_,F,F,bO bt (fun zM=>⟨by exact Sub.d (.k (.k (.d (.d (.k (.k .z)))))),?_⟩)⟩,trivial⟩
  ·clear rD
   rintro vr O' ⟨N,rfl,k9,rfl,rfl⟩
   refine⟨by exact Sub.d (.k (.k (.d (.d (.k (.k .z)))))),?_⟩
   refine aZ [6,7] (by kernel_rfl) F ⟨⟨_,F,F,bO cQ (fun zT=>⟨by exact Sub.d (.d (.k (.k (.d (.d (.k (.k .z))))))),?_⟩)⟩,⟨_,F,F,bO bt (fun zM=>⟨by exact Sub.d (.d (.k (.k (.d (.d (.k (.k .z))))))),?_⟩)⟩,trivial⟩
   ·refine aZ [7] (by kernel_rfl) F ⟨⟨_,F,F,bO bt (fun zM=>⟨by exact Sub.d (.d (.d (.k (.k (.d (.d (.k (.k .z)))))))),?_⟩)⟩,trivial⟩
    refine aZ [8] (by kernel_rfl) F ⟨⟨_,F,F,cE ((pC (gi p q) k9)) 1 cQ ⟨by exact Sub.d (.d (.d (.k (.k (.d (.d (.k (.k .z)))))))),?_⟩ F F F F⟩,trivial⟩
    refine aZ [9] (by kernel_rfl) F ⟨⟨_,F,F,cE [dM] 0 bt ⟨by exact Sub.d (.d (.d (.k (.k (.d (.d (.k (.k .z)))))))),?_⟩ F F F F⟩,trivial⟩
    exact dB (by kernel_rfl) ⟨zT,zM,k9,F,(.of F)⟩ (by exact Sub.dm [oI zM 3 [dM]] _ (.k (.k (.k (.k (.k (.k (.k (.k .z)))))))))
   refine aZ [6] (by kernel_rfl) F ⟨⟨_,F,F,bO cQ (fun zT=>⟨by exact Sub.d (.d (.d (.k (.k (.d (.d (.k (.k .z)))))))),?_⟩)⟩,trivial⟩
   refine aZ [8] (by kernel_rfl) F ⟨⟨_,F,F,cE ((pC (gi p q) k9)) 0 cQ ⟨by exact Sub.d (.d (.d (.k (.k (.d (.d (.k (.k .z)))))))),?_⟩ F F F F⟩,trivial⟩
   refine aZ [9] (by kernel_rfl) F ⟨⟨_,F,F,cE [dM] 1 bt ⟨by exact Sub.d (.d (.d (.k (.k (.d (.d (.k (.k .z)))))))),?_⟩ F F F F⟩,trivial⟩
   exact dB (by kernel_rfl) ⟨zT,zM,k9,F,(.of F)⟩ (by exact Sub.rf)
  ·have rD:=fun(w1:World) (hI:Inv w [oI zT 34 [(vI 0),(vI 0),nS,nS],gk,gC,dC,gG,fo,gS] w1)=>(haveI:=Inv.tab (P:=prog) hI;Gs w1 p k (hI.wT h) hv q k2 (hI.wT h2) hq GU J7)
   refine aZ [2,7] (by kernel_rfl) F ⟨⟨_,F,F,dV Fe (aK rD) ?_⟩,⟨_,F,F,bO bt (fun zM=>⟨by exact Sub.d (.d (.k (.k (.d (.d (.k (.k .z))))))),?_⟩)⟩,trivial⟩
   ·clear rD
    rintro vr O' ⟨N,rfl,k9,rfl,rfl⟩
    refine⟨by exact Sub.d (.d (.k (.k (.d (.d (.k (.k .z))))))),?_⟩
    refine aZ [7] (by kernel_rfl) F ⟨⟨_,F,F,bO bt (fun zM=>⟨by exact Sub.d (.d (.d (.k (.k (.d (.d (.k (.k .z)))))))),?_⟩)⟩,trivial⟩
    refine aZ [8] (by kernel_rfl) F ⟨⟨_,F,F,cE ((pC (gi p q) k9)) 2 cQ ⟨by exact Sub.d (.d (.d (.k (.k (.d (.d (.k (.k .z)))))))),?_⟩ F F F F⟩,trivial⟩
    refine aZ [9] (by kernel_rfl) F ⟨⟨_,F,F,cE [dM] 0 bt ⟨by exact Sub.d (.d (.d (.k (.k (.d (.d (.k (.k .z)))))))),?_⟩ F F F F⟩,trivial⟩
    exact dB (by kernel_rfl) ⟨zT,zM,k9,F,(.of F)⟩ (by exact Sub.dm [oI zM 3 [dM],pI 22 3 (gi p q) k9] _ (.k (.k (.k (.k (.k (.k (.k (.k .z)))))))))
   refine aZ [2] (by kernel_rfl) F ⟨⟨_,F,F,dV Fe (aK fun w1 hI=>(haveI:=Inv.tab (P:=prog) hI;Gs w1 p k (hI.wT h) hv q k2 (hI.wT h2) hq GU J7)) ?_⟩,trivial⟩
   rintro vr O' ⟨N,rfl,k9,rfl,rfl⟩
   refine⟨by exact Sub.d (.d (.d (.k (.k (.d (.d (.k (.k .z)))))))),?_⟩
   refine aZ [8] (by kernel_rfl) F ⟨⟨_,F,F,cE ((pC (gi p q) k9)) 2 cQ ⟨by exact Sub.d (.d (.d (.k (.k (.d (.d (.k (.k .z)))))))),?_⟩ F F F F⟩,trivial⟩
   refine aZ [9] (by kernel_rfl) F ⟨⟨_,F,F,cE [dM] 1 bt ⟨by exact Sub.d (.d (.d (.k (.k (.d (.d (.k (.k .z)))))))),?_⟩ F F F F⟩,trivial⟩
   exact dB (by kernel_rfl) ⟨zT,zM,k9,F,(.of F)⟩ (by exact Sub.dm [pI 22 3 (gi p q) k9,oI zM 3 [dM]] _ (.dm [pI 22 3 (gi p q) k9] _ (.k (.k (.k (.k (.k (.k (.k .z)))))))))
  have rD:=fun(w1:World) (hI:Inv w [oI zM 3 [(vI 0)],gk,gC,dC,gG,fo,gS] w1)=>(haveI:=Inv.tab (P:=prog) hI;Gs w1 p k (hI.wT h) hv q k2 (hI.wT h2) hq GU J7)
  refine aZ [2,6] (by kernel_rfl) F ⟨⟨_,F,F,dV Fe (aK rD) ?_⟩,⟨_,F,F,bO cQ (fun zT=>⟨by exact Sub.d (.d (.k (.k (.d (.d (.k (.k .z))))))),?_⟩)⟩,trivial⟩
  ·clear rD
   rintro vr O' ⟨N,rfl,k9,rfl,rfl⟩
   refine⟨by exact Sub.d (.d (.k (.k (.d (.d (.k (.k .z))))))),?_⟩
   refine aZ [6] (by kernel_rfl) F ⟨⟨_,F,F,bO cQ (fun zT=>⟨by exact Sub.d (.d (.d (.k (.k (.d (.d (.k (.k .z)))))))),?_⟩)⟩,trivial⟩
   refine aZ [8] (by kernel_rfl) F ⟨⟨_,F,F,cE ((pC (gi p q) k9)) 0 cQ ⟨by exact Sub.d (.d (.d (.k (.k (.d (.d (.k (.k .z)))))))),?_⟩ F F F F⟩,trivial⟩
   refine aZ [9] (by kernel_rfl) F ⟨⟨_,F,F,cE [dM] 2 bt ⟨by exact Sub.d (.d (.d (.k (.k (.d (.d (.k (.k .z)))))))),?_⟩ F F F F⟩,trivial⟩
   exact dB (by kernel_rfl) ⟨zT,zM,k9,F,(.of F)⟩ (by exact Sub.k (.dm [pI 22 3 (gi p q) k9] _ (.k (.k (.k (.k (.k (.k (.k .z)))))))))
  refine aZ [2] (by kernel_rfl) F ⟨⟨_,F,F,dV Fe (aK fun w1 hI=>(haveI:=Inv.tab (P:=prog) hI;Gs w1 p k (hI.wT h) hv q k2 (hI.wT h2) hq GU J7)) ?_⟩,trivial⟩
  rintro vr O' ⟨N,rfl,k9,rfl,rfl⟩
  refine⟨by exact Sub.d (.d (.d (.k (.k (.d (.d (.k (.k .z)))))))),?_⟩
  refine aZ [8] (by kernel_rfl) F ⟨⟨_,F,F,cE ((pC (gi p q) k9)) 1 cQ ⟨by exact Sub.d (.d (.d (.k (.k (.d (.d (.k (.k .z)))))))),?_⟩ F F F F⟩,trivial⟩
  refine aZ [9] (by kernel_rfl) F ⟨⟨_,F,F,cE [dM] 2 bt ⟨by exact Sub.d (.d (.d (.k (.k (.d (.d (.k (.k .z)))))))),?_⟩ F F F F⟩,trivial⟩
  exact dB (by kernel_rfl) ⟨zT,zM,k9,F,(.of F)⟩ (by exact Sub.dm [pI 22 3 (gi p q) k9] _ (.dm [pI 22 3 (gi p q) k9] _ (.k (.k (.k (.k (.k (.k (.k .z)))))))))
 rintro ρ O ⟨zT,zM,k9,rfl,hH⟩
 obtain⟨fy,rfl⟩:=hH.elim
 clear hH
 refine ba (bI (TO.nl (aw ?_)))
 let eE:Lx.Item:=oI zT 34 (pC (gi p q) k9)
 let fN:Value:=(.pointer (aD zM))
 refine cS (fun(a:Nat) ρ O=> ∃(kz:LK),O=[eE,oI zM 3 [dM],pI 22 3 (gi p q) k9,gk,gC,dC,oI fj 29 (lC jt kz),fo,gS]∧a≤17∧(∀i9,i9<a→ ∀j9,j9≤16→i9%2≠j9%2→NoD p q i9 j9)∧cL [(0,(pV p k)),(1,(pV q k2)),(2,jR),(3,jT),(4,gn),(5,.bool false),(8,oN),(9,vI (b7 q:Int)),(10,(.pointer (aD zT))),(11,fN),(42,vN a)] ρ) (fun a=>17-a) 0 ?_ ?_
 ·exact⟨JS,F,by omega,(fun i9 h9=>absurd h9 (by omega)),(.of F)⟩
 rintro a ρ O ⟨kz,rfl,anA,kO,hH⟩
 obtain⟨fy,rfl⟩:=hH.elim
 clear hH
 refine aB cH (TO.ns (aH F (fun hc=>?_) (fun hc=>?_)))
 ·have aeJ:a<17:=by omega
  refine aE (ba (aw (bI (au (bO bt (fun mL=>?_))))))
  refine au (cE [(vN a)] 0 bt ?_)
  refine TO.nl (aB (bp 0 underlying3) (ad (kR (a:=a) (b:=2) F F (by omega)) (ad (il (a:=1) (b:=(a%2)) F F (by omega) (by omega)) (au (bO bt (fun gF=>?_))))))
  refine au (cE [(vN (1-(a%2)))] 0 bt ?_)
  refine TO.nl (aw ?_)
  let iC:Lx.Item:=oI mL 3 [(vN a)]
  let ii:Value:=(.pointer (aD mL))
  refine cS (fun(c:Nat) ρ O=> ∃(jb:Nat) (kz:LK),O=[oI jb 3 [vN c],iC,eE,oI zM 3 [dM],pI 22 3 (gi p q) k9,gk,gC,dC,oI fj 29 (lC jt kz),fo,gS]∧a%2≠c%2∧c≤18∧(∀j9,j9<c→a%2≠j9%2→NoD p q a j9)∧cL [(0,(pV p k)),(1,(pV q k2)),(2,jR),(3,jT),(4,gn),(5,.bool false),(8,oN),(9,vI (b7 q:Int)),(10,(.pointer (aD zT))),(11,fN),(12,ii),(13,(.pointer (aD jb))),(42,vN a)] ρ) (fun c=>18-c) (1-a%2) ?_ ?_
  ·exact⟨gF,kz,F,by omega,by omega,(fun j9 h9 e9=>absurd e9 (by omega)),(.of F)⟩
  rintro c ρ O ⟨jb,kz,rfl,KM,anB,hnj,hH⟩
  obtain⟨fy,rfl⟩:=hH.elim
  clear hH
  refine ba (aB (bp 0 underlying3) (bF vO (aH F (fun hc=>?_) (fun hc=>?_))))
  ·have aky:c≤16:=by omega
   refine aE (ba (aw (ba (aB (bY underlying34 cf) (ad (bp 10 underlying22) (ad (bp 1 underlying3) ?_))))))
   by_cases h55:((a:Nat):Int)∈p.dX
   ·refine TO.lc Ff (aK fun w1 hI=>(haveI:=Inv.tab (P:=prog) hI;rV w1 p k (hI.wT h) hv a)) ?_
    rintro vr O' ⟨N,rfl,rfl,rfl⟩
    rw[bz h55]
    refine ad gM (aQ (ax (bY underlying34 cf) (ax (bp 9 underlying22) (ax (bp 0 underlying3) ?_))))
    by_cases h61:((c:Nat):Int)∈q.dX
    ·refine fD F F F (dV Ff (aK fun w1 hI=>(haveI:=Inv.tab (P:=prog) hI;rV w1 q k2 (hI.wT h2) hq c)) ?_)
     rintro vr O' ⟨N,rfl,rfl,rfl⟩
     rw[bz h61]
     let im:Lx.Item:=oI jb 3 [vN c]
     let kd:Lx.Item:=oI fj 29 (lC jt kz)
     let nP:Value:=(.pointer (aD jb))
     refine ax gM (bF ca (cK (aE (aB (dZ) (ai (aB (eg 2 underlying34 cQ) (az (dZ) (ad (dZ) (TO.lc VK (aK fun w1 hI=>(haveI:=Inv.tab (P:=prog) hI;Wh w1 (gi p q) k9 (hI.CE (II:=22) (I:=3) (mG 4)) hGv (by omega) hGw [] (Tx p q a c) (fun v:Nat=>decide (f1 p q v=a)) (fun v:Nat=>decide (f2 q v=c)) (.func (.func 52) #[] #[jR,fN,ii,jT,nP]) (.func (.func 54) #[] #[jR,fN,ii]) (.func (.func 55) #[] #[jT,fN,nP]) F (fun u hu=>iQ (B:=[gS,oI zM 3 [dM],iC,fo,im]) (hI.mA (by exact Sub.dm [im,iC,eE,oI zM 3 [dM],pI 22 3 (gi p q) k9,gk,gC,dC,kd,fo] _ (.dm [im,iC,eE] _ (.dm [im] _ (.dm [im,eE,pI 22 3 (gi p q) k9,gk,gC,dC,kd] _ (.k .z)))))) (fh (fh (fh (fh (fh rH.nil))))) (b_ (first:=[]) (args:=[vN u]) (fU:=[jR,fN,ii,jT,nP]) adf (aeG w p k h hv q k2 h2 hq dk zM mL dI jb a c u (by have h9:u<(gi p q).next.length:=hu;rw[sf]at h9;omega) (by have h9:u<(gi p q).next.length:=hu;rw[sf]at h9;exact h9)))) (fun u hu=>iQ (B:=[gS,oI zM 3 [dM],iC]) (hI.mA (by exact Sub.d (.dm [iC,eE,oI zM 3 [dM],pI 22 3 (gi p q) k9,gk,gC,dC,kd,fo] _ (.dm [iC,eE] _ (.k .z))))) (fh (fh (fh rH.nil))) (b_ (first:=[]) (args:=[vN u]) (fU:=[jR,fN,ii]) adg (aiw w p k h hv q hq dk zM mL a u (by have h9:u<(gi p q).next.length:=hu;rw[sf]at h9;omega) (by have h9:u<(gi p q).next.length:=hu;rw[sf]at h9;exact h9)))) (fun u hu=>iQ (B:=[fo,oI zM 3 [dM],im]) (hI.mA (by exact Sub.dm [im,iC,eE,oI zM 3 [dM],pI 22 3 (gi p q) k9,gk,gC,dC,kd] _ (.dm [im,iC,eE] _ (.k .z)))) (fh (fh (fh rH.nil))) (b_ (first:=[]) (args:=[vN u]) (fU:=[jT,fN,nP]) adh (aix w p hv q k2 h2 hq dI zM jb c u (by have h9:u<(gi p q).next.length:=hu;rw[sf]at h9;omega) (by have h9:u<(gi p q).next.length:=hu;rw[sf]at h9;exact h9)))))) ?_)))))))))
     rintro vr O' ⟨N,rfl,b9,l9,Ds,rfl,rfl,XH⟩
     refine az (bX _) (ad (bX _) (au (cE ((lC l9 Ds)) 9 dD ?_)))
     refine ai (bI (TO.nl (aH (p:=b9=true) (av Value.bool (by cases b9<;>rfl)) (fun hc=>?_) (fun hc=>?_))))
     ·have Hi:=XH.UE hc
      refine aB (eg 9 underlying29 dD) (au (cE ((lC l9 Ds)) 9 dD ?_))
      refine bh (bm ?_)
      refine lh (i:=9) (.bool true) (vI 0) results19 underlying29 F dD F F F F F ?_
      exact⟨[lI 5 l9 Ds],(by exact Sub.k .z),l9,Ds,true,0,F,F,.inr (.inl ⟨Q2,F,F,a,c,KM,by omega,by omega,Hi⟩)⟩
     have Ga:b9=false:=Bool.eq_false_iff.2 hc
     have ZX:=XH.no hc
     refine aE (ba (aB (bp 1 underlying3) (TO.nl (aJ (au (bO bt (fun nZ=>?_)))))))
     refine au (cE [(vN c)] 0 bt ?_)
     refine TO.nl (aJ (ad (bp 0 underlying3) (ad (bK (b:=2) c F F (by omega)) (au (cE [(vN (c+2))] 0 bt ?_)))))
     refine TO.nl ?_
     exact⟨c+2,by omega,[oI nZ 3 [(vN (c+2))],iC,eE,oI zM 3 [dM],pI 22 3 (gi p q) k9,gk,gC,dC,oI fj 29 (lC l9 Ds),fo,gS],(by exact Sub.k (.d (.d (.k (.k (.k (.k (.k (.k (.k (.k (.k (.k .z))))))))))))),nZ,Ds,by rw[ZX.1],by omega,by omega,(fun j9 h9 e9=>if fM:j9<c then hnj j9 fM e9 else by obtain rfl:j9=c:=(by omega);exact(fun m1 m2=>by first|exact absurd m1 h55|exact absurd m2 h61|exact ZX.2)),⟨F,F,F,F,F,(av Value.bool Ga),F,F,F,F,F,F,F,trivial⟩⟩
    refine fD F F F (dV Ff (aK fun w1 hI=>(haveI:=Inv.tab (P:=prog) hI;rV w1 q k2 (hI.wT h2) hq c)) ?_)
    rintro vr O' ⟨N,rfl,rfl,rfl⟩
    rw[bT h61]
    refine ax gM (bF ca ?_)
    refine cJ ?_
    refine bA ?_
    refine ba (aB (bp 0 underlying3) (TO.nl (aJ (au (bO bt (fun uX=>?_))))))
    refine au (cE [(vN c)] 0 bt ?_)
    refine TO.nl (aJ (ad (bp 0 underlying3) (ad (bK (b:=2) c F F (by omega)) (au (cE [(vN (c+2))] 0 bt ?_)))))
    refine TO.nl ?_
    exact⟨c+2,by omega,[oI uX 3 [(vN (c+2))],iC,eE,oI zM 3 [dM],pI 22 3 (gi p q) k9,gk,gC,dC,oI fj 29 (lC jt kz),fo,gS],(by exact Sub.k (.d (.k (.k (.k (.k (.k (.k (.k (.k (.k (.k .z)))))))))))),uX,kz,F,by omega,by omega,(fun j9 h9 e9=>if fM:j9<c then hnj j9 fM e9 else by obtain rfl:j9=c:=(by omega);exact(fun m1 m2=>by first|exact absurd m1 h55|exact absurd m2 h61|exact ZX.2)),(.of F)⟩
   refine TO.lc Ff (aK fun w1 hI=>(haveI:=Inv.tab (P:=prog) hI;rV w1 p k (hI.wT h) hv a)) ?_
   rintro vr O' ⟨N,rfl,rfl,rfl⟩
   rw[bT h55]
   refine ad gM (aQ (dt (cP (bF bR ?_))))
   refine cJ ?_
   refine bA ?_
   refine ba (aB (bp 0 underlying3) (TO.nl (aJ (au (bO bt (fun xQ=>?_))))))
   refine au (cE [(vN c)] 0 bt ?_)
   refine TO.nl (aJ (ad (bp 0 underlying3) (ad (bK (b:=2) c F F (by omega)) (au (cE [(vN (c+2))] 0 bt ?_)))))
   refine TO.nl ?_
   exact⟨c+2,by omega,[oI xQ 3 [(vN (c+2))],iC,eE,oI zM 3 [dM],pI 22 3 (gi p q) k9,gk,gC,dC,oI fj 29 (lC jt kz),fo,gS],(by exact Sub.k (.d (.k (.k (.k (.k (.k (.k (.k (.k (.k (.k .z)))))))))))),xQ,kz,F,by omega,by omega,(fun j9 h9 e9=>if fM:j9<c then hnj j9 fM e9 else by obtain rfl:j9=c:=(by omega);exact(fun m1 m2=>by first|exact absurd m1 h55|exact absurd m2 h61|exact ZX.2)),(.of F)⟩
  have akz: ¬c≤16:=by omega
  refine bA ?_
  refine aJ (ad (bK (b:=1) a F F (by omega)) (aS ?_))
  exact⟨a+1,by omega,[eE,oI zM 3 [dM],pI 22 3 (gi p q) k9,gk,gC,dC,oI fj 29 (lC jt kz),fo,gS],(by exact Sub.d (.d (.k (.k (.k (.k (.k (.k (.k (.k (.k .z))))))))))),kz,F,by omega,(fun i9 h9 j9 h8 e9=>if fM:i9<a then kO i9 fM j9 h8 e9 else by obtain rfl:i9=a:=(by omega);exact hnj j9 (by omega) e9),(.of F)⟩
 have aeM: ¬a<17:=by omega
 refine bA ?_
 refine ba ?_
 refine pg 5 ?_
 refine aJ (ad (dy _ mF dD F) (au (cE [nS,nS] 7 dD ?_)))
 refine bh (bm ?_)
 refine lh (i:=7) (.bool false) (vI 0) results19 underlying29 F dD F F F F F ?_
 exact⟨[lI 5 jt JS],(by exact Sub.k .z),jt,JS,false,0,F,F,.inr (.inr ⟨Q2,F,F,F,T2 (fun i9 h9=>kO i9 (by omega))⟩)⟩
end Go.Proofs.YtjcophmajgcehaaGreatDoor
namespace Go.Lx
open Go.RowKit
theorem Tn {x k:Nat}:decide ((((x/2^k)&&&1:Nat):Int)=((1:Nat):Int))=x.testBit k:=by
 rw[Nat.testBit_eq_decide_div_mod_eq,Nat.and_one_is_mod]
 congr 1
 exact propext (by omega)
theorem Nv {x k:Nat}:decide ((((x>>>k)&&&1:Nat):Int)=1)=x.testBit k:=by
 rw[Nat.shiftRight_eq_div_pow];exact Tn
inductive Pd (E:Nat→Nat→Prop) (al:Nat→Bool) (root X:Nat→Prop):Nat→Prop
 |root {v:Nat}:root v→al v=true→Pd E al root X v
 |base {u v:Nat}:X u→E u v→al v=true→Pd E al root X v
 |step {u v:Nat}:Pd E al root X u→E u v→al v=true→Pd E al root X v
def sM (al:Nat→Bool) (keep:List Bool) (v:Nat):List Bool:=if al v=true∧ ¬keep.getD v false=true then keep.set v true else keep
def wD (al:Nat→Bool) (keep:List Bool) (todo:List Nat) (v:Nat):List Nat:=if al v=true∧ ¬keep.getD v false=true then todo++[v]else todo
structure oQ (nx:List (List Int)) (al:Nat→Bool) (roots:List Int) (X:Nat→Prop) (keep:List Bool) (todo:List Nat) (k pj j:Nat):Prop where
 l:keep.length=nx.length
 snd: ∀v,keep.getD v false=true→Pd (ie nx) al (fun v=>(v:Int)∈roots) X v
 td: ∀u∈todo,u<nx.length∧(X u∨keep.getD u false=true)
 wL: ∀u,(X u∨keep.getD u false=true)→u∉todo→ ∀v,v<nx.length→ie nx u v→al v=true→keep.getD v false=true∨(u=pj∧(v:Int)∉(nx.getD pj []).take j)
 rts: ∀v:Nat,(v:Int)∈roots.take k→al v=true→keep.getD v false=true
 mu:todo.length+keep.count false≤nx.length+1
section
variable {nx:List (List Int)} {al:Nat→Bool} {roots:List Int} {X:Nat→Prop} {keep:List Bool} {todo:List Nat} {k pj j:Nat}
theorem C0 {l:List Bool} {v:Nat} (h:l.getD v false=true):v<l.length:=by
 by_cases hv:v<l.length
 ·exact hv
 ·rw[aj,dL (by omega)]at h;cases h
theorem HZ {l:List Bool} {v:Nat} (hv:v<l.length) (h: ¬l.getD v false=true):(l.set v true).count false+1=l.count false:=by
 have h1:l[v]=false:=by rw[gb hv]at h;simpa using h
 have h2:0<l.count false:=List.count_pos_iff.2 (by rw[←h1];exact ap hv)
 rw[List.count_set hv,h1];simp;omega
theorem oQ.B2 (h:oQ nx al roots X keep todo k pj j) {v:Nat} (hv:v<nx.length) (hw:al v=true→Pd (ie nx) al (fun v=>(v:Int)∈roots) X v):
  oQ nx al roots X (sM al keep v) (wD al keep todo v) k pj j∧(al v=true→(sM al keep v).getD v false=true)∧(∀x,keep.getD x false=true→(sM al keep v).getD x false=true)∧(wD al keep todo v).length+(sM al keep v).count false=todo.length+keep.count false:=by
 unfold sM wD
 by_cases hc:al v=true∧ ¬keep.getD v false=true
 ·rw[aA hc,aA hc]
  have qw:v<keep.length:=by rw[h.l];exact hv
  have hs:=fun x=>ma (a:=true) qw x
  have Bp: ∀x,keep.getD x false=true→(keep.set v true).getD x false=true:=fun x hx=>by rw[hs];split<;>simp_all
  have af7:=HZ qw hc.2
  refine⟨⟨by rw[fR];exact h.l,fun x hx=>?_,fun u hu=>?_,fun u hu hn x hx he ha=>?_,fun x hx ha=>Bp x (h.rts x hx ha),?_⟩,fun _=>by rw[hs,aA F],Bp,?_⟩
  ·rw[hs]at hx
   by_cases e:x=v
   ·subst e;exact hw hc.1
   ·rw[ar e]at hx;exact h.snd x hx
  ·rcases List.mem_append.1 hu with hu|hu
   ·obtain⟨h1,h2⟩:=h.td u hu
    exact⟨h1,h2.imp id (Bp u)⟩
   ·rw[bM]at hu;subst hu
    exact⟨hv,.inr (by rw[hs,aA F])⟩
  ·rw[cI,not_or,bM]at hn
   rw[hs,ar hn.2]at hu
   exact(h.wL u hu hn.1 x hx he ha).imp (Bp x) id
  ·have:=h.mu;rw[aI,List.length_singleton];omega
  ·rw[aI,List.length_singleton];omega
 ·rw[ar hc,ar hc]
  refine⟨h,fun ha=>?_,fun _ hx=>hx,F⟩
  apply Classical.byContradiction;intro h9;exact hc ⟨ha,h9⟩
theorem oQ.root (h:oQ nx al roots X keep todo k pj j) (hk:k<roots.length) {v:Nat} (he:roots[k]=(v:Int)) (hv:v<nx.length):
  oQ nx al roots X (sM al keep v) (wD al keep todo v) (k+1) pj j:=by
 obtain⟨h1,h2,h3,_⟩:=h.B2 hv (fun ha=>.root (by show(v:Int)∈roots;rw[←he];exact ap hk) ha)
 refine {h1 with rts:=fun x hx ha=>?_}
 rw[an hk,cI,bM,he]at hx
 rcases hx with hx|hx
 ·exact h3 x (h.rts x hx ha)
 ·have:x=v:=by omega
  subst this;exact h2 ha
theorem oQ.Ab (h:oQ nx al roots X keep todo k pj j) (hc:pj<nx.length) (hx:X pj∨keep.getD pj false=true) (hj:j<nx[pj].length) {v:Nat} (he:nx[pj][j]=(v:Int)) (hv:v<nx.length):
  oQ nx al roots X (sM al keep v) (wD al keep todo v) k pj (j+1)∧(wD al keep todo v).length+(sM al keep v).count false=todo.length+keep.count false:=by
 have jU:nx.getD pj []=nx[pj]:=getD_at hc
 have hE:ie nx pj v:=⟨nx[pj],ah hc,by rw[←he];exact ap hj⟩
 obtain⟨h1,h2,h3,h4⟩:=h.B2 hv (fun ha=>hx.elim (fun q=>.base q hE ha) (fun q=>.step (h.snd _ q) hE ha))
 refine⟨{h1 with wL:=fun u hu hn x jm SG ha=>?_},h4⟩
 rcases h1.wL u hu hn x jm SG ha with q|⟨rfl,q⟩
 ·exact .inl q
 ·by_cases e:x=v
  ·subst e;exact .inl (h2 ha)
  ·refine .inr ⟨F,?_⟩
   rw[jU,an hj,cI,bM,he,not_or]
   rw[jU]at q
   exact⟨q,by omega⟩
theorem va (al:Nat→Bool) {keep:List Bool} {v x:Nat} (h:keep.getD x false=true):(sM al keep v).getD x false=true:=by
 unfold sM
 split
 ·have hx:=C0 h
  by_cases hv:v<keep.length
  ·rw[ma hv];split<;>simp_all
  ·rw[List.set_eq_of_length_le (by omega)];exact h
 ·exact h
theorem oQ.pop {u:Nat} {rest:List Nat} (h:oQ nx al roots X keep (u::rest) k pj j) (hj: ∀r,nx[pj]? =some r→r.length≤j):
  oQ nx al roots X keep rest k u 0:=by
 refine {h with td:=fun x hx=>h.td x (List.mem_cons_of_mem _ hx),wL:=fun x hx hn v hv he ha=>?_,mu:=?_}
 ·by_cases e:x=u
  ·subst e;exact .inr ⟨F,by simp⟩
  ·rcases h.wL x hx (fun hm=>(List.mem_cons.1 hm).elim e hn) v hv he ha with q|⟨rfl,q⟩
   ·exact .inl q
   ·obtain⟨r,h1,h2⟩:=he
    exfalso;apply q
    rw[aj,h1,Option.getD_some,aN (hj r h1)];exact h2
 ·have:=h.mu;simp at this;omega
theorem oQ.done (jk:na nx) (h:oQ nx al roots X keep [] k pj j) (hk:roots.length≤k) (hj: ∀r,nx[pj]? =some r→r.length≤j) (v:Nat):keep.getD v false=true↔Pd (ie nx) al (fun v=>(v:Int)∈roots) X v:=by
 have hc: ∀u,(X u∨keep.getD u false=true)→ ∀v,ie nx u v→al v=true→keep.getD v false=true:=fun u hu v he ha=>by
  rcases h.wL u hu (by simp) v (oh jk he).2 he ha with q|⟨rfl,q⟩
  ·exact q
  ·obtain⟨r,h1,h2⟩:=he
   exfalso;apply q
   rw[aj,h1,Option.getD_some,aN (hj r h1)];exact h2
 constructor
 ·exact h.snd v
 ·intro hr
  induction hr with
  |root h1 h2=>exact h.rts _ (by rw[aN hk];exact h1) h2
  |base h1 h2 h3=>exact hc _ (.inl h1) _ h2 h3
  |step h1 h2 h3 ih=>exact hc _ (.inr ih) _ h2 h3
theorem Aa (X:Nat→Prop) {roots:List Int} {todo:List Nat} (hX: ∀u,X u→u∈todo) (ht: ∀u∈todo,u<nx.length∧X u) (hl:todo.length≤1):oQ nx al roots X (List.replicate nx.length false) todo 0 nx.length 0:=by
 have hf: ∀v,¬(List.replicate nx.length false).getD v false=true:=fun v=>by
  by_cases hv:v<nx.length
  ·simp[hv]
  ·rw[aj,dL (by simp;omega)];simp
 refine⟨by simp,fun v hv=>absurd hv (hf v),fun u hu=>⟨(ht u hu).1,.inl (ht u hu).2⟩,fun u hu hn=>?_,fun v hv=>by simp at hv,by rw[List.count_replicate_self];omega⟩
 exfalso
 exact hu.elim (fun q=>hn (hX u q)) (hf u)
end
theorem Pe {E:Nat→Nat→Prop} {al:Nat→Bool} {root:Nat→Prop} (hb: ∀u v,E u v→al v=true→al u=true) {v:Nat}:Pd E al root (fun _=>False) v↔al v=true∧ ∃s,root s∧gL E s v:=by
 constructor
 ·intro h
  induction h with
  |root h1 h2=>exact⟨h2,_,h1,.refl _⟩
  |base h1=>exact h1.elim
  |step h1 h2 h3 ih=>obtain⟨_,s,h4,h5⟩:=ih;exact⟨h3,s,h4,h5.tail h2⟩
 ·rintro⟨h1,s,h2,h3⟩
  have key: ∀ {s v:Nat},gL E s v→al v=true→Pd E al root (fun _=>False) s→Pd E al root (fun _=>False) v:=by
   intro s v h
   induction h with
   |refl=>intro _ h;exact h
   |step e h ih=>
    intro ha hr
    refine ih ha (.step hr e ?_)
    have back: ∀ {x y:Nat},gL E x y→al y=true→al x=true:=by
     intro x y h
     induction h with
     |refl=>exact id
     |step e _ ih=>intro hy;exact hb _ _ e (ih hy)
    exact back h ha
  have hs:al s=true:=by
   have back: ∀ {x y:Nat},gL E x y→al y=true→al x=true:=by
    intro x y h
    induction h with
    |refl=>exact id
    |step e _ ih=>intro hy;exact hb _ _ e (ih hy)
   exact back h3 h1
  exact key h3 h1 (.root h2 hs)
theorem Rw {al:Nat→Bool} {keep:List Bool} {todo:List Nat} {v:Nat} (h:al v=true) (h2: ¬keep.getD v false=true):sM al keep v=keep.set v true∧wD al keep todo v=todo++[v]:=by
 unfold sM wD;rw[aA ⟨h,h2⟩,aA ⟨h,h2⟩];exact⟨F,F⟩
theorem Ei {al:Nat→Bool} {keep:List Bool} {todo:List Nat} {v:Nat} (h: ¬(al v=true∧ ¬keep.getD v false=true)):sM al keep v=keep∧wD al keep todo v=todo:=by
 unfold sM wD;rw[ar h,ar h];exact⟨F,F⟩
def ei (keep:List Bool) (s:Nat):Nat:=(keep.take s).count true
theorem oR {keep:List Bool} {s:Nat} (h:s<keep.length):ei keep (s+1)=ei keep s+if keep.getD s false=true then 1 else 0:=by
 unfold ei
 rw[an h,List.count_append,gb h]
 cases keep[s]<;>rfl
theorem Rz (keep:List Bool) (s:Nat):ei keep s≤s:=cT List.count_le_length (by rw[bC];omega)
theorem Ek {keep:List Bool} {s:Nat} (h:keep.length≤s):ei keep s=keep.count true:=by unfold ei;rw[aN h]
def eS (keep:List Bool) (l:List Int):List Int:=(l.filter fun s=>keep.getD s.toNat false).map fun s=>((ei keep s.toNat:Nat):Int)
theorem Ej {keep:List Bool} {l:List Int} {k:Nat} (hk:k<l.length) {s:Nat} (e:l[k]=(s:Int)) (h:keep.getD s false=true):eS keep (l.take (k+1))=eS keep (l.take k)++[((ei keep s:Nat):Int)]:=by
 unfold eS;rw[an hk,List.filter_append,aL,e];simp only[List.filter_cons,Int.toNat_natCast,h,if_true,List.filter_nil,bL,df]
theorem IR {keep:List Bool} {l:List Int} {k:Nat} (hk:k<l.length) {s:Nat} (e:l[k]=(s:Int)) (h: ¬keep.getD s false=true):eS keep (l.take (k+1))=eS keep (l.take k):=by
 unfold eS;rw[an hk,List.filter_append,aL,e]
 have:keep.getD s false=false:=by simpa using h
 simp only[List.filter_cons,Int.toNat_natCast,this,Bool.false_eq_true,if_false,List.filter_nil,df,bZ]
theorem zd (keep:List Bool) (l:List Int):(eS keep l).length≤l.length:=by unfold eS;rw[ag];exact List.length_filter_le _ _
theorem Kg (keep:List Bool) (l:List Int) (k:Nat):(eS keep (l.take k)).length≤l.length:=cT (zd _ _) (by rw[bC];omega)
def Km (keep:List Bool) (e:Ed):Ed:=⟨((ei keep e.fr.toNat:Nat):Int),((ei keep e.to.toNat:Nat):Int),e.pos,e.neg⟩
def qO (keep:List Bool) (es:List Ed):List Ed:=(es.filter fun e=>keep.getD e.fr.toNat false&&keep.getD e.to.toNat false).map (Km keep)
theorem RC {keep:List Bool} {es:List Ed} {k:Nat} (hk:k<es.length) (h:keep.getD es[k].fr.toNat false=true) (h2:keep.getD es[k].to.toNat false=true):qO keep (es.take (k+1))=qO keep (es.take k)++[Km keep es[k]]:=by
 unfold qO;rw[an hk,List.filter_append,aL];simp only[List.filter_cons,h,h2,Bool.and_self,if_true,List.filter_nil,bL,df]
theorem M0 {keep:List Bool} {es:List Ed} {k:Nat} (hk:k<es.length) (h: ¬(keep.getD es[k].fr.toNat false=true∧keep.getD es[k].to.toNat false=true)):qO keep (es.take (k+1))=qO keep (es.take k):=by
 unfold qO;rw[an hk,List.filter_append,aL]
 have:(keep.getD es[k].fr.toNat false&&keep.getD es[k].to.toNat false)=false:=by
  rw[←Bool.not_eq_true,aY];exact h
 simp only[List.filter_cons,this,Bool.false_eq_true,if_false,List.filter_nil,df,bZ]
theorem C1 (keep:List Bool) (l:List Ed):(qO keep l).length≤l.length:=by unfold qO;rw[ag];exact List.length_filter_le _ _
theorem MZ (keep:List Bool) (l:List Ed) (k:Nat):(qO keep (l.take k)).length≤l.length:=cT (C1 _ _) (by rw[bC];omega)
def oS (b:Bu) (keep:List Bool):Bu:= {vars:=b.vars,ae:=((keep.count true:Nat):Int),start:=eS keep b.start,ao:=qO keep b.ao,aP:=b.aP.map (eS keep)}
def qJ:Bu:= {vars:=0,ae:=0,start:=[],ao:=[],aP:=[]}
def FQ (b:Bu) (v:Nat):Prop:=xA b v∧ ∃s:Nat,(s:Int)∈b.start∧gL (CJ b) s v
open Classical in
noncomputable def gX (b:Bu):List Bool:=(List.range b.ae.toNat).map fun v=>decide (FQ b v)
open Classical in
noncomputable def eU (b:Bu):Bu:=if cC b=0 then oS b (gX b)else qJ
open Classical in
theorem MY {b:Bu} {ks:List Bool} (hl:ks.length=b.ae.toNat) (h: ∀v,v<b.ae.toNat→(ks.getD v false=true↔FQ b v)):ks=gX b:=by
 unfold gX
 apply List.ext_getElem (by simp[hl])
 intro i h1 h2
 have h3:=h i (by omega)
 rw[gb h1]at h3
 rw[eV,jw]
 by_cases e:FQ b i
 ·rw[bz e];exact h3.2 e
 ·rw[bT e];rw[←Bool.not_eq_true];exact fun q=>e (h3.1 q)
structure tP (keep:List Bool) (k:Nat) (ns:List Nat):Prop where
 l:ns.length=keep.length
 h: ∀s,s<k→keep.getD s false=true→ns.getD s 0=ei keep s
theorem tP.start (keep:List Bool):tP keep 0 (List.replicate keep.length 0):=⟨by simp,fun s hs=>by omega⟩
theorem tP.UE {keep:List Bool} {k:Nat} {ns:List Nat} (h:tP keep k ns) (hk:k<keep.length):tP keep (k+1) (ns.set k (ei keep k)):=by
 refine⟨by simp[h.l],fun s hs hy=>?_⟩
 have:=kv (l:=ns) (v:=k) (a:=ei keep k) (by rw[h.l];exact hk) s
 rw[show(ns.set k (ei keep k)).getD s 0=fn (ns.set k (ei keep k)) s from F,this]
 by_cases e:s=k
 ·rw[aA e,e]
 ·rw[ar e];exact h.h s (by omega) hy
theorem tP.no {keep:List Bool} {k:Nat} {ns:List Nat} (h:tP keep k ns) (hn: ¬keep.getD k false=true):tP keep (k+1) ns:=by
 refine⟨h.l,fun s hs hy=>?_⟩
 by_cases e:s=k
 ·subst e;exact absurd hy hn
 ·exact h.h s (by omega) hy
theorem tP.get {keep:List Bool} {ns:List Nat} (h:tP keep keep.length ns) {s:Nat} (hs:s<ns.length) (hk:keep.getD s false=true):ns[s]=ei keep s:=by
 have:=h.h s (by rw[←h.l];exact hs) hk
 rwa[gd hs]at this
theorem Kj {b:Bu} (he:cC b=0) {nx:List (List Int)} {ms:List Nat} (hv:eJ b) (hg:wC b nx ms) {v:Nat} (wQ:v<b.ae.toNat):Pd (ie nx) (fun v=>(eP b).getD v false) (fun v=>(v:Int)∈b.start) (fun _=>False) v↔FQ b v:=by
 have Pn: ∀x y,ie nx x y→(eP b).getD y false=true→(eP b).getD x false=true:=fun x y hxy hy=>by
  have h1:=oh (hg.ok hv) hxy
  have hl:nx.length=b.ae.toNat:=hg.r.l
  have h2:=(sG he (by omega)).1 hy
  refine(sG he (by omega)).2 ?_
  rw[hg.Wm hv]at hxy
  exact l7.back h2 (.one hxy)
 rw[Pe Pn,sG he wQ,hg.Wm hv];exact Iff.rfl
theorem xq {keep:List Bool} {s:Nat} (h:keep.getD s false=true):ei keep s<keep.count true:=by
 have hs:=C0 h
 have h1:ei keep (s+1)≤keep.count true:=(List.take_sublist (s+1) keep).count_le true
 rw[oR hs,aA h]at h1;omega
theorem Br {b:Bu}:(gX b).length=b.ae.toNat:=by unfold gX;simp
theorem Lk {b:Bu} {v:Nat} (hv:v<b.ae.toNat):(gX b).getD v false=true↔FQ b v:=by unfold gX;simp[hv]
theorem Ll {keep:List Bool} {s t:Nat} (h:s≤t):ei keep s≤ei keep t:=by
 unfold ei
 have:keep.take s=(keep.take t).take s:=by rw[List.take_take,Nat.min_eq_left h]
 rw[this]
 exact(List.take_sublist s (keep.take t)).count_le true
theorem ze {keep:List Bool} {s t:Nat} (hs:keep.getD s false=true) (h:s<t):ei keep s<ei keep t:=by
 have h1:ei keep (s+1)≤ei keep t:=Ll h
 rw[oR (C0 hs),aA hs]at h1;omega
theorem zf {keep:List Bool} {s t:Nat} (hs:keep.getD s false=true) (ht:keep.getD t false=true) (h:ei keep s=ei keep t):s=t:=by
 rcases Nat.lt_trichotomy s t with q|q|q
 ·have:=ze hs q;omega
 ·exact q
 ·have:=ze ht q;omega
theorem JE {keep:List Bool} {u:Nat}: ∀n,n≤keep.length→u<ei keep n→ ∃s,keep.getD s false=true∧ei keep s=u
 |0,_,h=>by simp[ei]at h
 |n+1,hn,h=>by
  by_cases q:u<ei keep n
  ·exact JE n (by omega) q
  ·rw[oR (by omega)]at h
   by_cases hk:keep.getD n false=true
   ·rw[aA hk]at h;exact⟨n,hk,by omega⟩
   ·rw[ar hk]at h;omega
theorem Po {keep:List Bool} {u:Nat} (hu:u<keep.count true): ∃s,keep.getD s false=true∧ei keep s=u:=
 JE keep.length (aV _) (by rw[Ek (aV _)];exact hu)
theorem rv {keep:List Bool} {l:List Int} {x:Int}:x∈eS keep l↔ ∃s∈l,keep.getD s.toNat false=true∧x=((ei keep s.toNat:Nat):Int):=by
 unfold eS
 rw[e_]
 constructor
 ·rintro⟨s,h,rfl⟩;obtain⟨h1,h2⟩:=List.mem_filter.1 h;exact⟨s,h1,h2,F⟩
 ·rintro⟨s,h1,h2,rfl⟩;exact⟨s,List.mem_filter.2 ⟨h1,h2⟩,F⟩
theorem rO {keep:List Bool} {es:List Ed} {x:Ed}:x∈qO keep es↔ ∃e∈es,keep.getD e.fr.toNat false=true∧keep.getD e.to.toNat false=true∧x=Km keep e:=by
 unfold qO
 rw[e_]
 constructor
 ·rintro⟨s,h,rfl⟩;obtain⟨h1,h2⟩:=List.mem_filter.1 h;rw[aY]at h2;exact⟨s,h1,h2.1,h2.2,F⟩
 ·rintro⟨s,h1,h2,h3,rfl⟩;exact⟨s,List.mem_filter.2 ⟨h1,by rw[aY];exact⟨h2,h3⟩⟩,F⟩
theorem wq {keep:List Bool} {l:List Int} (h0: ∀s∈l,0≤s) (h:l.Pairwise (· < ·)):(eS keep l).Pairwise (· < ·):=by
 unfold eS
 rw[List.pairwise_map]
 refine List.Pairwise.imp_of_mem (fun {x y} hx hy fM=>?_) (h.filter _)
 obtain⟨h1,h2⟩:=List.mem_filter.1 hx
 obtain⟨h3,h4⟩:=List.mem_filter.1 hy
 have:=h0 x h1
 have:=ze (t:=y.toNat) h2 (by omega)
 omega
theorem eJ.trim {b:Bu} (h:eJ b) {keep:List Bool} (hl:keep.length=b.ae.toNat):eJ (oS b keep):=by
 have hr: ∀l:List Int,∀s∈eS keep l,0≤s∧s<((keep.count true:Nat):Int):=fun l s hs=>by
  obtain⟨x,_,h1,rfl⟩:=rv.1 hs
  have:=xq h1;omega
 have hc:keep.count true≤keep.length:=List.count_le_length
 refine {v0:=h.v0,v6:=h.v6,n0:=?_,n4:=?_,m8:=?_,st:=hr _,UN:=wq (fun s hs=>(h.st s hs).1) h.UN,se:=?_,WP:=?_,ed:=?_,cu:=?_}
 ·show(0:Int)≤((keep.count true:Nat):Int);omega
 ·show((keep.count true:Nat):Int)≤4096;have:=h.n4;omega
 ·show(b.aP.map _).length≤8;rw[ag];exact h.m8
 ·intro l hl s hs
  obtain⟨r,uf,rfl⟩:=List.mem_map.1 hl
  exact hr _ s hs
 ·intro l hl
  obtain⟨r,uf,rfl⟩:=List.mem_map.1 hl
  exact wq (fun s hs=>(h.se r uf s hs).1) (h.WP r uf)
 ·intro e he
  obtain⟨x,hx,h1,h2,rfl⟩:=rO.1 he
  have:=xq h1
  have:=xq h2
  show(0≤((ei keep x.fr.toNat:Nat):Int)∧((ei keep x.fr.toNat:Nat):Int)<((keep.count true:Nat):Int))∧0≤((ei keep x.to.toNat:Nat):Int)∧((ei keep x.to.toNat:Nat):Int)<((keep.count true:Nat):Int)
  omega
 ·intro e he
  obtain⟨x,hx,h1,h2,rfl⟩:=rO.1 he
  exact h.cu x hx
theorem C3 {b:Bu} (h:eJ b) {u v:Nat} (e:CJ b u v):u<b.ae.toNat∧v<b.ae.toNat:=by
 obtain⟨e,he,h1,h2⟩:=e
 have:=h.ed e he
 omega
theorem Fair.shift {E:Nat→Nat→Prop} {m:Nat} {M:Nat→Nat→Prop} {v:Nat} {r:Nat→Nat} (h:Fair E m M v r) (i:Nat):Fair E m M (r i) (fun j=>r (i+j)):=
 ⟨F,fun j=>h.st (i+j),fun k hk N=>by
  obtain⟨j,h1,h2⟩:=h.inf k hk (i+N)
  exact⟨j-i,by omega,by show M k (r (i+(j-i)));rw[show i+(j-i)=j by omega];exact h2⟩⟩
theorem Run.fair {b:Bu} (hv:eJ b) {w:Nat→Nat} {s:Nat} {r:Nat→Nat} (h:Run b w s r):Fair (CJ b) b.aP.length (HR b) s r:=
 ⟨h.s,fun i=>by obtain⟨e,he,h1,h2,_⟩:=h.st i;exact⟨e,he,h1,h2⟩,fun k hk N=>by
  obtain⟨i,h1,h2⟩:=h.inf b.aP[k] (ap hk) N
  refine⟨i,h1,?_,b.aP[k],ah hk,h2⟩
  have:=hv.se _ (ap hk) _ h2
  omega⟩
theorem Fair.kept {b:Bu} (hv:eJ b) {s:Nat} {r:Nat→Nat} (h:Fair (CJ b) b.aP.length (HR b) s r) (hs: ∃s0:Nat,(s0:Int)∈b.start∧gL (CJ b) s0 s) (i:Nat):(gX b).getD (r i) false=true:=by
 have hn: ∀j,r j<b.ae.toNat:=fun j=>(C3 hv (h.st j)).1
 obtain⟨s0,h1,h2⟩:=hs
 refine(Lk (hn i)).2 ⟨(En (n:=b.ae.toNat) (fun u w he=>C3 hv he)).2 ⟨_,h.shift i⟩,s0,h1,h2.trans ?_⟩
 have:=h.Ai (i:=0) (j:=i) (aG _)
 rwa[h.s]at this
theorem k8 {b:Bu} (hv:eJ b):eU b=oS b (gX b):=by unfold eU;rw[aA (gE.2 hv)]
theorem y7 {b:Bu} (hv:eJ b):eJ (eU b):=by rw[k8 hv];exact hv.trim Br
theorem wu {b:Bu} (hv:eJ b):(eU b).ae=(((gX b).count true:Nat):Int):=by rw[k8 hv];rfl
theorem Tj {b:Bu} (hv:eJ b):(eU b).ae≤b.ae:=by
 rw[wu hv]
 have:(gX b).count true≤(gX b).length:=List.count_le_length
 rw[Br]at this
 have:=hv.n0;omega
noncomputable abbrev Mn (b:Bu) (s:Nat):Nat:=ei (gX b) s
theorem Lm {b:Bu} (hv:eJ b) {s:Nat} {r:Nat→Nat} (h:Fair (CJ b) b.aP.length (HR b) s r) (hk: ∀i,(gX b).getD (r i) false=true):Fair (CJ (eU b)) (eU b).aP.length (HR (eU b)) (Mn b s) (fun i=>Mn b (r i)):=by
 rw[k8 hv]
 refine⟨by show Mn b (r 0)=_;rw[h.s],fun i=>?_,fun k yG N=>?_⟩
 ·obtain⟨e,he,h1,h2⟩:=h.st i
  refine⟨Km (gX b) e,rO.2 ⟨e,he,?_,?_,F⟩,?_,?_⟩
  ·rw[h1,Int.toNat_natCast];exact hk i
  ·rw[h2,Int.toNat_natCast];exact hk (i+1)
  ·show((ei (gX b) e.fr.toNat:Nat):Int)=_;rw[h1,Int.toNat_natCast]
  ·show((ei (gX b) e.to.toNat:Nat):Int)=_;rw[h2,Int.toNat_natCast]
 ·have ahO:k<b.aP.length:=by simpa[oS]using yG
  obtain⟨i,h1,h2,S,h3,h4⟩:=h.inf k ahO N
  refine⟨i,h1,?_,eS (gX b) S,by show(b.aP.map _)[k]? =_;rw[bc,h3];rfl,rv.2 ⟨_,h4,by rw[Int.toNat_natCast];exact hk i,by rw[Int.toNat_natCast]⟩⟩
  show Mn b (r i)<(((gX b).count true:Nat):Int).toNat
  rw[Int.toNat_natCast];exact xq (hk i)
theorem Ph {b:Bu} (hv:eJ b) {w:Nat→Nat}:Acc (eU b) w↔Acc b w:=by
 constructor
 ·rintro⟨s,hs,r,hr⟩
  have ht:=y7 hv
  have hinv: ∀i,∃x,(gX b).getD x false=true∧Mn b x=r i:=fun i=>by
   have h1:=(C3 ht ((hr.fair ht).st i)).1
   rw[wu hv,Int.toNat_natCast]at h1
   exact Po h1
  have hex: ∃q:Nat→Nat,∀i,(gX b).getD (q i) false=true∧Mn b (q i)=r i:=⟨fun i=>Classical.choose (hinv i),fun i=>Classical.choose_spec (hinv i)⟩
  obtain⟨q,hq⟩:=hex
  rw[k8 hv]at hs hr
  have tG: ∀l:List Int,(∀s∈l,0≤s)→ ∀i,((r i:Nat):Int)∈eS (gX b) l→((q i:Nat):Int)∈l:=fun l h0 i h=>by
   obtain⟨x,h1,h2,h3⟩:=rv.1 h
   have h4:Mn b (q i)=ei (gX b) x.toNat:=by rw[(hq i).2];omega
   have h5:=zf (hq i).1 h2 h4
   have:=h0 x h1
   rw[h5,bq this];exact h1
  refine⟨q 0,?_,q,F,fun i=>?_,fun S hS N=>?_⟩
  ·refine tG b.start (fun s hs=>(hv.st s hs).1) 0 ?_
   rw[hr.s];exact hs
  ·obtain⟨e',he',h1,h2,h3⟩:=hr.st i
   obtain⟨e,he,k1,k2,rfl⟩:=rO.1 he'
   have h1':ei (gX b) e.fr.toNat=Mn b (q i):=by rw[(hq i).2];have:((ei (gX b) e.fr.toNat:Nat):Int)=r i:=h1;omega
   have h2':ei (gX b) e.to.toNat=Mn b (q (i+1)):=by rw[(hq (i+1)).2];have:((ei (gX b) e.to.toNat:Nat):Int)=r (i+1):=h2;omega
   have g1:=zf k1 (hq i).1 h1'
   have g2:=zf k2 (hq (i+1)).1 h2'
   have:=hv.ed e he
   exact⟨e,he,by omega,by omega,h3⟩
  ·obtain⟨i,h1,h2⟩:=hr.inf (eS (gX b) S) (List.mem_map.2 ⟨S,hS,F⟩) N
   exact⟨i,h1,tG S (fun s hs=>(hv.se S hS s hs).1) i h2⟩
 ·rintro⟨s,hs,r,hr⟩
  have hk:=(hr.fair hv).kept hv ⟨s,hs,.refl _⟩
  have hf:=Lm hv (hr.fair hv) hk
  rw[k8 hv]at hf⊢
  have hs0:=hk 0
  rw[hr.s]at hs0
  refine⟨Mn b s,rv.2 ⟨_,hs,by rw[Int.toNat_natCast];exact hs0,by rw[Int.toNat_natCast]⟩,fun i=>Mn b (r i),by show Mn b (r 0)=_;rw[hr.s],fun i=>?_,fun S hS N=>?_⟩
  ·obtain⟨e,he,h1,h2,h3⟩:=hr.st i
   refine⟨Km (gX b) e,rO.2 ⟨e,he,?_,?_,F⟩,?_,?_,h3⟩
   ·rw[h1,Int.toNat_natCast];exact hk i
   ·rw[h2,Int.toNat_natCast];exact hk (i+1)
   ·show((ei (gX b) e.fr.toNat:Nat):Int)=_;rw[h1,Int.toNat_natCast]
   ·show((ei (gX b) e.to.toNat:Nat):Int)=_;rw[h2,Int.toNat_natCast]
  ·obtain⟨S0,Vn,rfl⟩:=List.mem_map.1 hS
   obtain⟨i,h1,h2⟩:=hr.inf S0 Vn N
   exact⟨i,h1,rv.2 ⟨_,h2,by rw[Int.toNat_natCast];exact hk i,by rw[Int.toNat_natCast]⟩⟩
open Classical in
theorem Lf {b:Bu} {l:La} (hv:eJ b) (he:dA b.vars l=0):nf b l=true↔Acc b l.at:=by
 unfold nf
 rw[aA ⟨gE.2 hv,he⟩,decide_eq_true_iff]
 exact Eo hv (qE he).1
theorem KW {b:Bu} {l:La} (h:DP b l=0):eJ b∧dA b.vars l=0:=by
 unfold DP at h
 by_cases hc:cC b=0
 ·rw[aA hc]at h;exact⟨gE.1 hc,h⟩
 ·rw[ar hc]at h;exact absurd h hc
def ia (b:Bu) (k:Nat) (x:Int):Nat:=if x∈b.aP.getD k []∧1<b.aP.length then(k+1)%b.aP.length else k
def xN (b:Bu) (k:Nat) (e:Ed):Ed:=⟨e.fr+((k*b.ae.toNat:Nat):Int),e.to+((ia b k e.fr*b.ae.toNat:Nat):Int),e.pos,e.neg⟩
def n_ (b:Bu) (n:Nat):List Ed:=(List.range n).flatMap fun k=>b.ao.map (xN b k)
def j_ (b:Bu):List Int:=(b.aP.getD (b.aP.length-1) []).map fun x=>x+(((b.aP.length-1)*b.ae.toNat:Nat):Int)
def allI (n:Nat):List Int:=(List.range n).map fun s:Nat=>(s:Int)
def ky (b:Bu):Bu:=⟨b.vars,((b.ae.toNat*max b.aP.length 1:Nat):Int),b.start,if b.aP.length=0 then b.ao else n_ b b.aP.length,if b.aP.length=0 then[allI b.ae.toNat]else[j_ b]⟩
def rX (b:Bu):Nat:=if cC b≠0 then cC b else if 4096<b.aP.length*b.ae.toNat then 10 else 0
def AG (b:Bu):Bu:=if rX b=0 then ky b else qJ
theorem yw (b:Bu) (k:Nat):n_ b (k+1)=n_ b k++b.ao.map (xN b k):=by
 unfold n_;rw[List.range_succ,List.flatMap_append];simp
theorem A_ (b:Bu) (k:Nat):(n_ b k).length=k*b.ao.length:=by
 induction k with
 |zero=>simp[n_]
 |succ k ih=>rw[yw,aI,ag,ih,Nat.succ_mul]
theorem o6 {b:Bu} {n:Nat} {x:Ed}:x∈n_ b n↔ ∃k,k<n∧ ∃e∈b.ao,x=xN b k e:=by
 unfold n_
 simp only[List.mem_flatMap,iH,e_]
 constructor
 ·rintro⟨k,h1,e,h2,rfl⟩;exact⟨k,h1,e,h2,F⟩
 ·rintro⟨k,h1,e,h2,rfl⟩;exact⟨k,h1,e,h2,F⟩
theorem KE {b:Bu} (h:rX b=0):eJ b∧b.aP.length*b.ae.toNat≤4096:=by
 unfold rX at h
 by_cases hc:cC b=0
 ·rw[ar (fun q=>q hc)]at h
  split at h
  ·cases h
  ·exact⟨gE.1 hc,by omega⟩
 ·rw[aA hc]at h;exact absurd h hc
theorem sJ {b:Bu} {k:Nat} {x:Int} (hk:k<b.aP.length):ia b k x<b.aP.length:=by
 unfold ia;split
 ·exact Nat.mod_lt _ (by omega)
 ·exact hk
theorem Xh {k n N s:Nat} (hk:k<n) (hs:s<N):s+k*N<n*N:=by
 have:=Nat.mul_le_mul_right N (show k+1≤n by omega)
 rw[Nat.succ_mul]at this;omega
theorem EQ {n:Nat} {x:Int}:x∈allI n↔0≤x∧x<n:=by
 unfold allI
 rw[e_]
 constructor
 ·rintro⟨s,h,rfl⟩;have:=List.mem_range.1 h;omega
 ·rintro⟨h1,h2⟩;exact⟨x.toNat,List.mem_range.2 (by omega),by omega⟩
theorem qX {l:List (List Int)} {k:Nat} (h:k<l.length):l.getD k []∈l:=by
 rw[aj,ah h];exact ap h
theorem KF {b:Bu} (hv:eJ b) (hn:b.aP.length*b.ae.toNat≤4096):eJ (ky b):=by
 have hN:=hv.n0
 have h4:=hv.n4
 have Um:b.ae.toNat≤b.ae.toNat*max b.aP.length 1:=Nat.le_mul_of_pos_right _ (by omega)
 have mK: ∀s∈b.start,0≤s∧s<((b.ae.toNat*max b.aP.length 1:Nat):Int):=fun s hs=>by have:=hv.st s hs;omega
 have h0:(0:Int)≤((b.ae.toNat*max b.aP.length 1:Nat):Int):=by omega
 have h9:((b.ae.toNat*max b.aP.length 1:Nat):Int)≤4096:=by
  by_cases hz:b.aP.length=0
  ·rw[hz];simp;omega
  ·rw[show max b.aP.length 1=b.aP.length by omega,Nat.mul_comm];omega
 by_cases hz:b.aP.length=0
 ·have e1:max b.aP.length 1=1:=by omega
  refine {v0:=hv.v0,v6:=hv.v6,n0:=h0,n4:=h9,m8:=?_,st:=mK,UN:=hv.UN,se:=?_,WP:=?_,ed:=?_,cu:=?_}
  ·show(if b.aP.length=0 then[allI b.ae.toNat]else[j_ b]).length≤8;rw[aA hz];simp
  ·intro l hl s hs
   rw[show(ky b).aP=[allI b.ae.toNat]from aA hz,bM]at hl
   subst hl
   have:=EQ.1 hs
   show 0≤s∧s<((b.ae.toNat*max b.aP.length 1:Nat):Int);omega
  ·intro l hl
   rw[show(ky b).aP=[allI b.ae.toNat]from aA hz,bM]at hl
   subst hl
   unfold allI;rw[List.pairwise_map];exact List.pairwise_lt_range.imp (fun h=>by omega)
  ·intro e he
   rw[show(ky b).ao=b.ao from aA hz]at he
   have:=hv.ed e he
   show(0≤e.fr∧e.fr<((b.ae.toNat*max b.aP.length 1:Nat):Int))∧0≤e.to∧e.to<((b.ae.toNat*max b.aP.length 1:Nat):Int);omega
  ·intro e he
   rw[show(ky b).ao=b.ao from aA hz]at he
   exact hv.cu e he
 ·have e1:max b.aP.length 1=b.aP.length:=by omega
  have mB: ∀k,k<b.aP.length→ ∀s:Int,0≤s→s<b.ae→0≤s+((k*b.ae.toNat:Nat):Int)∧s+((k*b.ae.toNat:Nat):Int)<((b.ae.toNat*max b.aP.length 1:Nat):Int):=fun k hk s h1 h2=>by
   rw[e1,Nat.mul_comm b.ae.toNat]
   have:=Xh (N:=b.ae.toNat) (s:=s.toNat) hk (by omega);omega
  refine {v0:=hv.v0,v6:=hv.v6,n0:=h0,n4:=h9,m8:=?_,st:=mK,UN:=hv.UN,se:=?_,WP:=?_,ed:=?_,cu:=?_}
  ·show(if b.aP.length=0 then[allI b.ae.toNat]else[j_ b]).length≤8;rw[ar hz];simp
  ·intro l hl s hs
   rw[show(ky b).aP=[j_ b]from ar hz,bM]at hl
   subst hl
   obtain⟨x,hx,rfl⟩:=List.mem_map.1 hs
   have:=hv.se _ (qX (show b.aP.length-1<b.aP.length by omega)) x hx
   exact mB _ (by omega) x this.1 this.2
  ·intro l hl
   rw[show(ky b).aP=[j_ b]from ar hz,bM]at hl
   subst hl
   unfold j_;rw[List.pairwise_map]
   exact(hv.WP _ (qX (show b.aP.length-1<b.aP.length by omega))).imp (fun h=>by omega)
  ·intro x hx
   rw[show(ky b).ao=n_ b b.aP.length from ar hz]at hx
   obtain⟨k,hk,e,he,rfl⟩:=o6.1 hx
   have h1:=hv.ed e he
   exact⟨mB k hk _ h1.1.1 h1.1.2,mB _ (sJ hk) _ h1.2.1 h1.2.2⟩
  ·intro x hx
   rw[show(ky b).ao=n_ b b.aP.length from ar hz]at hx
   obtain⟨k,hk,e,he,rfl⟩:=o6.1 hx
   exact hv.cu e he
theorem ER {n:Nat} {c:Nat→Nat} {V:Nat→Nat→Prop} (hs: ∀i,c (i+1)=c i∨(V (c i) i∧c (i+1)=(c i+1)%n)) {a j:Nat} (ha:c a≤j): ∀L,j<c (a+L)→ ∃t,a≤t∧c t=j∧V j t
 |0,h=>by rw[Nat.add_zero]at h;omega
 |L+1,h=>by
  by_cases hj:j<c (a+L)
  ·exact ER hs ha L hj
  ·rcases hs (a+L)with h1|⟨h1,h2⟩
   ·rw[←Nat.add_assoc,h1]at h;omega
   ·rw[←Nat.add_assoc,h2]at h
    have:=Nat.mod_le (c (a+L)+1) n
    have e:c (a+L)=j:=by omega
    exact⟨a+L,by omega,e,by rw[e]at h1;exact h1⟩
theorem ES {P:Nat→Prop} {a t:Nat} (h:a≤t) (hp:P t): ∃u,a≤u∧P u∧ ∀i,a≤i→i<u→ ¬P i:=by
 classical
 by_cases hx: ∃i,a≤i∧i<t∧P i
 ·obtain⟨i,h1,h2,h3⟩:=hx
  exact ES h1 h3
 ·exact⟨t,h,hp,fun i h1 h2 h3=>hx ⟨i,h1,h2,h3⟩⟩
 termination_by t
theorem RW {b:Bu} (hv:eJ b) (hn:b.aP.length*b.ae.toNat≤4096) {w:Nat→Nat}:Acc (ky b) w↔Acc b w:=by
 have hN:=hv.n0
 by_cases hz:b.aP.length=0
 ·have hb:b.aP=[]:=List.eq_nil_of_length_eq_zero hz
  have he:(ky b).ao=b.ao:=aA hz
  have hs:(ky b).aP=[allI b.ae.toNat]:=aA hz
  constructor
  ·rintro⟨s,h1,r,hr⟩
   refine⟨s,h1,r,hr.s,fun i=>?_,fun S hS=>by rw[hb]at hS;cases hS⟩
   have:=hr.st i
   rwa[he]at this
  ·rintro⟨s,h1,r,hr⟩
   refine⟨s,h1,r,hr.s,fun i=>by rw[he];exact hr.st i,fun S hS N=>?_⟩
   rw[hs,bM]at hS
   subst hS
   refine⟨N,aV _,EQ.2 ?_⟩
   obtain⟨e,h2,h3,_,_⟩:=hr.st N
   have:=hv.ed e h2;omega
 ·have he:(ky b).ao=n_ b b.aP.length:=ar hz
  have hs:(ky b).aP=[j_ b]:=ar hz
  have mK:(ky b).start=b.start:=rfl
  constructor
  ·rintro⟨s,h1,r',hr⟩
   rw[mK]at h1
   have hsN:=hv.st _ h1
   have hN0:0<b.ae.toNat:=by omega
   have ET: ∀i,∃k,k<b.aP.length∧ ∃e∈b.ao,(r' i:Int)=e.fr+((k*b.ae.toNat:Nat):Int)∧(r' (i+1):Int)=e.to+((ia b k e.fr*b.ae.toNat:Nat):Int)∧mw e (w i):=fun i=>by
    obtain⟨x,hx,h2,h3,h4⟩:=hr.st i
    rw[he]at hx
    obtain⟨k,hk,e,hem,rfl⟩:=o6.1 hx
    exact⟨k,hk,e,hem,h2.symm,h3.symm,h4⟩
   have hdm: ∀(x:Int) (k:Nat) (v:Nat),0≤x→x<b.ae→(v:Int)=x+((k*b.ae.toNat:Nat):Int)→v%b.ae.toNat=x.toNat∧v/b.ae.toNat=k:=fun x k v h2 h3 h4=>by
    have e1:v=b.ae.toNat*k+x.toNat:=by rw[Nat.mul_comm];omega
    rw[e1]
    exact⟨by rw[Nat.mul_add_mod,Nat.mod_eq_of_lt (by omega)],by rw[Nat.mul_add_div hN0,Nat.div_eq_of_lt (by omega),Nat.add_zero]⟩
   have RS: ∀i,∃e∈b.ao,e.fr=((r' i%b.ae.toNat:Nat):Int)∧e.to=((r' (i+1)%b.ae.toNat:Nat):Int)∧mw e (w i)∧r' (i+1)/b.ae.toNat=ia b (r' i/b.ae.toNat) ((r' i%b.ae.toNat:Nat):Int):=fun i=>by
    obtain⟨k,hk,e,hem,h2,h3,h4⟩:=ET i
    have h5:=hv.ed e hem
    have h6:=hdm _ _ _ h5.1.1 h5.1.2 h2
    have h7:=hdm _ _ _ h5.2.1 h5.2.2 h3
    refine⟨e,hem,by rw[h6.1,bq h5.1.1],by rw[h7.1,bq h5.2.1],h4,?_⟩
    rw[h7.2,h6.2,h6.1,bq h5.1.1]
   have hV: ∀i,r' (i+1)/b.ae.toNat=r' i/b.ae.toNat∨(((r' i%b.ae.toNat:Nat):Int)∈b.aP.getD (r' i/b.ae.toNat) []∧r' (i+1)/b.ae.toNat=(r' i/b.ae.toNat+1)%b.aP.length):=fun i=>by
    obtain⟨_,_,_,_,_,h2⟩:=RS i
    unfold ia at h2
    split at h2
    ·rename_i h3;exact .inr ⟨h3.1,h2⟩
    ·exact .inl h2
   have ua: ∀M,∃i,M≤i∧r' i/b.ae.toNat=b.aP.length-1∧((r' i%b.ae.toNat:Nat):Int)∈b.aP.getD (b.aP.length-1) []:=fun M=>by
    obtain⟨i,h2,h3⟩:=hr.inf (j_ b) (by rw[hs];simp) M
    obtain⟨x,hx,h4⟩:=List.mem_map.1 h3
    have h5:=hv.se _ (qX (show b.aP.length-1<b.aP.length by omega)) x hx
    have h6:=hdm x _ _ h5.1 h5.2 h4.symm
    exact⟨i,h2,h6.2,by rw[h6.1,bq h5.1];exact hx⟩
   refine⟨s,h1,fun i=>r' i%b.ae.toNat,?_,fun i=>?_,fun S hS M=>?_⟩
   ·show r' 0%_=s
    rw[hr.s,Nat.mod_eq_of_lt (by omega)]
   ·obtain⟨e,h2,h3,h4,h5,_⟩:=RS i;exact⟨e,h2,h3,h4,h5⟩
   ·obtain⟨j,hj,rfl⟩:=List.mem_iff_getElem.1 hS
    have hg:b.aP.getD j []=b.aP[j]:=by simp[hj]
    by_cases KG:j=b.aP.length-1
    ·obtain⟨i,h2,_,h4⟩:=ua M
     rw[←KG,hg]at h4
     exact⟨i,h2,h4⟩
    ·obtain⟨i,h2,h3,h4⟩:=ua M
     have h5:r' (i+1)/b.ae.toNat=0:=by
      obtain⟨_,_,_,_,_,h6⟩:=RS i
      rw[h6,h3]
      unfold ia
      rw[aA ⟨h4,by omega⟩,show b.aP.length-1+1=b.aP.length by omega,Nat.mod_self]
     obtain⟨i2,h6,h7,_⟩:=ua (i+1)
     obtain⟨L,rfl⟩:=Nat.exists_eq_add_of_le h6
     obtain⟨t,h8,h9,Mg⟩:=ER (n:=b.aP.length) (c:=fun i=>r' i/b.ae.toNat) (V:=fun k i=>((r' i%b.ae.toNat:Nat):Int)∈b.aP.getD k []) hV (a:=i+1) (j:=j) (by show r' (i+1)/_≤j;omega) L (by show j<r' (i+1+L)/_;omega)
     rw[hg]at Mg
     exact⟨t,by omega,Mg⟩
  ·rintro⟨s,h1,r,hr⟩
   obtain⟨c,EL,AM⟩: ∃c:Nat→Nat,c 0=0∧ ∀i,c (i+1)=ia b (c i) (r i):=
    ⟨fun i=>Nat.rec 0 (fun i k=>ia b k (r i)) i,F,fun i=>rfl⟩
   have fM: ∀i,c i<b.aP.length:=fun i=>by
    induction i with
    |zero=>rw[EL];omega
    |succ i ih=>rw[AM];exact sJ ih
   have yg: ∀a,∃t,a≤t∧c t=c a∧((r t:Nat):Int)∈b.aP.getD (c a) []:=fun a=>by
    obtain⟨t0,h2,h3⟩:=hr.inf _ (qX (fM a)) a
    obtain⟨u,h4,h5,h6⟩:=ES (P:=fun i=>((r i:Nat):Int)∈b.aP.getD (c a) []) h2 h3
    refine⟨u,h4,?_,h5⟩
    have key: ∀L,a+L≤u→c (a+L)=c a:=fun L=>by
     induction L with
     |zero=>intro _;rfl
     |succ L ih=>
      intro hL
      have h7:=ih (by omega)
      rw[←Nat.add_assoc,AM,h7]
      unfold ia
      rw[ar (fun q=>h6 (a+L) (by omega) (by omega) q.1)]
    obtain⟨L,rfl⟩:=Nat.exists_eq_add_of_le h4
    exact key L (aV _)
   have ua: ∀d a,b.aP.length-1-c a=d→ ∃t,a≤t∧c t=b.aP.length-1∧((r t:Nat):Int)∈b.aP.getD (b.aP.length-1) []:=fun d=>by
    induction d with
    |zero=>
     intro a ha
     have h2:=fM a
     obtain⟨t,h3,h4,h5⟩:=yg a
     have h6:c a=b.aP.length-1:=by omega
     rw[h6]at h4 h5
     exact⟨t,h3,h4,h5⟩
    |succ d ih=>
     intro a ha
     have h2:=fM a
     obtain⟨t,h3,h4,h5⟩:=yg a
     have h6:c (t+1)=c a+1:=by
      rw[AM,h4]
      unfold ia
      rw[aA ⟨h5,by omega⟩,Nat.mod_eq_of_lt (by omega)]
     obtain⟨t2,h7,h8⟩:=ih (t+1) (by omega)
     exact⟨t2,by omega,h8⟩
   refine⟨s,h1,fun i=>r i+c i*b.ae.toNat,by show r 0+c 0*_=s;rw[hr.s,EL];simp,fun i=>?_,fun S hS M=>?_⟩
   ·obtain⟨e,h2,h3,h4,h5⟩:=hr.st i
    refine⟨xN b (c i) e,by rw[he];exact o6.2 ⟨c i,fM i,e,h2,F⟩,?_,?_,h5⟩
    ·show e.fr+_=((r i+c i*b.ae.toNat:Nat):Int);rw[h3];omega
    ·show e.to+((ia b (c i) e.fr*b.ae.toNat:Nat):Int)=((r (i+1)+c (i+1)*b.ae.toNat:Nat):Int);rw[h4,h3,AM];omega
   ·rw[hs,bM]at hS
    subst hS
    obtain⟨t,h2,h3,h4⟩:=ua _ M F
    refine⟨t,h2,List.mem_map.2 ⟨_,h4,?_⟩⟩
    show((r t:Nat):Int)+_=((r t+c t*b.ae.toNat:Nat):Int)
    rw[h3];omega
def ln (b:Bu) (k i:Nat):List Ed:=n_ b k++(b.ao.take i).map (xN b k)
theorem J_ {b:Bu} {k i:Nat} (h:i<b.ao.length):ln b k (i+1)=ln b k i++[xN b k b.ao[i]]:=by
 unfold ln;rw[an h,aL,←bw];rfl
theorem u3 (b:Bu) (k:Nat):ln b k 0=n_ b k:=by unfold ln;simp
theorem ML (b:Bu) (k:Nat):ln b k b.ao.length=ln b (k+1) 0:=by
 rw[u3,yw];unfold ln;rw[List.take_length]
theorem MJ {b:Bu} {k i:Nat} (hi:i≤b.ao.length) (hk:k≤8) (hE:b.ao.length≤1000000):(ln b k i).length≤9000000:=by
 unfold ln
 rw[aI,A_,ag,bC]
 have:=Nat.mul_le_mul hk hE
 omega
theorem RX {b:Bu} {k:Nat} {x:Int} (hk:k<b.aP.length):((((oG b.aP x>>>k)&&&1:Nat):Int)=1)↔x∈b.aP.getD k []:=by
 have h1:((((oG b.aP x>>>k)&&&1:Nat):Int)=1)↔(oG b.aP x).testBit k=true:=by
  rw[←Nv];exact decide_eq_true_iff.symm
 rw[h1,jf,ah hk]
 have hg:b.aP.getD k []=b.aP[k]:=by simp[hk]
 rw[hg]
 constructor
 ·rintro⟨S,h1,h2⟩;cases h1;exact h2
 ·intro h2;exact⟨_,F,h2⟩
theorem qK {b:Bu} {k:Nat} {x:Int} (hk:k<b.aP.length):ia b k x=if((((oG b.aP x>>>k)&&&1:Nat):Int)=1)∧1<b.aP.length then(k+1)%b.aP.length else k:=by
 unfold ia
 simp only[RX hk]
theorem MM {b:Bu} (h:b.aP.length-1<b.aP.length):j_ b=b.aP[b.aP.length-1].map fun x=>x+(((b.aP.length-1)*b.ae.toNat:Nat):Int):=by
 unfold j_
 rw[show b.aP.getD (b.aP.length-1) []=b.aP[b.aP.length-1] by simp[h]]
theorem J8 (k:Nat):allI (k+1)=allI k++[(k:Int)]:=by unfold allI;rw[List.range_succ,aL];rfl
theorem D5 (k:Nat):(allI k).length=k:=by unfold allI;simp
theorem sh {α:Type} {l:List α} {k:Nat} (h:k<l.length) (v:α):(l.set k v).take (k+1)=l.take k++[v]:=by
 rw[an (by simpa using h),List.getElem_set_self,List.take_set_of_le (aV _)]
structure Sx (b:Bu) (p:dG):Prop where
 ZH:b7 p=0
 vars:p.vars=b.vars
 oW: ∀l:La,dA b.vars l=0→(mW p l.at%2=0↔Acc b l.at)
theorem Ol {b d:Bu} (hv:eJ b) (hd:eJ d) (VV:d.vars=b.vars) (hda: ∀w,Acc d w↔Acc b w) {Fs:List Int} {aa S0:Nat} (hs:d.aP=[Fs]) (hF: ∀q,aa.testBit q=true↔(q:Int)∈Fs) (hS: ∀q,S0.testBit q=true↔(q:Int)∈d.start)
  {ks:List (List Vx×Nat)} {rs:List (List Int)} (h:Q6 (yH d.ae.toNat d.ao aa) (2^b.vars.toNat) ([⟨0,S0⟩],1) ks ks.length rs) {pl:List Nat} (hp:pl.Pairwise (· < ·)) (hk: ∀k∈ks,k.2∈pl) (hn:ks.length≤4096) (Q3: ∀k∈ks,sz pl k.2≤16):
  Sx b ⟨b.vars,0,rs,ks.map fun k=>((sz pl k.2:Nat):Int)⟩:=by
 have yM:0<ks.length:=(List.getElem?_eq_some_iff.1 h.st).1
 have jU: ∀r∈rs,∃k,r=oB (yH d.ae.toNat d.ao aa) (2^b.vars.toNat) ks k∧ ∀x,x<2^b.vars.toNat→yH d.ae.toNat d.ao aa k x∈ks:=fun r hr=>by
  obtain⟨i,hi,rfl⟩:=List.mem_iff_getElem.1 hr
  have hik:i<ks.length:=by rw[←h.len];exact hi
  have h1:=h.row i _ hik (ah hik)
  rw[ah hi]at h1
  exact⟨_,cg h1,h.mem i _ hik (ah hik)⟩
 have hvp:cU ⟨b.vars,0,rs,ks.map fun k=>((sz pl k.2:Nat):Int)⟩:=by
  refine⟨⟨hv.v0,hv.v6,by show 0<rs.length;rw[h.len];exact yM,?_,Int.le_refl _,by show(0:Int)<(rs.length:Int);rw[h.len];omega,fun r hr=>?_,fun r hr x hx=>?_⟩,by show rs.length≤_;rw[h.len];exact hn,by show(ks.map _).length=rs.length;rw[ag,h.len],fun x hx=>?_⟩
  ·first
    |rfl
    |(show(ks.map _).length=rs.length;rw[ag,h.len])
    |simp[dG.d,h.len]
  ·obtain⟨k,rfl,_⟩:=jU r hr
   show(oB _ _ _ _).length=2^b.vars.toNat
   simp[oB]
  ·obtain⟨k,rfl,hm⟩:=jU r hr
   obtain⟨y,hy,rfl⟩:=List.mem_map.1 hx
   have:=nW (hm y (List.mem_range.1 hy))
   refine⟨by omega,?_⟩
   show _<((rs.length:Nat):Int)
   rw[h.len];omega
  ·obtain⟨k,hk9,rfl⟩:=List.mem_map.1 hx
   have:=Q3 k hk9
   omega
 refine⟨de.2 hvp,F,fun l hl=>?_⟩
 obtain⟨Ma,hp9,XO,_⟩:=qE hl
 have hw: ∀k,l.at k<2^b.vars.toNat:=by
  have:=y5 hvp (show dA b.vars l=0 from hl)
  exact fun k=>xF Ma this.pw this.lw k
 obtain⟨m,h1,h2⟩:=S8 hd Ma hs hF hS h (p:=⟨b.vars,0,rs,ks.map fun k=>((sz pl k.2:Nat):Int)⟩) F F hp hk F hw
 rw[k7 h1,h2,hda]
noncomputable def Ld (p:dG) (l:La):Bool:=decide (qt p l=0∧wP p l%2=0)
theorem Jx {p:dG} {l:La} (hp:b7 p=0) (hl:dA p.vars l=0):qt p l=0∧wP p l=mW p l.at∧Ld p l=decide (mW p l.at%2=0):=by
 have h0:qt p l=0:=y6.2 ⟨de.1 hp,hl⟩
 have h1:wP p l=mW p l.at:=aA h0
 exact⟨h0,h1,by unfold Ld;rw[h0,h1];simp⟩
theorem O5 {p q:dG} {l:La} (h0:qt p l=0) (h1:qt q l=0) (h2:wP p l%2=wP q l%2):Ld p l=Ld q l:=by
 unfold Ld;rw[h0,h1,h2]
theorem KX {b:Bu} {l:La} {p:dG} (h:Sx b p) (hv:eJ b) (hl:dA b.vars l=0):
  Ld p l=nf b l∧Ld (un p) l=nf b l∧Ld (kE (un p)) l=nf b l∧(wJ (kE (un p))=0→Ld (xf (kE (un p))) l=!nf b l):=by
 have VZ:dA p.vars l=0:=by rw[h.vars];exact hl
 have hvp:=de.1 h.ZH
 have jk:pa p l:=(y5 hvp VZ).ok
 obtain⟨a1,a2,a3⟩:=Jx h.ZH VZ
 have hr:=de.2 (Be h.ZH)
 have hrv:dA (un p).vars l=0:=by rw[(Le h.ZH).1];exact VZ
 obtain⟨b1,b2,b3⟩:=Jx hr hrv
 have hq:=O6 hr l
 have QZ:qt (kE (un p)) l=0:=by rw[hq.1];exact b1
 have e1:Ld p l=nf b l:=by
  rw[a3,fQ,bo,h.oW l hl,Lf hv hl]
 have e2:Ld (un p) l=nf b l:=by
  rw[←e1]
  refine O5 b1 a1 ?_
  rw[b2,a2];exact(O7 h.ZH jk).symm
 have e3:Ld (kE (un p)) l=nf b l:=by
  rw[←e2];exact O5 QZ b1 (by rw[hq.2])
 refine⟨e1,e2,e3,fun hc=>?_⟩
 obtain⟨c1,c2⟩:=Td hc l
 have c0:qt (xf (kE (un p))) l=0:=by rw[c1];exact QZ
 rw[←e3]
 unfold Ld
 rw[c0,QZ,c2 QZ]
 rcases Nat.mod_two_eq_zero_or_one (wP (kE (un p)) l)with e|e
 ·have e9:(wP (kE (un p)) l+1)%2=1:=by omega
  rw[e,e9];rfl
 ·have e9:(wP (kE (un p)) l+1)%2=0:=by omega
  rw[e,e9];rfl
structure iu (N:Nat) (t:List Vx):Prop where
 pw:PW t
 p0: ∀v:Vx,t[0]? =some v→v.par=0
 gV: ∀v∈t,v.gV<2^N
 len:t.length≤N+1
theorem iu.step {N:Nat} {es:List Ed} {aa x:Nat} {t:List Vx} (h:iu N t) (he: ∀e∈es,e.to.toNat<N):iu N (stepT es aa x t):=by
 have hi:=TI.step (aa:=aa) (x:=x) h.pw h.p0 he
 refine⟨hi.pw,hi.p0,fun v hv=>?_,Nat.le_succ_of_le hi.len⟩
 obtain⟨i,vM,rfl⟩:=List.mem_iff_getElem.1 hv
 refine Nat.lt_pow_two_of_testBit _ fun q hq=>?_
 cases c:(stepT es aa x t)[i].gV.testBit q with
 |false=>rfl
 |true=>have:=hi.bnd i _ (ah vM) q c;omega
theorem iu.start {N S0:Nat} (h:S0<2^N):iu N [⟨0,S0⟩]:=by
 refine⟨fun i v hv hi=>?_,fun v hv=>by cases hv;rfl,fun v hv=>by rw[List.mem_singleton.1 hv];exact h,by simp⟩
 have:=(List.getElem?_eq_some_iff.1 hv).1
 simp at this;omega
theorem iu.O_ {N:Nat} (hN:N≤63) {t:List Vx} (h:iu N t): ∀v∈t,v.gV<2^64:=fun v hv=>du (h.gV v hv) (dw (by decide) (by omega))
abbrev po:=List Vx×Nat
def mE (k:po):List UInt8×Int:=(kP k.1,(k.2:Int))
theorem Pb {N:Nat} (hN:N≤63) {k k':po} (h:iu N k.1) (h':iu N k'.1) (e:mE k=mE k'):k=k':=by
 obtain⟨t,p⟩:=k
 obtain⟨t',p'⟩:=k'
 have e1:kP t=kP t':=av Prod.fst e
 have e2:(p:Int)=(p':Int):=av Prod.snd e
 have e3:t=t':=S9 (h.O_ hN) (h'.O_ hN) e1
 have e4:p=p':=by omega
 subst e3;subst e4;rfl
theorem HM {N:Nat} (hN:N≤63) {ks:List po} (hk: ∀k∈ks,iu N k.1) {k:po} (h:iu N k.1):mE k∈ks.map mE↔k∈ks:=by
 constructor
 ·intro hm
  obtain⟨k',h1,h2⟩:=List.mem_map.1 hm
  rw[←Pb hN (hk k' h1) h h2];exact h1
 ·exact fun hm=>List.mem_map_of_mem hm
theorem V0 {N:Nat} (hN:N≤63): ∀ {ks:List po},(∀k∈ks,iu N k.1)→ ∀ {k:po},iu N k.1→ix (mE k) (ks.map mE)=ix k ks
 | [],_,k,h=>rfl
 |a::ks,hk,k,h=>by
  have ih:=V0 hN (ks:=ks) (fun k AK=>hk k (by simp[AK])) h
  show(if mE k=mE a then 0 else ix (mE k) (ks.map mE)+1)=if k=a then 0 else ix k ks+1
  rw[ih]
  by_cases c:k=a
  ·rw[aA c,aA (by rw[c])]
  ·rw[ar c,ar (fun e=>c (Pb hN h (hk a (by simp)) e))]
theorem SD {N:Nat} (hN:N≤63) {ks:List po} (hk: ∀k∈ks,iu N k.1) {k:po} (h:iu N k.1):eN (mE k) (ks.map mE).zipIdx=if k∈ks then some (ix k ks)else none:=by
 rw[ux,V0 hN hk h]
 by_cases c:k∈ks
 ·rw[aA ((HM hN hk h).2 c),aA c,Nat.zero_add]
 ·rw[ar (fun e=>c ((HM hN hk h).1 e)),ar c]
structure pm where
 b:Option Addr
 c:Nat
 qs:List VR
def pm.val (t:pm):Value:=.slice t.b t.qs.length t.c
def pm.row (V:TypeId) (t:pm):Item:=ak t.b t.c V 2 (gW t.qs)
def pm.Xf (V U:TypeId) (t:pm):List Item:=t.row V::f_ U t.qs
abbrev sZ (ts:List pm):List Value:=ts.map pm.val
abbrev r3 (V U:TypeId) (ts:List pm):List Item:=ts.flatMap (pm.Xf V U)
abbrev Te (ts:List pm):List (List Vx):=ts.map fun t=>iV t.qs
theorem Vo {ts:List pm} {i:Nat} (h:i<ts.length):(sZ ts)[i]? =some (.slice ts[i].b ts[i].qs.length ts[i].c):=by simp[h,pm.val]
theorem Tf (V U:TypeId) (ts:List pm) (t:pm):r3 V U (ts++[t])=r3 V U ts++t.Xf V U:=by simp[r3]
theorem Inv.X3 {base:World} {O:List Item} {w:World} (hI:Inv base O w) {V U:TypeId} {t:pm} (h: ∀x∈t.Xf V U,x∈O):XF w t.b t.qs:=
 ⟨rowP.sl (hI.holds _ (h _ List.mem_cons_self)),fun q hq=>rowP.sl (hI.holds _ (h _ (List.mem_cons_of_mem _ (List.mem_map.2 ⟨q,hq,F⟩))))⟩
def Ad (qs:List VR):Prop:= ∀q∈qs,q.m<18446744073709551616
theorem Ad.at {qs:List VR} (h:Ad qs) {i:Nat} (hi:i<qs.length):qs[i].m<18446744073709551616:=h _ (ap hi)
theorem Ad.of {N:Nat} (hN:N≤63) {qs:List VR} (h:iu N (iV qs)):Ad qs:=fun q hq=>h.O_ hN ⟨q.par,q.m⟩ (List.mem_map.2 ⟨q,hq,F⟩)
theorem gU (qs:List VR):(iV qs).length=qs.length:=ag _
theorem Cs (qs:List VR) (q:VR):iV (qs++[q])=iV qs++[⟨q.par,q.m⟩]:=by simp[iV,ud]
theorem Yr (qs:List VR) (i:Nat) (q:VR):iV (qs.set i q)=(iV qs).set i ⟨q.par,q.m⟩:=List.map_set
theorem NP {qs:List VR} {i:Nat} (h:i<qs.length):(iV qs).getD i ju=⟨qs[i].par,qs[i].m⟩:=by rw[aj,pQ h];rfl
theorem Sf {es:List Ed} {x:Nat} {t:List Vx} {i:Nat} (h:i<t.length):I9 es x (t.take (i+1))=I9 es x (t.take i)++[⟨t[i].par,qq es x t[i].gV⟩]:=by
 unfold I9;rw[an h,aL];rfl
theorem Si {n1:List Vx} {aa k:Nat} (h:(n1.getD k ju).gV&&&aa≠0):ra n1 aa (k+1)=ra n1 aa k++[⟨k,(n1.getD k ju).gV&&&aa⟩]:=by rw[ra,ar h]
theorem XJ {n1:List Vx} {aa k:Nat} (h:(n1.getD k ju).gV&&&aa=0):ra n1 aa (k+1)=ra n1 aa k:=by rw[ra,aA h]
theorem ag5 {n1 m:List Vx} {k:Nat} (h:k<n1.length):(n1++m).getD k ju=n1.getD k ju:=by
 rw[aj,aj,bG h]
structure Ae (cs:List VR) (N:List Vx) (i:Nat):Prop where
 len:cs.length=N.length
 cv: ∀p (h:p<cs.length),cs[p].m=iW (gu (N.take i)) p
abbrev gp:VR:=⟨0,0,none,0⟩
theorem Ae.start (N:List Vx):Ae (List.replicate N.length gp) N 1:=⟨by simp,fun p h=>by rw[Tc];simp⟩
theorem KK {N:List Vx} {i:Nat} {v:Vx} {qs cs:List VR} (hi:1≤i) (hv:N[i]? =some v) (hp:v.par<i) (hq:iV qs=nR N i) (hc:Ae cs N i) {q r:VR} (h1:q.par=v.par) (h2:q.m=FC N i v) (h3:r.m=iW (gu (N.take i)) v.par|||FC N i v):
  iV (qs.set i q)=nR N (i+1)∧Ae (cs.set v.par r) N (i+1):=by
 refine⟨by rw[Yr,hq,Lc hi hv hp,h1,h2],by rw[fR];exact hc.len,fun p h=>?_⟩
 rw[fR]at h
 rw[O0 hi hv hp,List.getElem_set]
 by_cases e:v.par=p
 ·rw[aA e,aA e,h3,←e]
 ·rw[ar e,ar e];exact hc.cv p h
theorem acd {N:List Vx} {i:Nat} {qs:List VR} (hq:iV qs=nR N i) (hi:i<qs.length):N[i]? =some ⟨qs[i].par,qs[i].m⟩:=by
 have hl:qs.length=N.length:=by rw[←gU,hq,EX]
 rw[←Ta (N:=N) (i:=i) (by omega) (aV i),←hq]
 exact pQ hi
theorem adx {N:List Vx} {i p:Nat} {qs:List VR} (hq:iV qs=nR N i) (hp:p<qs.length):((nR N i).getD p ju).gV=qs[p].m:=by rw[←hq,NP hp]
theorem Vc {N:List Vx} {i:Nat} {qs cs:List VR} (hq:iV qs=nR N i) (hc:Ae cs N i) (hi:i<qs.length) (hp:qs[i].par<qs.length) (wH:qs[i].par<cs.length):FC N i ⟨qs[i].par,qs[i].m⟩=oa (qs[i].m&&&qs[qs[i].par].m) cs[qs[i].par].m:=by
 unfold FC
 rw[adx hq hp,hc.cv _ wH]
theorem Ae.fin {cs:List VR} {N:List Vx} {i:Nat} (h:Ae cs N i) (hi:N.length≤i) {p:Nat} (hp:p<cs.length):cs[p].m=iW (gu N) p:=by rw[h.cv p hp,aN hi]
open Go.RowKit Lib
def w8 (p:Nat) (l:List Nat):List UInt8:=decDigits p++58::l.flatMap fun s=>decDigits s++[32]
theorem JB (v:Vx):w8 v.par (eO v.gV)=vxT v:=rfl
theorem R_ (p:Nat):w8 p []=decDigits p++[58]:=rfl
theorem NM (p:Nat) (l:List Nat) (s:Nat):w8 p (l++[s])=w8 p l++(decDigits s++[32]):=by
 unfold w8;rw[List.flatMap_append];simp
theorem Cp {k m:Nat} (h:m<10^(k+1)):(decDigits m).length≤k+1:=w7 k m h
theorem I7 {p:Nat} {l:List Nat} (hp:p<1000) (hl: ∀s∈l,s<64):(w8 p l).length≤4+3*l.length:=by
 have h1:=Cp (k:=2) (m:=p) (by omega)
 have h2: ∀(l:List Nat),(∀s∈l,s<64)→(l.flatMap fun s=>decDigits s++[32]).length≤3*l.length:=by
  intro l
  induction l with
  |nil=>intro _;simp
  |cons a l ih=>
   intro h
   have h3:=Cp (k:=1) (m:=a) (by have:=h a (by simp);omega)
   have h4:=ih fun s hs=>h s (by simp[hs])
   simp only[List.flatMap_cons,aI,cd,eD]
   omega
 have:=h2 l hl
 unfold w8
 rw[aI,cd]
 omega
theorem I6: ∀ {t:List Vx},(∀v∈t,v.par<1000)→(kP t).length≤200*t.length
 | [],_=>by simp[kP]
 |v::t,h=>by
  have ih:=I6 (t:=t) fun v hv=>h v (by simp[hv])
  have h1:=I7 (p:=v.par) (l:=eO v.gV) (h v (by simp)) (fun s hs=>(q6.1 hs).1)
  have h2:(eO v.gV).length≤64:=yx _
  rw[JB]at h1
  unfold kP at ih⊢
  rw[List.flatMap_cons,aI,cd]
  omega
theorem NI {t:List Vx} {i:Nat} (h:i<t.length):kP (t.take (i+1))=kP (t.take i)++w8 t[i].par (eO t[i].gV):=by
 rw[an h,OV,JB]
theorem Sc {qs:List VR} {i:Nat} (h:i<qs.length) {q:VR} (hp:q.par=qs[i].par):dq (gW qs) (i*2+1) [q.set]=gW (qs.set i q):=by
 apply List.ext_getElem?
 intro j
 have hl:=dP qs
 rw[tT _ _ _ _ (by rw[hl];show i*2+1+1≤_;omega)]
 by_cases hj:j<qs.length*2
 ·have h1:=og (qs:=qs.set i q) (i:=j/2) (by simp;omega) (j%2) (by omega)
  have h2:=og (qs:=qs) (i:=j/2) (by omega) (j%2) (by omega)
  rw[show j/2*2+j%2=j by omega]at h1 h2
  rw[h1,h2,List.getElem_set]
  by_cases hk:i=j/2
  ·by_cases Jj:j%2=1
   ·rw[aA (by show _∧j<i*2+1+1;omega),aA hk,Jj,show j-(i*2+1)=0 by omega];rfl
   ·have hk3:j%2=0:=by omega
    rw[ar (by show¬(_∧j<i*2+1+1);omega),aA hk,hk3]
    show(qs[j/2].cells)[0]? =(q.cells)[0]?
    have e:qs[j/2].par=q.par:=by rw[hp];congr 1;simp[hk]
    simp[VR.cells,e]
  ·rw[ar (by show¬(_∧j<i*2+1+1);omega),ar hk]
 ·rw[ar (by show¬(_∧j<i*2+1+1);omega),dL (by omega),dL (by rw[dP];simp;omega)]
theorem Sd {cs:List VR} {p:Nat} (h:p<cs.length) (r:VR):dq (oy cs) p [r.set]=oy (cs.set p r):=by
 show dq (cs.map VR.set) p [r.set]=(cs.set p r).map VR.set
 rw[List.map_set]
 simp[dq]
theorem w_ {U:TypeId} {cs:List VR} {p:Nat} (h:p<cs.length) {X Y:List Item}:cs[p].jS U∈X++(Y++f_ U cs):=bl _ (bl _ (List.mem_map.2 ⟨cs[p],ap h,F⟩))
theorem Se {U:TypeId} {X:List Item} {qs cs:List VR} {i p:Nat} (hi:i<qs.length) (hp:p<cs.length) (q r:VR):Sub (X++(f_ U (qs.set i q)++f_ U (cs.set p r))) (r.jS U::q.jS U::(X++(f_ U qs++f_ U cs))):=by
 have h1:=OY (U:=U) hi q X (f_ U cs)
 have h2:Sub (X++(f_ U (qs.set i q)++(f_ U (cs.set p r)++[]))) (r.jS U::(X++(f_ U (qs.set i q)++(f_ U cs++[])))):=by
  have h3:=OY (U:=U) hp r (X++f_ U (qs.set i q)) []
  rw[bw,bw]at h3
  exact h3
 rw[bZ,bZ]at h2
 exact h2.trans (Sub.k h1)
theorem Inv.Ja {base:World} {O:List Item} {w:World} (h:Inv base O w) (U:TypeId): ∀n:Nat,Inv base (f_ U (List.replicate n gp)++O) w
 |0=>h
 |n+1=>by
  have:=(Inv.Ja h U n).dH U 1
  exact this
theorem T.Ja {P:Program} {r:Option Nat} {base:World} {n:Nat} {c:Code} {Q:iT} {ρ:Env} {O:List Item} (U:TypeId) (k:Nat) (h:T P r base n c Q ρ (O++f_ U (List.replicate k gp))):T P r base n c Q ρ O:=
 fun a w M D hM ha hi=>h a w M D hM ha ((hi.Ja U k).perm (by
  have h1:(O++f_ U (List.replicate k gp)).Perm (f_ U (List.replicate k gp)++O):=List.perm_append_comm
  have h2:=h1.append_right (mI D++M)
  rw[bw (f_ U (List.replicate k gp)) O]at h2
  exact h2))
theorem Sj (n:Nat):oy (List.replicate n gp)=List.replicate n (.slice none 0 0):=by simp[gp,VR.set,S_]
def jh (qs:List VR):Prop:= ∀q∈qs,q.m<1024
theorem jh.nil:jh []:=fun q h=>(List.not_mem_nil h).elim
theorem jh.w {qs:List VR} (h:jh qs):Ad qs:=fun q hq=>Nat.lt_trans (h q hq) (by decide)
theorem jh.at {qs:List VR} (h:jh qs) {i:Nat} (hi:i<qs.length):qs[i].m<1024:=h _ (ap hi)
theorem jh.snoc {qs:List VR} (h:jh qs) {q:VR} (hq:q.m<1024):jh (qs++[q]):=fun x hx=>by
 rcases List.mem_append.1 hx with hx|hx
 ·exact h x hx
 ·rw[List.mem_singleton.1 hx];exact hq
theorem jh.put {qs:List VR} (h:jh qs) {i:Nat} {q:VR} (hq:q.m<1024):jh (qs.set i q):=fun x hx=>by
 rcases List.mem_or_eq_of_mem_set hx with hx|hx
 ·exact h x hx
 ·rw[hx];exact hq
theorem jh.zero (n:Nat):jh (List.replicate n gp):=fun q hq=>by rw[List.eq_of_mem_replicate hq];decide
theorem jh.of {N:Nat} (hN:N≤10) {qs:List VR} (h:iu N (iV qs)):jh qs:=fun q hq=>du (h.gV ⟨q.par,q.m⟩ (List.mem_map.2 ⟨q,hq,F⟩)) (dw (n:=2) (by decide) hN)
theorem Sh {U:TypeId} {qs:List VR} {i:Nat} (h:i<qs.length) {X:List Item}:qs[i].jS U∈X++f_ U qs:=bl _ (List.mem_map.2 ⟨qs[i],ap h,F⟩)
theorem I_ (U:TypeId) (qs:List VR) (q:VR) (X:List Item):Sub (X++f_ U (qs++[q])) (q.jS U::(X++f_ U qs)):=by
 refine gY (D:=[]) ?_
 rw[bZ]
 show(X++(qs++[q]).map (VR.jS U)).Perm _
 rw[aL,←bw]
 exact List.perm_append_comm
def ij (nv:List Vx) (i:Nat):List Bool:=zZ (uz nv) i++List.replicate (nv.length-i) false
theorem KN (nv:List Vx):ij nv 0=List.replicate nv.length false:=rfl
theorem kj {nv:List Vx} {i:Nat} (h:i≤nv.length):(ij nv i).length=nv.length:=by unfold ij;rw[aI,jO,List.length_replicate];omega
theorem Tg {nv:List Vx} {i j:Nat} (h:i≤nv.length) (hj:j<i):(ij nv i)[j]? =some (dO nv j):=by
 unfold ij
 rw[bG (by rw[jO];exact hj)]
 have h1:=Jw h hj
 rw[aj]at h1
 rw[ah (by rw[jO];exact hj)]at h1⊢
 rw[←h1];rfl
theorem Pf {nv:List Vx} {i:Nat} (h:i<nv.length):(ij nv i).set i (dO nv i)=ij nv (i+1):=by
 unfold ij
 rw[List.set_append_right _ _ (by rw[jO];exact aV _),jO,eG,O3 h,show nv.length-i=(nv.length-(i+1))+1 by omega,List.replicate_succ,da,bw]
 rfl
theorem E0 (nv:List Vx):ij nv nv.length=fa nv:=by unfold ij fa;rw[eG];simp
theorem ug {nv:List Vx} {i:Nat} (h:i<nv.length):dq (bv (ij nv i)) i [.bool (dO nv i)]=bv (ij nv (i+1)):=by
 rw[←Pf h]
 show _=((ij nv i).set i (dO nv i)).map Value.bool
 rw[List.map_set]
 simp[dq]
theorem NW {p:Nat→Bool} {lR k:Nat} (h:p k=true):rN p lR (k+1)=min (rN p lR k) k:=by rw[rN,aA h]
theorem Jc {p:Nat→Bool} {lR k:Nat} (h:p k=false):rN p lR (k+1)=rN p lR k:=by rw[rN,ar (by rw[h];decide)]
theorem Sp {nv:List Vx} {i:Nat} (h1:dO nv i=false) (h2:iW nv i=(nv.getD i ju).gV):rh nv i=true:=by unfold rh;rw[h1,bz h2];rfl
theorem NX {nv:List Vx} {i:Nat} (h:dO nv i=true∨iW nv i≠(nv.getD i ju).gV):rh nv i=false:=by
 unfold rh
 rcases h with h|h
 ·rw[h];rfl
 ·rw[bT h,Bool.and_false]
structure Q0 (ys:List Nat) (nv:List Vx) (i:Nat):Prop where
 len:ys.length=nv.length
 at_: ∀j,j<i→dO nv j=false→ys.getD j 0=lk (fa nv) j
theorem Q0.start (nv:List Vx):Q0 (List.replicate nv.length 0) nv 0:=⟨by simp,fun j h=>absurd h (Nat.not_lt_zero _)⟩
theorem Q0.no {ys:List Nat} {nv:List Vx} {i:Nat} (h:Q0 ys nv i) (hg:dO nv i=true):Q0 ys nv (i+1):=⟨h.len,fun j hj hn=>by
 by_cases e:j=i
 ·subst e;rw[hg]at hn;cases hn
 ·exact h.at_ j (by omega) hn⟩
theorem Q0.UE {ys:List Nat} {nv:List Vx} {i:Nat} (h:Q0 ys nv i) (hi:i<nv.length):Q0 (ys.set i (lk (fa nv) i)) nv (i+1):=⟨by rw[fR];exact h.len,fun j hj hn=>by
 rw[aj,List.getElem?_set]
 by_cases e:i=j
 ·subst e;rw[aA F,aA (by rw[h.len];exact hi)];rfl
 ·rw[ar e,←aj];exact h.at_ j (by omega) hn⟩
def kD (qs:List VR) (gs:List Bool):Nat→List VR
 |0=>[]
 |k+1=>if gs.getD k false=true then kD qs gs k else kD qs gs k++[⟨lk gs (qs.getD k gp).par,(qs.getD k gp).m,(qs.getD k gp).b,(qs.getD k gp).k⟩]
theorem Cx {qs:List VR} {nv:List Vx} (h:iV qs=nv): ∀k,k≤qs.length→iV (kD qs (fa nv) k)=vy nv (fa nv) k
 |0,_=>rfl
 |k+1,hk=>by
  have ih:=Cx h k (by omega)
  have e:nv.getD k ju=⟨(qs.getD k gp).par,(qs.getD k gp).m⟩:=by
   have fM:k<qs.length:=by omega
   rw[←h,NP fM];simp[fM]
  rw[kD,vy,e]
  split
  ·exact ih
  ·rw[Cs,ih]
theorem E1 {qs:List VR} {gs:List Bool} {k:Nat} (h:gs.getD k false=true):kD qs gs (k+1)=kD qs gs k:=by rw[kD,aA h]
theorem Jd {qs:List VR} {gs:List Bool} {k:Nat} (h:gs.getD k false=false) (hk:k<qs.length):kD qs gs (k+1)=kD qs gs k++[⟨lk gs qs[k].par,qs[k].m,qs[k].b,qs[k].k⟩]:=by
 rw[kD,ar (by rw[h];decide)];simp[hk]
theorem FH (U:TypeId) {qs:List VR} {gs:List Bool}: ∀k,k≤qs.length→(f_ U (kD qs gs k)).Sublist (f_ U (qs.take k))
 |0,_=>aX _
 |k+1,hk=>by
  have ih:=FH U (qs:=qs) (gs:=gs) k (by omega)
  have fM:k<qs.length:=by omega
  rw[an fM]
  show List.Sublist _ (List.map (VR.jS U) (qs.take k++[qs[k]]))
  rw[aL]
  by_cases h:gs.getD k false=true
  ·rw[E1 h];exact ih.trans (List.sublist_append_left _ _)
  ·rw[Jd (by simpa using h) fM]
   show List.Sublist (List.map (VR.jS U) (_++_)) _
   rw[aL]
   exact ih.append (ay _)
theorem Pg (U:TypeId) (qs:List VR) (gs:List Bool):(f_ U (kD qs gs qs.length)).Sublist (f_ U qs):=by
 have:=FH U (qs:=qs) (gs:=gs) qs.length (aV _)
 rwa[List.take_length]at this
theorem NZ {qs:List VR} {nv:List Vx} (h:iV qs=nv) {k:Nat} (hk:k≤qs.length):(kD qs (fa nv) k).length=lk (fa nv) k:=by
 rw[←gU,Cx h k hk,o9 k (by rw[kY,←h,gU];exact hk)]
theorem HJ {nv:List Vx} {i j:Nat} (h:i≤nv.length) (hj:j<i):(bv (ij nv i))[j]? =some (.bool (dO nv j)):=by
 rw[bc,Tg h hj];rfl
theorem XQ {nv:List Vx} {j:Nat} (hj:j<nv.length):(bv (fa nv))[j]? =some (.bool (dO nv j)):=by
 rw[←E0];exact HJ (aV _) hj
theorem Sq (U:TypeId) (qs:List VR) (gs:List Bool) (a:Item):Sub ([a]++f_ U (kD qs gs qs.length)) (a::f_ U qs):=bj (List.Sublist.cons_cons _ (Pg U qs gs))
theorem Cw {P:Program} {base:World} {ρ:Env} {O:List Item} {fn:Func} {R:Value→List Item→Prop} {a i c e:Nat} {T E:TypeId} {d:TypeDesc} {b:Nat} {v:Value} (u x:Value) {cs:List Value} {fr:Nat×Nat} (hr:fn.results= #[.cell a T,.tmp c,.tmp e]) (hu:P.underlying T=some d) (ha:nr d=false)
  (hp:ρ a=.pointer (some ⟨b,0,none⟩)) (hO:O[i]? =some (eL b (.cells (v::cs).toArray E fr))) (UW:ρ c=u) (he':ρ e=x)
  (h:R (.tuple #[v,u,x]) O):pk P base fn ρ O R:=
 ⟨⟨_,O,bj (ay _),h,fun w tmps hI ht=>by
  have h1:=mS (P:=P) hu ha (hI.qU hO)
  have AZ:=ht a
  have hc:=ht c
  have he:=ht e
  simp only[dh]at AZ hc he
  simp[results,hr,AZ,hc,he,hp,UW,he',asAddr,h1]⟩⟩
theorem gm {l:List Int} {v:Nat} (h:v<l.length):l.getD v (-1)=l[v]:=by simp[h]
theorem FP:Aw qJ:=⟨aG _,aG _,aG _,fun r hr=>(by cases hr),fun e he=>(by cases he)⟩
theorem Ji {b:Bu} (hB:Aw b):Aw (eU b):=by
 by_cases he:cC b=0
 ·have hv:=gE.1 he
  rw[k8 hv]
  refine⟨cT (zd _ _) hB.st,cT (C1 _ _) hB.ed,by show(b.aP.map _).length≤_;rw[ag];exact hB.se,fun r hr=>?_,fun e he=>?_⟩
  ·obtain⟨s,h1,rfl⟩:=List.mem_map.1 hr
   exact cT (zd _ _) (hB.sr s h1)
  ·obtain⟨x,hx,_,_,rfl⟩:=rO.1 he
   exact hB.pn x hx
 ·rw[show eU b=qJ by unfold eU;rw[ar he]]
  exact FP
theorem adA {b:Bu} (hB:Aw b) (hE:b.ao.length≤100000):Aw (AG b):=by
 by_cases he:rX b=0
 ·obtain⟨hv,hn⟩:=KE he
  have L_:=hv.m8;have hv4:=hv.n4
  rw[show AG b=ky b by unfold AG;rw[aA he]]
  by_cases hz:b.aP.length=0
  ·have e1:(ky b).ao=b.ao:=aA hz
   have e2:(ky b).aP=[allI b.ae.toNat]:=aA hz
   refine⟨hB.st,by rw[e1];exact hB.ed,by rw[e2];simp,fun r hr=>?_,fun e he=>hB.pn e (by rw[e1]at he;exact he)⟩
   rw[e2,bM]at hr
   subst hr
   rw[D5];omega
  ·have e1:(ky b).ao=n_ b b.aP.length:=ar hz
   have e2:(ky b).aP=[j_ b]:=ar hz
   refine⟨hB.st,?_,by rw[e2];simp,fun r hr=>?_,fun e he=>?_⟩
   ·rw[e1,A_]
    have:=Nat.mul_le_mul L_ hE;omega
   ·rw[e2,bM]at hr
    subst hr
    unfold j_;rw[ag]
    exact hB.sr _ (qX (by omega))
   ·rw[e1]at he
    obtain⟨k,_,x,hx,rfl⟩:=o6.1 he
    exact hB.pn x hx
 ·rw[show AG b=qJ by unfold AG;rw[ar he]]
  exact FP
structure ahK (b d:Bu) (Fs:List Int):Prop where
 vd:eJ d
 vars:d.vars=b.vars
 oW: ∀w,Acc d w↔Acc b w
 n10:d.ae.toNat≤10
 se:d.aP=[Fs]
 ed: ∀e∈d.ao,0≤e.fr∧e.fr.toNat<64∧0≤e.to∧e.to.toNat<64
 edn: ∀e∈d.ao,e.to.toNat<d.ae.toNat
 pn: ∀e∈d.ao,e.pos<256∧e.neg<256
 el:d.ao.length≤1000000
 fs: ∀x∈Fs,0≤x∧x.toNat<d.ae.toNat
 st: ∀x∈d.start,0≤x∧x.toNat<d.ae.toNat
 fl:Fs.length≤1000000
 sl:d.start.length≤1000000
theorem Sy {b:Bu} (hv:eJ b) (h5:b.ae≤5) (h2:b.aP.length≤2) (hB:Aw b) (hE:b.ao.length≤100000):rX (eU b)=0∧ ∃Fs,ahK b (AG (eU b)) Fs:=by
 have ht:=y7 hv
 have mB:=Tj hv
 have IZ:(eU b).aP.length=b.aP.length:=by rw[k8 hv];show(b.aP.map _).length=_;rw[ag]
 have hel:(eU b).ao.length≤b.ao.length:=by rw[k8 hv];exact C1 _ _
 have GU:(eU b).vars=b.vars:=by rw[k8 hv];rfl
 have h0:=ht.n0
 have hN5:(eU b).ae.toNat≤5:=by omega
 have hm:(eU b).aP.length*(eU b).ae.toNat≤2*5:=Nat.mul_le_mul (by omega) hN5
 have Q2:rX (eU b)=0:=by
  unfold rX
  rw[ar (fun q=>q (gE.2 ht)),ar (by omega)]
 have hdd:AG (eU b)=ky (eU b):=aA Q2
 have hdB:=adA (Ji hB) (by omega)
 have Yu:=KF ht (by omega)
 refine⟨Q2,?_⟩
 rw[hdd]at hdB⊢
 have hs: ∃Fs,(ky (eU b)).aP=[Fs]:=by
  by_cases hz:(eU b).aP.length=0
  ·exact⟨_,aA hz⟩
  ·exact⟨_,ar hz⟩
 obtain⟨Fs,hs⟩:=hs
 have mK:(ky (eU b)).ae.toNat=(eU b).ae.toNat*max (eU b).aP.length 1:=Int.toNat_natCast _
 have Mg:(ky (eU b)).ae.toNat≤10:=by
  rw[mK]
  exact cT (Nat.mul_le_mul hN5 (show max (eU b).aP.length 1≤2 by omega)) (by decide)
 refine⟨Fs,Yu,GU,fun w=>(RW ht (by omega)).trans (Ph hv),Mg,hs,fun e he=>?_,fun e he=>?_,hdB.pn,hdB.ed,fun x hx=>?_,fun x hx=>?_,?_,hdB.st⟩
 ·have:=Yu.ed e he;omega
 ·have:=Yu.ed e he;omega
 ·have:=Yu.se Fs (by rw[hs];exact List.mem_singleton_self _) x hx;omega
 ·have:=Yu.st x hx;omega
 ·exact hdB.sr Fs (by rw[hs];exact List.mem_singleton_self _)
theorem yE {l:List Int} (h: ∀x∈l,0≤x):ints l=bn (l.map Int.toNat):=by
 show _=(l.map Int.toNat).map _
 rw[List.map_map]
 apply List.map_congr_left
 intro x hx
 have:=h x hx
 show Value.int .i64 x=Value.int .i64 ((x.toNat:Nat):Int)
 rw[bq this]
theorem HN {l:List Int} (h: ∀x∈l,0≤x) (q:Nat):(lr (l.map Int.toNat)).testBit q=true↔(q:Int)∈l:=by
 rw[FG,e_]
 constructor
 ·rintro⟨x,hx,rfl⟩
  have:=h x hx
  rw[bq this];exact hx
 ·exact fun hq=>⟨_,hq,Int.toNat_natCast q⟩
theorem SA {V U:TypeId} {ts:List pm} {i:Nat} (h:i<ts.length) {X Y:List Item}: ∀x∈ts[i].Xf V U,x∈X++(r3 V U ts++Y):=fun x hx=>bl _ (a_ _ (List.mem_flatMap.2 ⟨ts[i],ap h,hx⟩))
theorem SE (V U:TypeId) (ts:List pm) (t:pm) (X Y:List Item):Sub (X++(r3 V U (ts++[t])++Y)) (t.row V::(X++(f_ U t.qs++(r3 V U ts++Y)))):=by
 refine Sub.cO [] fun a=>?_
 rw[Tf]
 simp only[pm.Xf,bZ,fF,gg]
 omega
theorem SH (E:TypeId) (qs:List Rec) (r:Rec) (X T:List Item):Sub (X++(T++bQ E (qs++[r]))) (r.jS E::(X++(T++bQ E qs))):=by
 refine Sub.cO [] fun a=>?_
 simp only[bQ,aL,bL,df,bZ,fF,gg,jq]
 omega
theorem Oa {qs:List Rec} {l:List Int} (h:nums qs=[l]): ∃r,qs=[r]∧r.xs=l:=by
 match qs,h with
 | [r],h=>exact⟨r,F,by simpa[nums]using h⟩
theorem KR (A B X Y:List Item) (h:Sub A B):Sub (A++Y) (B++(X++Y)):=by
 obtain⟨l,h1,h2⟩:=h
 exact⟨l++Y,h1.append_right Y,h2.append (List.sublist_append_right X Y)⟩
structure CB (N:Nat) (es:List Ed) (aa:Nat) (k0:po) (L:Nat) (ks:List po) (ts:List pm) (s:Nat) (rs:List (List Int)):Prop where
 ex:Q6 (yH N es aa) L k0 ks s rs
 tx:Te ts=ks.map Prod.fst
 gd: ∀k∈ks,iu N k.1
 le:ks.length≤300
structure yF (N:Nat) (es:List Ed) (aa:Nat) (k0:po) (HY ks:List po) (ts:List pm) (k:po) (x:Nat) (ys:List Int):Prop where
 ex:VY (yH N es aa) k0 HY ks k x ys
 tx:Te ts=ks.map Prod.fst
 gd: ∀k∈ks,iu N k.1
 le:ks.length≤300
theorem Oe {ks:List po} {ts:List pm} (h:Te ts=ks.map Prod.fst):ts.length=ks.length:=by
 have:=av List.length h
 simpa[Te]using this
theorem acF {ks:List po} {ts:List pm} (h:Te ts=ks.map Prod.fst) {i:Nat} {k:po} (hk:ks[i]? =some k) (hi:i<ts.length):iV ts[i].qs=k.1:=by
 have h1:(Te ts)[i]? =some (iV ts[i].qs):=by simp[Te,hi]
 rw[h,bc,hk]at h1
 exact(cg h1).symm
theorem CB.zero {N:Nat} {es:List Ed} {aa L:Nat} {k0:po} {t0:pm} (h:iV t0.qs=k0.1) (hg:iu N k0.1):CB N es aa k0 L [k0] [t0] 0 []:=
 ⟨Q6.zero _ _ _,by simp[Te,h],fun k hk=>by rw[List.mem_singleton.1 hk];exact hg,by simp⟩
theorem CB.row {N:Nat} {es:List Ed} {aa L s:Nat} {k0 k:po} {ks:List po} {ts:List pm} {rs:List (List Int)} (h:CB N es aa k0 L ks ts s rs):yF N es aa k0 ks ks ts k 0 []:=⟨VY.zero h.ex.nd,h.tx,h.gd,h.le⟩
theorem yF.lR {N:Nat} {es:List Ed} {aa x:Nat} {k0 k:po} {HY ks:List po} {ts:List pm} {ys:List Int} (h:yF N es aa k0 HY ks ts k x ys) (hm:yH N es aa k x∈ks):yF N es aa k0 HY ks ts k (x+1) (ys++[((ix (yH N es aa k x) ks:Nat):Int)]):=by
 have h1:=h.ex.step
 have e:add ks (yH N es aa k x)=ks:=aA hm
 rw[e]at h1
 exact⟨h1,h.tx,h.gd,h.le⟩
theorem yF.new {N:Nat} {es:List Ed} {aa x:Nat} {k0 k:po} {HY ks:List po} {ts:List pm} {ys:List Int} (h:yF N es aa k0 HY ks ts k x ys) (hm:yH N es aa k x∉ks) (hg:iu N (yH N es aa k x).1) {t:pm} (ht:iV t.qs=(yH N es aa k x).1) (hl:ks.length<300):
  yF N es aa k0 HY (ks++[yH N es aa k x]) (ts++[t]) k (x+1) (ys++[((ks.length:Nat):Int)]):=by
 have h1:=h.ex.step
 have e:add ks (yH N es aa k x)=ks++[yH N es aa k x]:=ar hm
 rw[e,ku hm]at h1
 have e2:ix (yH N es aa k x) [yH N es aa k x]=0:=by simp[ix]
 rw[e2,Nat.add_zero]at h1
 refine⟨h1,by rw[aL,←h.tx];simp[Te,ht],fun q hq=>?_,by simp;omega⟩
 rcases List.mem_append.1 hq with hq|hq
 ·exact h.gd q hq
 ·rw[List.mem_singleton.1 hq];exact hg
theorem CB.next {N:Nat} {es:List Ed} {aa L s:Nat} {k0 k:po} {ks ms:List po} {ts us:List pm} {rs:List (List Int)} {ys:List Int} (h:CB N es aa k0 L ks ts s rs) (hk:ks[s]? =some k) (g:yF N es aa k0 ks ms us k L ys):CB N es aa k0 L ms us (s+1) (rs++[ys]):=
 ⟨h.ex.snoc hk g.ex,g.tx,g.gd,g.le⟩
theorem yF.len {N:Nat} {es:List Ed} {aa x:Nat} {k0 k:po} {HY ks:List po} {ts:List pm} {ys:List Int} (h:yF N es aa k0 HY ks ts k x ys):ys.length=x∧HY<+:ks:=⟨by rw[h.ex.row];simp,h.ex.pre⟩
theorem X2 (N:Nat) (es:List Ed) (aa x:Nat) (t:List Vx):GS N es aa x t=if kM es aa x t=t.length∧mU es aa x t=t.length then 1 else(if mU es aa x t<kM es aa x t∧mU es aa x t<N+1 then 2*(N+1-mU es aa x t)+2 else if 0<kM es aa x t∧kM es aa x t<N+1 then 2*(N+1-kM es aa x t)+3 else 1):=rfl
theorem SF (ks:List po) (k:po):((ks++[k]).map mE).zipIdx=(ks.map mE).zipIdx++[(mE k,ks.length)]:=by
 rw[aL,List.map_singleton,y8,ag]
theorem Og {N:Nat} (hN:N≤10) {qs:List VR} (h:iu N (iV qs)): ∀q∈qs,q.par<1000:=fun q hq=>by
 obtain⟨i,hi,rfl⟩:=List.mem_iff_getElem.1 hq
 have hl:=h.len
 rw[gU]at hl
 have h1:=pQ hi
 by_cases h0:1≤i
 ·have:=h.pw i _ h1 h0
  have h2:qs[i].par<i:=this
  omega
 ·have e0:i=0:=by omega
  subst e0
  have h2:qs[0].par=0:=h.p0 _ h1
  omega
theorem E8 {N:Nat} (hN:N≤10) {qs:List VR} (h:iu N (iV qs)):qs.length≤64:=by
 have:=h.len
 rw[gU]at this
 omega
theorem Ob {l:List Int} (h: ∀x∈l,0≤x) {N:Nat} (hN: ∀x∈l,0≤x∧x.toNat<N):lr (l.map Int.toNat)<2^N:=by
 refine Nat.lt_pow_two_of_testBit _ fun q hq=>?_
 cases c:(lr (l.map Int.toNat)).testBit q with
 |false=>rfl
 |true=>
  have h1:=(HN h q).1 c
  have:=(hN _ h1).2
  rw[Int.toNat_natCast]at this
  omega
theorem Oi (ts:List pm) (t:pm):sZ (ts++[t])=sZ ts++[.slice t.b t.qs.length t.c]:=aL
theorem KQ (l:List Nat) (n:Nat):bn (l++[n])=bn l++[.int .i64 ((n:Nat):Int)]:=aL
theorem KT (qs:List Rec) (r:Rec):bW (qs++[r])=bW qs++[.slice r.b r.xs.length r.c]:=aL
theorem KU (qs:List Rec) (r:Rec):nums (qs++[r])=nums qs++[r.xs]:=aL
theorem KV (ks:List po) (g:Nat→Nat):bn ((ks.map Prod.snd).map g)=ints (ks.map fun k=>((g k.2:Nat):Int)):=by
 show((ks.map Prod.snd).map g).map _=(ks.map fun k=>((g k.2:Nat):Int)).map _
 rw[List.map_map,List.map_map,List.map_map];rfl
theorem E_ {qs:List oJ} {i:Nat} (h:i<qs.length): ∀j (hj:j<(qs[i].cells).length),(G2 qs)[i*5+j]? =some (qs[i].cells)[j]:=fun j hj=>by
 rw[jH h j hj];exact ah (l:=qs[i].cells) hj
def ul (b:Bu):Bool:=g_ b||(decide (cC b=0)&&(decide (5<b.ae)||decide (3<b.vars)||decide (2<b.aP.length)))
theorem SJ {b:Bu} (h:g_ b=true∨(cC b=0∧(5<b.ae∨3<b.vars∨2<b.aP.length))):ul b=true:=by
 unfold ul
 rw[Bool.or_eq_true,aY,Bool.or_eq_true,Bool.or_eq_true,decide_eq_true_iff,decide_eq_true_iff,decide_eq_true_iff,decide_eq_true_iff]
 rcases h with h|⟨h1,h2|h2|h2⟩
 ·exact .inl h
 ·exact .inr ⟨h1,.inl (.inl h2)⟩
 ·exact .inr ⟨h1,.inl (.inr h2)⟩
 ·exact .inr ⟨h1,.inr h2⟩
theorem acP {b:Bu} (h0: ¬g_ b=true) (h: ¬(cC b=0∧(5<b.ae∨3<b.vars∨2<b.aP.length))):ul b=false:=by
 unfold ul
 rw[Bool.or_eq_false_iff]
 refine⟨Bool.eq_false_iff.2 h0,Bool.eq_false_iff.2 fun h9=>h ?_⟩
 rw[aY,Bool.or_eq_true,Bool.or_eq_true,decide_eq_true_iff,decide_eq_true_iff,decide_eq_true_iff,decide_eq_true_iff]at h9
 rcases h9 with⟨h1,(h2|h2)|h2⟩
 ·exact⟨h1,.inl h2⟩
 ·exact⟨h1,.inr (.inl h2)⟩
 ·exact⟨h1,.inr (.inr h2)⟩
theorem SM {b:Bu} (h: ¬ul b=true): ¬g_ b=true∧(cC b=0→b.ae≤5∧b.aP.length≤2):=by
 refine⟨fun h9=>h ?_,fun h0=>?_⟩
 ·show(g_ b||_)=true
  rw[h9];rfl
 ·refine⟨?_,?_⟩
  ·apply Classical.byContradiction
   intro h1
   apply h
   show(g_ b||_)=true
   rw[bz h0,bz (show 5<b.ae by omega)];simp
  ·apply Classical.byContradiction
   intro h1
   apply h
   show(g_ b||_)=true
   rw[bz h0,bz (show 2<b.aP.length by omega)];simp
theorem Fc {b:Bu} (h: ¬g_ b=true):b.start.length≤40∧b.ao.length≤60∧b.aP.length≤12∧ ∀r∈b.aP,r.length≤40:=by
 unfold g_ qH at h
 rw[Bool.or_eq_true,not_or,decide_eq_true_iff,fH]at h
 refine⟨by omega,by omega,by omega,fun r hr=>?_⟩
 exact Nat.le_of_not_lt (fun h3=>h.2 ⟨r,hr,bz h3⟩)
theorem Fa {b:Bu} (h: ¬g_ b=true) (sf: ∀e∈b.ao,e.pos<256∧e.neg<256):Aw b:=by
 have h1:=Fc h
 exact⟨by omega,by omega,by omega,fun r hr=>by have:=h1.2.2.2 r hr;omega,sf⟩
theorem Bc {l:La} (h: ¬um l=true) (hp8: ∀x∈l.pre,x<256) (hl8: ∀x∈l.loop,x<256):DR l:=by
 unfold um at h;rw[decide_eq_true_iff]at h
 exact⟨by omega,by omega,hp8,hl8⟩
theorem Yv:nT JC:=⟨by decide,fun r hr=>(List.not_mem_nil hr).elim,by decide⟩
theorem X5 {p:dG} (h:nT p):nT (xf p):=by
 unfold xf;split
 ·exact⟨h.n,h.r,by show((List.range p.next.length).map _).length<_;rw[ag,gR];exact h.n⟩
 ·exact Yv
end Go.Lx
namespace Go.Proofs.YtjcophmajgcehaaGreatDoor
open Go.Lx Go.RowKit _root_.Go.Proofs.Tryz
theorem Wz (w:World) [eT prog w] (b:Option Addr) (c:Nat) (xs:List Int) (d:Nat) (h:Sl w b (ints xs)) (hb:xs.length≤1000000) (hx: ∀x∈xs,0≤x∧x≤1000000000000) (hd:d≤1000000000000):
  cR prog 64 [.slice b xs.length c,vN d] w fun v N=> ∃b' c',v=.slice b' xs.length c'∧N=[ak b' c' 3 1 (ints (xs.map fun x=>x+((d:Nat):Int)))]:=by
 refine aF func64 F ntmps64 F ?_
 refine a8 (ai (bP (bV underlying22) (au (cq xs.length underlying22 bt F F (by omega) (by omega) (fun dk=>?_)))))
 refine bh (bJ (az (bV underlying22) (aS (aw ?_))))
 refine cX (fun(k:Nat) ρ O=> ∃(ys:List Int),O=[aU dk xs.length 3 1 (ints ys)]∧k≤xs.length∧ys.length=xs.length∧ys.take k=(xs.take k).map (fun x=>x+((d:Nat):Int))∧cL [(0,(.slice b xs.length c)),(1,vN d),(4,nS),(5,(.slice (aD dk) xs.length xs.length)),(11,(.slice b xs.length c)),(12,vI (xs.length:Int)),(13,vI (k:Int))] ρ) (fun k=>xs.length-k) 0 ?_ ?_
 ·exact⟨List.replicate xs.length 0,by simp only[List.map_replicate],aG _,by simp,by simp,(.of F)⟩
 rintro k ρ O ⟨ys,rfl,hk,Up,Zn,hH⟩
 obtain⟨fy,rfl⟩:=hH.elim
 clear hH
 have sI:k≤ys.length:=by omega
 refine aB cH (TO.ns (aH F (fun hc=>?_) (fun hc=>?_)))
 ·have AH:k<xs.length:=by omega
  have hxk:=hx xs[k] (ap AH)
  refine aE (ba (aw (bP (b8 k underlying22 bt F F (bS h)) (ad (eA underlying3 F F h eu) (bh (ai (aJ (aQ (dr (az (jJ F F (by omega)) (ad (b8 k underlying22 bt F F (bU 0)) (au (gw (v:=vI (xs[k]+((d:Nat):Int))) (vs:=[(vI (xs[k]+((d:Nat):Int)))]) (cs:=ints ys) k 0 bt F F F F F (by simp) F (by first|(simp;omega)|(simp_all;omega)) ?_)))))))))))))
  refine cY (O':=[aU dk xs.length 3 1 (ints (ys.set k (xs[k]+((d:Nat):Int))))]) (by rw[show dq (ints ys) k [(vI (xs[k]+((d:Nat):Int)))]=ints (ys.set k (xs[k]+((d:Nat):Int)))from(by simp[dq])];exact bj (ay _)) ?_
  refine TO.nl (aJ (ad (bK (b:=1) k F F (by omega)) (aS ?_)))
  refine⟨k+1,by omega,ys.set k (xs[k]+((d:Nat):Int)),F,by omega,by simp[Up],?_,(.of F)⟩
  rw[sh (by omega),Zn,an AH,aL];rfl
 have MQ: ¬k<xs.length:=by omega
 refine bA ?_
 refine bI (ai (cF ?_))
 refine aM (.slice (aD dk) xs.length xs.length) results64 F ?_
 have hye:ys=xs.map (fun x=>x+((d:Nat):Int)):=by rw[aN (by omega),aN (by omega)]at Zn;exact Zn
 subst hye
 exact⟨_,_,F,F⟩
theorem Kd (w:World) [eT prog w] (c:Nat):
  cR prog 63 [.slice none 0 c] w fun v N=> ∃b' c',v=.slice b' 0 c'∧N=[ak b' c' 106 4 []]:=by
 refine aF func63 F ntmps63 F ?_
 refine a8 (bh (bJ (aQ (bF (oP underlying23 F F) ?_))))
 refine cJ ?_
 refine ba (T.dH 106 4 ?_)
 refine aJ (ai (cF ?_))
 refine aM nS results63 F ?_
 exact⟨_,_,F,F⟩
theorem Hb (w:World) [eT prog w] (a:Addr) (c:Nat) (xs:List Ed) (h1:Sl w (some a) (eX xs)) (hb:xs.length≤1000000000):
  cR prog 63 [.slice (some a) xs.length c] w fun v N=> ∃b' c',v=.slice b' xs.length c'∧N=[ak b' c' 106 4 (eX xs)]:=by
 refine aF func63 F ntmps63 F ?_
 refine a8 (bh (bJ (aQ (bF (oP underlying23 F F) (cK (aE (a8 (au (cW (m:=0) (parts:=[]) (cs:=[]) underlying23 fm (by decide) (by simp[Instr.fill]) F (fun b1=>?_))))))))))
 refine aQ (au (dp 0 underlying23 underlying23 fm F F F F (by simp) (by decide) (Src.sl h1 (fP xs)) (Rq xs) (by omega) (by decide) (by decide) (fun dk c2=>?_)))
 refine ai (cF ?_)
 refine aM (.slice dk (0+xs.length) c2) results63 F ?_
 exact⟨_,_,by rw[Nat.zero_add],F⟩
theorem Ww (w:World) [eT prog w] (b:Option Addr) (c:Nat) (xs:List Ed) (h1:Sl w b (eX xs)) (hb:xs.length≤1000000000):
  cR prog 63 [.slice b xs.length c] w fun v N=> ∃b' c',v=.slice b' xs.length c'∧N=[ak b' c' 106 4 (eX xs)]:=by
 cases b with
 |none=>
  have hx:xs=[]:=by
   cases xs with
   |nil=>rfl
   |cons x xs=>obtain⟨_,_,e⟩:=h1.addr (i:=0) (by rw[fP];simp);cases e
  subst hx
  exact Kd w c
 |some a=>exact Hb w a c xs h1 hb
theorem Wu (w:World) [eT prog w] (b:Bu) (sb eb tb:Option Addr) (sc ec tc:Nat) (vs:List Value) (h:nL w b sb eb tb vs) (hB:Aw b):
  cR prog 24 [.agg (bf b sb sc eb ec tb tc).toArray] w fun v N=> ∃MG eb2 qk MH ec2 oK qs,v=.tuple #[.agg (bf (AG b) MG MH eb2 ec2 qk oK).toArray,vI ((rX b:Nat):Int)]∧N=[ak MG MH 3 1 (ints (AG b).start),ak eb2 ec2 106 4 (eX (AG b).ao),ak qk oK 22 1 (bW qs)]++bQ 3 qs∧nums qs=(AG b).aP:=by
 refine aF func24 F ntmps24 F ?_
 have mK:=hB.st;have Rf:=hB.ed;have JZ:=hB.se
 refine a8 (au (e5 ((bf b sb sc eb ec tb tc)) (fun dk=>?_)))
 refine au (bO eF (fun dI=>?_))
 refine bh (bJ (ad (eg 1 underlying26 eF) ?_))
 have aao:=fun(w1:World) (hI:Inv w [oI dI 26 [(vI 0),(vI 0),nS,nS,nS],oI dk 26 (bf b sb sc eb ec tb tc)] w1)=>(haveI:=Inv.tab (P:=prog) hI;BN w1 b sb eb tb sc ec tc vs (hI.bu h) hB)
 refine TO.lc Ix (aK aao) ?_
 clear aao
 rintro vr O' ⟨N,rfl,rfl,rfl⟩
 refine ai (bP gB (TO.nl (aH F (fun hc=>?_) (fun hc=>?_))))
 ·have IF:cC b≠0:=by omega
  refine ba (T.dH 22 1 ?_)
  refine T.dH 106 4 ?_
  refine T.dH 3 1 ?_
  refine aJ (ad (eg 3 underlying26 eF) (aQ (au (cE [(vI 0),(vI 0),nS,nS,nS] 3 eF ?_))))
  refine bm ?_
  refine dT (vI ((cC b:Nat):Int)) (i:=3) results24 underlying26 F eF F F F F ?_
  have Zm:rX b=cC b:=by unfold rX;rw[aA (by omega)]
  have Rl:AG b=qJ:=by unfold AG;rw[ar (by rw[Zm];omega)]
  refine⟨[ak none 0 3 1 [],ak none 0 106 4 [],ak none 0 22 1 []]++bQ 3 [],?_,none,none,none,0,0,0,[],?_,?_,?_⟩
  ·exact Sub.cO [oI dI 26 [(vI 0),(vI 0),nS,nS,nS],oI dk 26 (bf b sb sc eb ec tb tc)] (by intro a;simp only[bQ,oI,da,dJ,dq,cj,dl,bZ,bw,aL,bL,df,fF,gg,jq,vI,nS,aU,G4,aD,bf,c_]<;>omega)
  ·rw[Rl,Zm];rfl
  ·rw[Rl];rfl
  ·rw[Rl];rfl
 have IG: ¬cC b≠0:=by omega
 refine aE (ba ?_)
 have he:cC b=0:=by omega
 have hv:eJ b:=gE.1 he
 have DS:=hv.n0;have hv4:=hv.n4;have L_:=hv.m8
 have J7:b.aP.length*b.ae.toNat≤8*4096:=Nat.mul_le_mul L_ (by omega)
 have Um:b.ae.toNat*max b.aP.length 1≤4096*8:=Nat.mul_le_mul (by omega) (by omega)
 refine aJ (ad (bY underlying26 dQ) (ad (bp 1 underlying24) (ad (bV underlying24) (bh (bJ (az (bY underlying26 bt) (ad (bH (bp 1 underlying3) (v':=vI ((b.ae.toNat:Nat):Int)) (by show Value.int _ _=_;rw[bq DS])) (ad (jx (a:=b.aP.length) (b:=b.ae.toNat) F F (by omega)) (bF fg (aH F (fun hc=>?_) (fun hc=>?_)))))))))))
 ·have Un:b.aP.length*b.ae.toNat>4096:=by omega
  refine ba (T.dH 22 1 ?_)
  refine T.dH 106 4 ?_
  refine T.dH 3 1 ?_
  refine aJ (ad (eg 3 underlying26 eF) (au (cE [(vI 0),(vI 0),nS,nS,nS] 3 eF ?_)))
  refine bm ?_
  refine dT (vI 10) (i:=3) results24 underlying26 F eF F F F F ?_
  have Zm:rX b=10:=by unfold rX;rw[ar (fun q=>q he),aA (by omega)]
  have Rl:AG b=qJ:=by unfold AG;rw[ar (by rw[Zm];omega)]
  refine⟨[ak none 0 3 1 [],ak none 0 106 4 [],ak none 0 22 1 []]++bQ 3 [],?_,none,none,none,0,0,0,[],?_,?_,?_⟩
  ·exact Sub.cO [oI dI 26 [(vI 0),(vI 0),nS,nS,nS],oI dk 26 (bf b sb sc eb ec tb tc)] (by intro a;simp only[bQ,oI,da,dJ,dq,cj,dl,bZ,bw,aL,bL,df,fF,gg,jq,vI,nS,aU,G4,aD,bf,c_]<;>omega)
  ·rw[Rl,Zm];rfl
  ·rw[Rl];rfl
  ·rw[Rl];rfl
 have Uo: ¬b.aP.length*b.ae.toNat>4096:=by omega
 refine aE (ba ?_)
 have hn4:b.aP.length*b.ae.toNat≤4096:=by omega
 refine T.ds [oI dk 26 (bf b sb sc eb ec tb tc)] [(0,0),(1,0),(2,0),(3,0),(4,0),(5,0),(6,0),(7,0),(8,0),(9,1),(10,0),(11,2)] (by exact Sub.d (.k .z)) ?_
 refine am F (bY underlying26 bt) (am F (bp 0 underlying3) (am F (bY underlying26 bt) (am F (bH (bp 0 underlying3) (v':=vI ((b.ae.toNat:Nat):Int)) (by show Value.int _ _=_;rw[bq DS])) (am F aC (am F (px (a:=b.aP.length) (b:=1) F F) (am F (jx (a:=b.ae.toNat) (b:=(max b.aP.length 1)) F F (by omega)) (am F (bY underlying26 cf) (am F (bp 0 underlying22) ?_))))))))
 have xJ:=fun(w1:World) (hI:Inv w [oI dI 26 [(vI 0),(vI 0),nS,nS,nS],oI dk 26 (bf b sb sc eb ec tb tc)] w1)=>(haveI:=Inv.tab (P:=prog) hI;BV w1 sb sc b.start (hI.sl h.st) (by omega))
 refine eH F F (dV IH (aK xJ) ?_)
 clear xJ
 rintro vr O' ⟨N,rfl,sg,kG,rfl,rfl⟩
 refine⟨by exact Sub.d (.d (.k .z)),?_⟩
 refine am F (dy [(vI b.vars),vI ((b.ae.toNat*(max b.aP.length 1):Nat):Int),(.slice sg b.start.length kG),nS,nS] Wv eF (by kernel_rfl)) ?_
 refine cG F F (cE [(vI b.vars),vI ((b.ae.toNat*(max b.aP.length 1):Nat):Int),(.slice sg b.start.length kG),nS,nS] 1 eF ?_)
 refine cl ?_
 refine ba (bP en (TO.nl (aH F (fun hc=>?_) (fun hc=>?_))))
 ·have ai1:b.aP.length=0:=by omega
  refine aB (bY underlying26 bt) (ad (bH (bp 2 underlying3) (v':=vI ((b.ae.toNat:Nat):Int)) (by show Value.int _ _=_;rw[bq DS])) (au (cq b.ae.toNat underlying22 bt F F (by omega) (by omega) (fun fj=>?_))))
  refine bh (bJ (az (bV underlying22) (aS (aw ?_))))
  refine cX (fun(k:Nat) ρ O=> ∃(ys:List Int),O=[aU fj b.ae.toNat 3 1 (ints ys),ak sg kG 3 1 (ints b.start),oI dI 26 [(vI b.vars),vI ((b.ae.toNat*(max b.aP.length 1):Nat):Int),(.slice sg b.start.length kG),nS,nS],oI dk 26 (bf b sb sc eb ec tb tc)]∧k≤b.ae.toNat∧ys.length=b.ae.toNat∧ys.take k=allI k∧cL [(0,(.agg (bf b sb sc eb ec tb tc).toArray)),(1,(.pointer (aD dk))),(2,(.pointer (aD dI))),(3,vI 0),(4,vI ((cC b:Nat):Int)),(5,vI (b.aP.length:Int)),(6,(.slice (aD fj) b.ae.toNat b.ae.toNat)),(45,vI (b.ae.toNat:Int)),(46,vI (k:Int))] ρ) (fun k=>b.ae.toNat-k) 0 ?_ ?_
  ·exact⟨List.replicate b.ae.toNat 0,(by first|(simp only[List.map_replicate];done)|(simp only[List.map_replicate];rfl)),aG _,by simp,by simp[allI],(.of F)⟩
  rintro k ρ O ⟨ys,rfl,hk,Up,Zn,hH⟩
  obtain⟨fy,rfl⟩:=hH.elim
  clear hH
  have sI:k≤ys.length:=by omega
  refine aB cH (TO.ns (aH F (fun hc=>?_) (fun hc=>?_)))
  ·have aaq:k<b.ae.toNat:=by omega
   refine aE (ba (aw (bI (ai (aJ (dr (az (b8 k underlying22 bt F F (bU 0)) (au (gw (v:=vI (k:Int)) (vs:=[(vI (k:Int))]) (cs:=ints ys) k 0 bt F F F F F (by simp) F (by first|(simp;omega)|(simp_all;omega)) ?_)))))))))
   refine cY (O':=[aU fj b.ae.toNat 3 1 (ints (ys.set k ((k:Nat):Int))),ak sg kG 3 1 (ints b.start),oI dI 26 [(vI b.vars),vI ((b.ae.toNat*(max b.aP.length 1):Nat):Int),(.slice sg b.start.length kG),nS,nS],oI dk 26 (bf b sb sc eb ec tb tc)]) (by rw[show dq (ints ys) k [(vI (k:Int))]=ints (ys.set k ((k:Nat):Int))from(by simp[dq])];exact bj (ay _)) ?_
   refine TO.nl (aJ (ad (bK (b:=1) k F F (by omega)) (aS ?_)))
   refine⟨k+1,by omega,ys.set k ((k:Nat):Int),F,by omega,by simp[Up],?_,(.of F)⟩
   rw[sh (by omega),Zn,J8]
  have aar: ¬k<b.ae.toNat:=by omega
  refine bA ?_
  refine ba ?_
  have af5:ys.take k=allI b.ae.toNat:=by rw[Zn];congr 1;omega
  refine aJ (aQ (au (dv (v:=(.slice (aD fj) b.ae.toNat b.ae.toNat)) underlying24 cf F F F (fun fA=>?_))))
  refine ad (bY underlying26 kQ) (ad (bp 4 underlying23) ?_)
  have xK:=fun(w1:World) (hI:Inv w [aU fA 1 22 1 [(.slice (aD fj) b.ae.toNat b.ae.toNat)],aU fj b.ae.toNat 3 1 (ints ys),ak sg kG 3 1 (ints b.start),oI dI 26 [(vI b.vars),vI ((b.ae.toNat*(max b.aP.length 1):Nat):Int),(.slice sg b.start.length kG),nS,nS],oI dk 26 (bf b sb sc eb ec tb tc)] w1)=>(haveI:=Inv.tab (P:=prog) hI;Ww w1 eb ec b.ao (hI.sl h.ed) (by omega))
  refine TO.lc aas (aK xK) ?_
  clear xK
  rintro vr O' ⟨N,rfl,Zo,J9,rfl,rfl⟩
  refine ad (bY underlying26 dQ) (au (cE [(.slice (aD fA) 1 1)] 4 dQ ?_))
  refine ad (bY underlying26 kQ) (au (cE [(.slice Zo b.ao.length J9)] 4 kQ ?_))
  refine TO.ns ?_
  have hya:ys=allI b.ae.toNat:=by rw[←af5];exact(aN (by omega)).symm
  refine cV (O':=[ak Zo J9 106 4 (eX b.ao),aU fA 1 22 1 (bW [⟨(aD fj),b.ae.toNat,allI b.ae.toNat⟩]),aU fj b.ae.toNat 3 1 (ints (allI b.ae.toNat)),ak sg kG 3 1 (ints b.start),oI dI 26 [(vI b.vars),vI ((b.ae.toNat*(max b.aP.length 1):Nat):Int),(.slice sg b.start.length kG),(.slice Zo b.ao.length J9),(.slice (aD fA) 1 1)],oI dk 26 (bf b sb sc eb ec tb tc)]) (by rw[show bW [⟨(aD fj),b.ae.toNat,allI b.ae.toNat⟩]=[(.slice (aD fj) b.ae.toNat b.ae.toNat)]from by simp[bW,Rec.val,D5],show ints (allI b.ae.toNat)=ints ys from by rw[hya]];exact bj (ay _)) ?_
  refine aJ (ad (eg 4 underlying26 eF) (au (cE [(vI b.vars),vI ((b.ae.toNat*(max b.aP.length 1):Nat):Int),(.slice sg b.start.length kG),(.slice Zo b.ao.length J9),(.slice (aD fA) 1 1)] 4 eF ?_)))
  refine bm ?_
  refine dT (vI 0) (i:=4) results24 underlying26 F eF F F F F ?_
  have hE0:rX b=0:=by unfold rX;rw[ar (fun q=>q he),ar (by omega)]
  have Wx:AG b=ky b:=by unfold AG;rw[aA hE0]
  have Wy:b.aP.length=0:=by omega
  have hde:(ky b).ao=b.ao:=aA Wy
  have hds:(ky b).aP=[allI b.ae.toNat]:=aA Wy
  refine⟨[ak sg kG 3 1 (ints b.start),ak Zo J9 106 4 (eX b.ao),aU fA 1 22 1 (bW [⟨(aD fj),b.ae.toNat,allI b.ae.toNat⟩])]++bQ 3 [⟨(aD fj),b.ae.toNat,allI b.ae.toNat⟩],(aR [3,0,0,0]),sg,Zo,(aD fA),kG,J9,1,[⟨(aD fj),b.ae.toNat,allI b.ae.toNat⟩],?_,?_,?_⟩
  ·rw[Wx,hE0];simp only[bf,hde,hds];rfl
  ·rw[Wx,hde];rfl
  ·rw[Wx,hds];rfl
 have ai2: ¬b.aP.length=0:=by omega
 refine aE (aB (eg 2 underlying26 eF) ?_)
 have aaw:=fun(w1:World) (hI:Inv w [ak sg kG 3 1 (ints b.start),oI dI 26 [(vI b.vars),vI ((b.ae.toNat*(max b.aP.length 1):Nat):Int),(.slice sg b.start.length kG),nS,nS],oI dk 26 (bf b sb sc eb ec tb tc)] w1)=>(haveI:=Inv.tab (P:=prog) hI;GZ w1 b sb eb tb sc ec tc vs (hI.bu h) hB L_)
 refine TO.lc Mu (aK aaw) ?_
 clear aaw
 rintro vr O' ⟨N,rfl,mm,l2,rfl,rfl,Mb,tG⟩
 refine bh (bJ (aQ (aS (aw (T.dH 106 4 ?_)))))
 refine cS (fun(k:Nat) ρ O=> ∃(oL:Option Addr) (oM:Nat),O=[ak oL oM 106 4 (eX (ln b k 0)),cM KI VU mm l2,ak sg kG 3 1 (ints b.start),oI dI 26 [(vI b.vars),vI ((b.ae.toNat*(max b.aP.length 1):Nat):Int),(.slice sg b.start.length kG),(.slice oL ((ln b k 0).length) oM),nS],oI dk 26 (bf b sb sc eb ec tb tc)]∧k≤b.aP.length∧cL [(0,(.agg (bf b sb sc eb ec tb tc).toArray)),(1,(.pointer (aD dk))),(2,(.pointer (aD dI))),(3,vI 0),(4,vI ((cC b:Nat):Int)),(5,vI (b.aP.length:Int)),(8,(.map (some mm))),(64,vI (b.aP.length:Int)),(65,vI (k:Int))] ρ) (fun k=>b.aP.length-k) 0 ?_ ?_
 ·exact⟨none,0,by rw[u3];rfl,aG _,(.of F)⟩
 rintro k ρ O ⟨oL,oM,rfl,hk,hH⟩
 obtain⟨fy,rfl⟩:=hH.elim
 clear hH
 refine aB cH (TO.ns (aH F (fun hc=>?_) (fun hc=>?_)))
 ·have IJ:k<b.aP.length:=by omega
  refine aE (ba (aw (bI (ai (aB (bY underlying26 kQ) (ad (bp 4 underlying23) (ad (bV underlying23) (aS (aw ?_)))))))))
  refine cS (fun(i:Nat) ρ O=> ∃(oL:Option Addr) (oM:Nat),O=[ak oL oM 106 4 (eX (ln b k i)),cM KI VU mm l2,ak sg kG 3 1 (ints b.start),oI dI 26 [(vI b.vars),vI ((b.ae.toNat*(max b.aP.length 1):Nat):Int),(.slice sg b.start.length kG),(.slice oL ((ln b k i).length) oM),nS],oI dk 26 (bf b sb sc eb ec tb tc)]∧i≤b.ao.length∧cL [(0,(.agg (bf b sb sc eb ec tb tc).toArray)),(1,(.pointer (aD dk))),(2,(.pointer (aD dI))),(3,vI 0),(4,vI ((cC b:Nat):Int)),(5,vI (b.aP.length:Int)),(8,(.map (some mm))),(9,vI (k:Int)),(64,vI (b.aP.length:Int)),(65,vI (k:Int)),(69,(.slice eb b.ao.length ec)),(70,vI (b.ao.length:Int)),(71,vI (i:Int))] ρ) (fun i=>b.ao.length-i) 0 ?_ ?_
  ·exact⟨oL,oM,F,aG _,(.of F)⟩
  rintro i ρ O ⟨oL,oM,rfl,hi,hH⟩
  obtain⟨fy,rfl⟩:=hH.elim
  clear hH
  have Md:=MJ (b:=b) (k:=k) hi (by omega) Rf
  refine aB cH (TO.ns (aH F (fun hc=>?_) (fun hc=>?_)))
  ·have MK:i<b.ao.length:=by omega
   let dC:List Value:=[vI b.ao[i].fr,vI b.ao[i].to,.int .u8 ((b.ao[i].pos:Nat):Int),.int .u8 ((b.ao[i].neg:Nat):Int)]
   refine aE (ba (aw (aB (fO (i:=i) underlying23 fm F F (bS h.ed) (by first|assumption|omega|(simp;omega)|simp_all) (by first|(rw[fP];omega)|(simp[fP];omega)|(simp_all[fP];omega))) (ad (mM dC underlying106 F fm F F (eo _) (bS h.ed) (pu (by first|assumption|omega|(simp;omega)|simp_all))) (au (bO fm (fun fK=>?_)))))))
   refine au (cE dC 0 fm ?_)
   refine TO.nl (bI (ai ?_))
   refine iD (fun ρ O=>Sub [oI fK 106 dC,ak oL oM 106 4 (eX (ln b k i)),cM KI VU mm l2,ak sg kG 3 1 (ints b.start),oI dI 26 [(vI b.vars),vI ((b.ae.toNat*(max b.aP.length 1):Nat):Int),(.slice sg b.start.length kG),(.slice oL ((ln b k i).length) oM),nS],oI dk 26 (bf b sb sc eb ec tb tc)] O∧cL [(0,(.agg (bf b sb sc eb ec tb tc).toArray)),(1,(.pointer (aD dk))),(2,(.pointer (aD dI))),(3,vI 0),(4,vI ((cC b:Nat):Int)),(5,vI (b.aP.length:Int)),(8,(.map (some mm))),(9,vI (k:Int)),(11,(.pointer (aD fK))),(12,vI (((ia b k b.ao[i].fr):Nat):Int)),(64,vI (b.aP.length:Int)),(65,vI (k:Int)),(69,(.slice eb b.ao.length ec)),(70,vI (b.ao.length:Int)),(71,vI (i:Int))] ρ) ?_ ?_
   ·refine ba ?_
    have hmk:oG b.aP b.ao[i].fr<256:=du (xz _ _) (dw (by omega) L_:2^b.aP.length≤2^8)
    have hee:=hv.ed _ (ap MK)
    have hkN:k*b.ae.toNat≤8*4096:=Nat.mul_le_mul (by omega) (by omega)
    refine aJ (az (bY underlying106 bt) (ad (bp 0 underlying3) (ad (bH (jy (K:=KI) (V:=VU) (a:=b.ao[i].fr) underlying99 jg (fZ.int underlying3) F F (mG 2)) (v':=.int .u64 ((oG b.aP b.ao[i].fr:Nat):Int)) (by rw[←Mb.h];cases eN b.ao[i].fr l2<;>rfl)) (az (xL (a:=(oG b.aP b.ao[i].fr)) (b:=k) .u64 F F (by show _<18446744073709551616;omega) (by show _≤64;omega)) (ad (nY (a:=((oG b.aP b.ao[i].fr)>>>k)) (b:=1) .u64 F F (by show _<18446744073709551616;rw[Nat.shiftRight_eq_div_pow];have:=Nat.div_le_self (oG b.aP b.ao[i].fr) (2^k);omega) (by show _<18446744073709551616;omega)) (ad en ?_))))))
    by_cases aax:((((oG b.aP b.ao[i].fr)>>>k)&&&1:Nat):Int)=1
    ·refine ad (cm aC aax) ?_
     refine ax aC (ax fg (bF bR (aH F (fun hc=>?_) (fun hc=>?_))))
     ·have aay:b.aP.length>1:=by omega
      refine aJ (az (bK (b:=1) k F F (by omega)) (az (kR (a:=(k+1)) (b:=b.aP.length) F F (by omega)) (ai ?_)))
      exact⟨(by exact Sub.rf),⟨F,F,F,F,F,F,F,F,F,(av (fun z:Nat=>Value.int .i64 (z:Int)) (by rw[qK IJ];first|rw[aA ⟨by assumption,by omega⟩]|rw[ar (fun q9=>by have:=q9.1;have:=q9.2;omega)])),F,F,F,F,F,trivial⟩⟩
     have aaz: ¬b.aP.length>1:=by omega
     refine aE ?_
     exact⟨(by exact Sub.rf),⟨F,F,F,F,F,F,F,F,F,(av (fun z:Nat=>Value.int .i64 (z:Int)) (by rw[qK IJ];first|rw[aA ⟨by assumption,by omega⟩]|rw[ar (fun q9=>by have:=q9.1;have:=q9.2;omega)])),F,F,F,F,F,trivial⟩⟩
    refine ad (cD aC aax) (dj (bF ca (cK (aE ?_))))
    exact⟨(by exact Sub.rf),⟨F,F,F,F,F,F,F,F,F,(av (fun z:Nat=>Value.int .i64 (z:Int)) (by rw[qK IJ];first|rw[aA ⟨by assumption,by omega⟩]|rw[ar (fun q9=>by have:=q9.1;have:=q9.2;omega)])),F,F,F,F,F,trivial⟩⟩
   rintro ρ O ⟨hS,hH⟩
   obtain⟨fy,rfl⟩:=hH.elim
   clear hH
   refine cV hS ?_
   refine ba ?_
   have hee:=hv.ed _ (ap MK)
   have hkN:k*b.ae.toNat≤8*4096:=Nat.mul_le_mul (by omega) (by omega)
   have BW:=sJ (x:=b.ao[i].fr) IJ
   have hdN:(ia b k b.ao[i].fr)*b.ae.toNat≤8*4096:=Nat.mul_le_mul (by omega) (by omega)
   refine nh [oI dk 26 (bf b sb sc eb ec tb tc)] [oI fK 106 dC] [(0,0),(1,3),(2,0),(3,0),(4,0),(5,0),(6,0),(7,0),(8,3),(9,0),(10,0),(11,0),(12,0),(13,0),(14,0),(15,4),(16,0),(17,2)] mixed (tM (by kernel_rfl)) (by exact Sub.d (.d (.d (.d (.d (.k .z)))))) (by exact Sub.k .z) (fun _ _ _ _ h=>h) ?_
   refine am F (bY underlying106 bt) ?_
   refine ir F (bp 0 underlying3) ?_
   refine am F aC (am F (bY underlying26 bt) (am F (bH (bp 0 underlying3) (v':=vI ((b.ae.toNat:Nat):Int)) (by show Value.int _ _=_;rw[bq DS])) (am F (jx (a:=k) (b:=b.ae.toNat) F F (by omega)) (am F (jJ F F (by omega)) (am F (bY underlying106 bt) ?_)))))
   refine ir F (bp 0 underlying3) ?_
   refine am F aC (am F (bY underlying26 bt) (am F (bH (bp 0 underlying3) (v':=vI ((b.ae.toNat:Nat):Int)) (by show Value.int _ _=_;rw[bq DS])) (am F (jx (a:=(ia b k b.ao[i].fr)) (b:=b.ae.toNat) F F (by omega)) (am F (jJ F F (by omega)) (am F (bY underlying106 bt) ?_)))))
   let eE:Value:=(vI (b.ao[i].fr+((k*b.ae.toNat:Nat):Int)))
   refine py F F (cE [eE] 0 bt ⟨by exact Sub.d (.d (.d (.d (.d (.k .z))))),?_⟩ F F F F)
   refine am F (bY underlying106 bt) ?_
   let dM:Value:=(vI (b.ao[i].to+(((ia b k b.ao[i].fr)*b.ae.toNat:Nat):Int)))
   refine cG F F (cE [dM] 0 bt ?_)
   refine cl ?_
   refine aJ (ad (bY underlying26 kQ) (ad (bp 4 underlying23) (ad (eg 0 underlying106 fm) (au (cW (m:=1) (parts:=[(0,_)]) (cs:=[eE,dM,.int .u8 ((b.ao[i].pos:Nat):Int),.int .u8 ((b.ao[i].neg:Nat):Int)]) underlying23 fm (by decide) (by kernel_rfl) F (fun ig=>?_))))))
   refine au (dp 2 underlying23 underlying23 fm F F F F (by rw[fP]) (by decide) (Src.row (j:=0) F (by simp)) (by simp[fL]) (by omega) (by decide) (by decide) (fun mL c8=>?_))
   refine ad (bY underlying26 kQ) (au (cE [(.slice mL (((ln b k i).length)+1) c8)] 5 kQ ?_))
   refine TO.nl (aJ (ad (bK (b:=1) i F F (by omega)) (aS ?_)))
   refine⟨i+1,by omega,[ak mL c8 106 4 ((eX (ln b k i))++[eE,dM,.int .u8 ((b.ao[i].pos:Nat):Int),.int .u8 ((b.ao[i].neg:Nat):Int)]),cM KI VU mm l2,ak sg kG 3 1 (ints b.start),oI dI 26 [(vI b.vars),vI ((b.ae.toNat*(max b.aP.length 1):Nat):Int),(.slice sg b.start.length kG),(.slice mL (((ln b k i).length)+1) c8),nS],oI dk 26 (bf b sb sc eb ec tb tc)],(by exact Sub.d (.d (.k (.k (.k (.k (.k .z))))))),mL,c8,?_,by omega,(.of F)⟩
   rw[J_ MK,xM,show((ln b k i)++[xN b k b.ao[i]]).length=(ln b k i).length+1 by simp]<;>rfl
  have ai3: ¬i<b.ao.length:=by omega
  refine bA ?_
  refine aJ (ad (bK (b:=1) k F F (by omega)) (aS ?_))
  have r_:i=b.ao.length:=by omega
  refine⟨k+1,by omega,[ak oL oM 106 4 (eX (ln b k i)),cM KI VU mm l2,ak sg kG 3 1 (ints b.start),oI dI 26 [(vI b.vars),vI ((b.ae.toNat*(max b.aP.length 1):Nat):Int),(.slice sg b.start.length kG),(.slice oL ((ln b k i).length) oM),nS],oI dk 26 (bf b sb sc eb ec tb tc)],(by exact Sub.rf),oL,oM,?_,by omega,(.of F)⟩
  rw[←ML,r_]
 have ai4: ¬k<b.aP.length:=by omega
 refine bA ?_
 refine ba ?_
 have J4:k=b.aP.length:=by omega
 have D6:b.aP.length-1<b.aP.length:=by omega
 obtain⟨rb,rc,g1,s1⟩:=h.rows.get D6
 have hkm:(b.aP.length-1)*b.ae.toNat≤8*4096:=Nat.mul_le_mul (by omega) (by omega)
 refine T.ds [oI dk 26 (bf b sb sc eb ec tb tc)] [(0,0),(1,0),(2,0),(3,0),(4,0),(5,0),(6,0),(7,0),(8,0),(9,0),(10,0),(11,2),(12,2),(13,2),(14,2)] (by exact Sub.d (.d (.d (.d (.k .z))))) ?_
 refine am F (bY underlying26 dQ) (am F (bp 0 underlying24) (am F aC (am F (il (a:=b.aP.length) (b:=1) F F (by omega) (by omega)) (am F (b8 ((b.aP.length-1)) underlying24 cf F F (bS h.out) (by first|assumption|omega|(simp;omega)|simp_all) (by rw[h.rows.1];exact D6)) (am F (eA underlying22 F F h.out g1) (am F aC (am F (il (a:=b.aP.length) (b:=1) F F (by omega) (by omega)) (am F (bY underlying26 bt) (am F (bH (bp 0 underlying3) (v':=vI ((b.ae.toNat:Nat):Int)) (by show Value.int _ _=_;rw[bq DS])) (am F (jx (a:=(b.aP.length-1)) (b:=b.ae.toNat) F F (by omega)) ?_))))))))))
 let fo:Value:=(.slice oL ((ln b k 0).length) oM)
 have Uq:=fun(w1:World) (hI:Inv w [ak oL oM 106 4 (eX (ln b k 0)),cM KI VU mm l2,ak sg kG 3 1 (ints b.start),oI dI 26 [(vI b.vars),vI ((b.ae.toNat*(max b.aP.length 1):Nat):Int),(.slice sg b.start.length kG),fo,nS],oI dk 26 (bf b sb sc eb ec tb tc)] w1)=>(haveI:=Inv.tab (P:=prog) hI;Wz w1 rb rc b.aP[b.aP.length-1] ((b.aP.length-1)*b.ae.toNat) (hI.sl s1) (hB.sr _ (ap D6)) (fun x hx=>by have:=hv.se _ (ap D6) x hx;omega) (by omega))
 refine cG F F (dV aaA (aK Uq) ?_)
 clear Uq
 rintro vr O' ⟨N,rfl,zb,zc,rfl,rfl⟩
 refine cG F F (dv (v:=(.slice zb (b.aP[b.aP.length-1].length) zc)) underlying24 cf F F F (fun nZ=>?_))
 refine cG F F (iE F F (bY underlying26 dQ) ?_)
 let gC:Value:=(.slice (aD nZ) 1 1)
 refine cG F F (cE [gC] 5 dQ ?_)
 refine cl ?_
 refine ba ?_
 have Zp:=MM D6
 have tJ:(j_ b).length=b.aP[b.aP.length-1].length:=by rw[Zp,ag]
 refine cV (O':=[aU nZ 1 22 1 (bW [⟨zb,zc,j_ b⟩]),ak zb zc 3 1 (ints (j_ b)),ak oL oM 106 4 (eX (ln b k 0)),cM KI VU mm l2,ak sg kG 3 1 (ints b.start),oI dI 26 [(vI b.vars),vI ((b.ae.toNat*(max b.aP.length 1):Nat):Int),(.slice sg b.start.length kG),fo,gC],oI dk 26 (bf b sb sc eb ec tb tc)]) (by rw[show bW [⟨zb,zc,j_ b⟩]=[(.slice zb (b.aP[b.aP.length-1].length) zc)]from by simp[bW,Rec.val,tJ],show ints (j_ b)=ints (b.aP[b.aP.length-1].map fun x=>x+(((b.aP.length-1)*b.ae.toNat:Nat):Int))from by rw[Zp]];exact bj (ay _)) ?_
 refine aJ (ad (eg 5 underlying26 eF) (au (cE [(vI b.vars),vI ((b.ae.toNat*(max b.aP.length 1):Nat):Int),(.slice sg b.start.length kG),fo,gC] 5 eF ?_)))
 refine bm ?_
 refine dT (vI 0) (i:=5) results24 underlying26 F eF F F F F ?_
 have hE0:rX b=0:=by unfold rX;rw[ar (fun q=>q he),ar (by omega)]
 have Wx:AG b=ky b:=by unfold AG;rw[aA hE0]
 have Wy: ¬b.aP.length=0:=by omega
 have hde:(ky b).ao=ln b k 0:=by rw[u3,J4];exact ar Wy
 have hds:(ky b).aP=[j_ b]:=ar Wy
 refine⟨[ak sg kG 3 1 (ints b.start),ak oL oM 106 4 (eX (ln b k 0)),aU nZ 1 22 1 (bW [⟨zb,zc,j_ b⟩])]++bQ 3 [⟨zb,zc,j_ b⟩],(aR [4,2,0,0]),sg,oL,(aD nZ),kG,oM,1,[⟨zb,zc,j_ b⟩],?_,?_,?_⟩
 ·rw[Wx,hE0];simp only[bf,hde,hds];rfl
 ·rw[Wx,hde];rfl
 ·rw[Wx,hds];rfl
theorem AJ (base:World) [eT prog base] (b4 b5 b6:Nat) (lb kb tb:Option Addr) (lc lq kc kq tc:Nat) (ls ks:List Bool) (todo:List Nat) (s:Nat) (hs:s<ls.length) (BP:s<ks.length) (hb:todo.length≤1000000):
  cZ prog base 60 [vI (s:Int),.pointer (aD b4),.pointer (aD b5),.pointer (aD b6)] [oI b4 108 [(.slice lb ls.length lc)],ak lb lq 4 1 (bv ls),oI b5 108 [(.slice kb ks.length kc)],ak kb kq 4 1 (bv ks),oI b6 22 [(.slice tb todo.length tc)],ak tb tc 3 1 (bn todo)] (fun _ O'=> ∃tb' tc',O'=[oI b4 108 [(.slice lb ls.length lc)],ak lb lq 4 1 (bv ls),oI b5 108 [(.slice kb ks.length kc)],ak kb kq 4 1 (bv (sM (fun v=>ls.getD v false) ks s)),oI b6 22 [(.slice tb' ((wD (fun v=>ls.getD v false) ks todo s).length) tc')],ak tb' tc' 3 1 (bn (wD (fun v=>ls.getD v false) ks todo s))]):=by
 refine aF func60 F ntmps60 F ?_
 refine aB (bp 0 underlying108) (az (b8 s underlying108 eW F F (bU 1)) (ad (dR underlying4 F F (bU 1) gj) ?_))
 by_cases Hc:ls[s]=true
 ·refine ad (dE aC (Hc)) ?_
  refine ax (bp 2 underlying108) (ax aC (ax (b8 s underlying108 eW F F (bU 3)) (ax (dR underlying4 F F (bU 3) gj) (ax gM (bF bR (T.cond F (fun hc=>?_) (fun hc=>?_)))))))
  ·refine ba ?_
   refine aJ (ad (bp 2 underlying108) (az (b8 s underlying108 eW F F (bU 3)) (au (gw (v:=.bool true) (vs:=[(.bool true)]) (cs:=bv ks) s 3 eW F F F F F (by simp) F (by first|(simp;omega)|(simp_all;omega)) ?_))))
   refine cY (O':=[oI b4 108 [(.slice lb ls.length lc)],ak lb lq 4 1 (bv ls),oI b5 108 [(.slice kb ks.length kc)],ak kb kq 4 1 (bv (ks.set s true)),oI b6 22 [(.slice tb todo.length tc)],ak tb tc 3 1 (bn todo)]) (by rw[show dq (bv ks) s [(.bool true)]=bv (ks.set s true)from(by simp[dq])];exact bj (ay _)) ?_
   refine TO.nl (aJ (ad (bp 4 underlying22) (aQ (au (dv (v:=vI (s:Int)) underlying22 bt F F F (fun dk=>?_))))))
   refine au (dp 6 underlying22 underlying22 bt F F F F (by simp) (by decide) (Src.row (j:=0) F (by simp)) (by simp[fL]) (by omega) (by decide) (by decide) (fun dI c3=>?_))
   refine au (cE [(.slice dI (todo.length+1) c3)] 5 cf ?_)
   refine TO.nl (e7 ?_)
   refine pk.zero results60 ?_
   have nO:=Rw (al:=fun v=>ls.getD v false) (keep:=ks) (todo:=todo) (v:=s) (by rw[gb hs];assumption) (by rw[gb BP];simp_all)
   rw[nO.1,nO.2]
   exact⟨[oI b4 108 [(.slice lb ls.length lc)],ak lb lq 4 1 (bv ls),oI b5 108 [(.slice kb ks.length kc)],ak kb kq 4 1 (bv (ks.set s true)),oI b6 22 [(.slice dI (todo.length+1) c3)],ak dI c3 3 1 ((bn todo)++[vI (s:Int)])],(aR [1,1,1,1,1,1]),dI,c3,by rw[aI,show bn (todo++[s])=bn todo++[vI (s:Int)]from aL];rfl⟩
  refine aE (e7 ?_)
  refine pk.zero results60 ?_
  have nO:=Ei (al:=fun v=>ls.getD v false) (keep:=ks) (todo:=todo) (v:=s) (by rw[gb hs,gb BP];simp_all)
  rw[nO.1,nO.2]
  exact⟨[oI b4 108 [(.slice lb ls.length lc)],ak lb lq 4 1 (bv ls),oI b5 108 [(.slice kb ks.length kc)],ak kb kq 4 1 (bv ks),oI b6 22 [(.slice tb todo.length tc)],ak tb tc 3 1 (bn todo)],(aR [0,0,0,0,0,0]),tb,tc,F⟩
 refine ad (dE aC (Bool.eq_false_iff.2 Hc)) (dt (cP (bF ca ?_)))
 refine cK (aE (e7 ?_))
 refine pk.zero results60 ?_
 have nO:=Ei (al:=fun v=>ls.getD v false) (keep:=ks) (todo:=todo) (v:=s) (by rw[gb hs,gb BP];simp_all)
 rw[nO.1,nO.2]
 exact⟨[oI b4 108 [(.slice lb ls.length lc)],ak lb lq 4 1 (bv ls),oI b5 108 [(.slice kb ks.length kc)],ak kb kq 4 1 (bv ks),oI b6 22 [(.slice tb todo.length tc)],ak tb tc 3 1 (bn todo)],(aR [0,0,0,0,0,0]),tb,tc,F⟩
theorem xP (base:World) [eT prog base] (b5 b14:Nat) (kb nb lb:Option Addr) (kc kq nc nq lc:Nat) (ks:List Bool) (ns:List Nat) (l:List Int) (hN:tP ks ks.length ns) (hL:Sl base lb (ints l)) (hl: ∀x∈l,0≤x∧x.toNat<ks.length) (hb:l.length≤1000000):
  cZ prog base 62 [.slice lb l.length lc,.pointer (aD b5),.pointer (aD b14)] [oI b5 108 [(.slice kb ks.length kc)],ak kb kq 4 1 (bv ks),oI b14 22 [(.slice nb ns.length nc)],ak nb nq 3 1 (bn ns)] (fun v O'=> ∃rb rc,v=.slice rb (eS ks l).length rc∧O'=[ak rb rc 3 1 (ints (eS ks l)),oI b5 108 [(.slice kb ks.length kc)],ak kb kq 4 1 (bv ks),oI b14 22 [(.slice nb ns.length nc)],ak nb nq 3 1 (bn ns)]):=by
 refine aF func62 F ntmps62 F ?_
 refine a8 (bh (bJ (az (bV underlying22) (aS (aw (T.dH 3 1 ?_))))))
 let dC:Lx.Item:=oI b14 22 [(.slice nb ns.length nc)]
 let dM:Lx.Item:=ak nb nq 3 1 (bn ns)
 refine cS (fun(k:Nat) ρ O=> ∃(rb:Option Addr) (rc:Nat),O=[ak rb rc 3 1 (ints (eS ks (l.take k))),oI b5 108 [(.slice kb ks.length kc)],ak kb kq 4 1 (bv ks),dC,dM]∧k≤l.length∧cL [(0,(.slice lb l.length lc)),(1,(.pointer (aD b5))),(2,(.pointer (aD b14))),(4,(.slice rb ((eS ks (l.take k)).length) rc)),(7,(.slice lb l.length lc)),(8,vI (l.length:Int)),(9,vI (k:Int))] ρ) (fun k=>l.length-k) 0 ?_ ?_
 ·exact⟨none,0,F,aG _,(.of F)⟩
 rintro k ρ O ⟨rb,rc,rfl,hk,hH⟩
 obtain⟨fy,rfl⟩:=hH.elim
 clear hH
 refine aB cH (TO.ns (aH F (fun hc=>?_) (fun hc=>?_)))
 ·have nj:k<l.length:=by omega
  obtain⟨s,hsx,kB⟩: ∃s:Nat,l[k]=(s:Int)∧s<ks.length:=by
   have:=hl _ (ap nj)
   exact⟨l[k].toNat,by omega,by omega⟩
  have Hd:s<ns.length:=by rw[hN.l];exact kB
  have zY:=Kg ks l k
  refine aE (ba (aw (aB (b8 k underlying22 bt F F (fun w hI=>hI.sl hL)) (ad (dR underlying3 F F (fun w hI=>hI.sl hL) (show(ints l)[k]? =_ by rw[eu nj,hsx])) (ai (aB (bp 1 underlying108) (az (b8 s underlying108 eW F F (bU 2)) (bF (dR underlying4 F F (bU 2) gj) (T.cond F (fun hc=>?_) (fun hc=>?_))))))))))
  ·refine aJ ?_
   refine az (bp 3 underlying22) (az (b8 s underlying22 bt F F (bU 4)) (ad (dR underlying3 F F (bU 4) (show(bn ns)[s]? =some (vN (ei ks s)) by rw[dK Hd,hN.get Hd (by rw[gb kB];assumption)])) (au (dv (v:=vN (ei ks s)) underlying22 bt F F F (fun dk=>?_)))))
   refine au (dp 1 underlying22 underlying22 bt F F F F (by simp) (by decide) (Src.row (j:=0) F (by simp)) (by simp[fL]) (by omega) (by decide) (by decide) (fun dI c3=>?_))
   refine ai (aJ (ad (bK (b:=1) k F F (by omega)) (aS ?_)))
   refine⟨k+1,by omega,[ak dI c3 3 1 ((ints (eS ks (l.take k)))++[vN (ei ks s)]),oI b5 108 [(.slice kb ks.length kc)],ak kb kq 4 1 (bv ks),dC,dM],(aR [1,1,1,1,1]),dI,c3,?_,by omega,⟨F,F,F,(by rw[Ej nj hsx (by rw[gb kB];assumption),aI];rfl),F,F,F,trivial⟩⟩
   rw[Ej nj hsx (by rw[gb kB];assumption),show ints (eS ks (l.take k)++[((ei ks s:Nat):Int)])=ints (eS ks (l.take k))++[vN (ei ks s)]from aL]
  refine aE (aJ (ad (bK (b:=1) k F F (by omega)) (aS ?_)))
  refine⟨k+1,by omega,[ak rb rc 3 1 (ints (eS ks (l.take k))),oI b5 108 [(.slice kb ks.length kc)],ak kb kq 4 1 (bv ks),dC,dM],(aR [0,0,0,0,0]),rb,rc,?_,by omega,⟨F,F,F,(by rw[IR nj hsx (by rw[gb kB];simp_all)];rfl),F,F,F,trivial⟩⟩
  rw[IR nj hsx (by rw[gb kB];simp_all)]
 have IM: ¬k<l.length:=by omega
 refine bA ?_
 refine bI (bm ?_)
 refine aM (.slice rb ((eS ks (l.take k)).length) rc) results62 F ?_
 have hkt:l.take k=l:=aN (by omega)
 rw[hkt]
 exact⟨[ak rb rc 3 1 (ints (eS ks l)),oI b5 108 [(.slice kb ks.length kc)],ak kb kq 4 1 (bv ks),dC,dM],(aR [0,0,0,0,0]),rb,rc,F,F⟩
theorem IS {qs:List Rec} {u:Nat} (h:u<qs.length):(nums qs)[u]'(by simpa[nums]using h)=qs[u].xs:=by simp[nums]
theorem aaW (w:World) [eT prog w] (b:Bu) (sb eb tb:Option Addr) (sc ec tc:Nat) (vs:List Value) (h:nL w b sb eb tb vs) (hB:Aw b):
  cR prog 23 [.agg (bf b sb sc eb ec tb tc).toArray] w fun v N=> ∃MG eb2 qk MH ec2 oK qs,v=.tuple #[.agg (bf (eU b) MG MH eb2 ec2 qk oK).toArray,vI (cC b:Int)]∧N=[ak MG MH 3 1 (ints (eU b).start),ak eb2 ec2 106 4 (eX (eU b).ao),ak qk oK 22 1 (bW qs)]++bQ 3 qs∧nums qs=(eU b).aP:=by
 refine aF func23 F ntmps23 F ?_
 have mK:=hB.st;have Rf:=hB.ed;have JZ:=hB.se
 refine a8 (au (e5 ((bf b sb sc eb ec tb tc)) (fun dk=>?_)))
 refine au (bO eF (fun dI=>?_))
 refine ai (aB (eg 1 underlying26 eF) (TO.lc aaX (aK fun w1 hI=>(haveI:=Inv.tab (P:=prog) hI;WJ w1 b sb eb tb sc ec tc vs (hI.bu h) hB)) ?_))
 rintro vr O' ⟨N,rfl,lb,lc,rfl,rfl⟩
 refine az (bX _) (ad (bX _) (au (bO qG (fun fj=>?_))))
 refine au (cE [(.slice lb ((eP b).length) lc)] 0 qG ?_)
 refine bh (bJ (aQ (bF gB (aH F (fun hc=>?_) (fun hc=>?_)))))
 ·have aaY:cC b≠0:=by omega
  refine ba (T.dH 22 1 ?_)
  refine T.dH 106 4 ?_
  refine T.dH 3 1 ?_
  refine aJ (ad (eg 5 underlying26 eF) (aQ (au (cE [(vI 0),(vI 0),nS,nS,nS] 5 eF ?_))))
  refine bm ?_
  refine dT (vI (cC b:Int)) (i:=5) results23 underlying26 F eF F F F F ?_
  have WM:eU b=qJ:=by unfold eU;rw[ar (by omega)]
  refine⟨[ak none 0 3 1 [],ak none 0 106 4 [],ak none 0 22 1 []]++bQ 3 [],?_,none,none,none,0,0,0,[],?_,?_,?_⟩
  ·exact Sub.cO [oI fj 108 [(.slice lb ((eP b).length) lc)],ak lb lc 4 1 (bv (eP b)),oI dI 26 [(vI 0),(vI 0),nS,nS,nS],oI dk 26 (bf b sb sc eb ec tb tc)] (by intro a;simp only[bQ,oI,da,dJ,dq,cj,dl,bZ,bw,aL,bL,df,fF,gg,jq,vI,nS,aU,G4,aD,bf,c_]<;>omega)
  ·rw[WM];rfl
  ·rw[WM];rfl
  ·rw[WM];rfl
 have aaZ: ¬cC b≠0:=by omega
 refine aE (ba ?_)
 have he:cC b=0:=by omega
 have hv:eJ b:=gE.1 he
 have DS:=hv.n0;have hv4:=hv.n4;have L_:=hv.m8
 refine aJ (ad (bY underlying26 bt) (ad (bH (bp 3 underlying3) (v':=vI ((b.ae.toNat:Nat):Int)) (by show Value.int _ b.ae=_;rw[bq DS])) (au (cq b.ae.toNat underlying108 eW F F (by omega) (by omega) (fun fA=>?_)))))
 refine au (bO qG (fun fK=>?_))
 refine au (cE [(.slice (aD fA) b.ae.toNat b.ae.toNat)] 0 qG ?_)
 refine ko (au (bO cf (fun ig=>?_)))
 refine TO.nl (aB (dZ) (ai (aB (eg 6 underlying26 eF) (TO.lc Us (aK fun w1 hI=>(haveI:=Inv.tab (P:=prog) hI;xH w1 b sb eb tb sc ec tc vs (hI.bu h) hB hv)) ?_))))
 rintro vr O' ⟨N,rfl,kS,nQ,Zq,mc2,qs,ms,rfl,rfl,hg⟩
 refine cY (O':=([ak kS b.ae.toNat 22 1 (bW qs),ak Zq b.ae.toNat 96 1 (fe ms),oI ig 22 [nS],oI fK 108 [(.slice (aD fA) b.ae.toNat b.ae.toNat)],aU fA b.ae.toNat 4 1 (List.replicate b.ae.toNat (.bool false)),oI fj 108 [(.slice lb ((eP b).length) lc)],ak lb lc 4 1 (bv (eP b)),oI dI 26 [(vI 0),(vI 0),nS,nS,nS],oI dk 26 (bf b sb sc eb ec tb tc)]++(bQ 3 qs))) (Sub.cO [] (by intro a;simp only[bQ,oI,da,dJ,dq,cj,dl,bZ,bw,aL,bL,df,fF,gg,jq,vI,nS,aU,G4,aD,bf,c_]<;>omega)) ?_
 refine ad (Ry underlying98 F underlying24 F F F) (bh (bJ (ad (bY underlying26 cf) (ad (bp 8 underlying22) (ad (bV underlying22) (aS (aw (T.dH 3 1 ?_))))))))
 refine cV (O':=[oI fj 108 [(.slice lb ((eP b).length) lc)],ak lb lc 4 1 (bv (eP b)),oI fK 108 [(.slice (aD fA) b.ae.toNat b.ae.toNat)],aU fA b.ae.toNat 4 1 (List.replicate b.ae.toNat (.bool false)),oI ig 22 [nS],ak none 0 3 1 [],oI dI 26 [(vI 0),(vI 0),nS,nS,nS],oI dk 26 (bf b sb sc eb ec tb tc),ak kS b.ae.toNat 22 1 (bW qs)]++bQ 3 qs) (dx [6,6,4,4,3,0,2,2,0] [ak none 0 3 1 [],ak kS b.ae.toNat 22 1 (bW qs),ak Zq b.ae.toNat 96 1 (fe ms),oI ig 22 [nS],oI fK 108 [(.slice (aD fA) b.ae.toNat b.ae.toNat)],aU fA b.ae.toNat 4 1 (List.replicate b.ae.toNat (.bool false)),oI fj 108 [(.slice lb ((eP b).length) lc)],ak lb lc 4 1 (bv (eP b)),oI dI 26 [(vI 0),(vI 0),nS,nS,nS],oI dk 26 (bf b sb sc eb ec tb tc)] (bQ 3 qs) F F) ?_
 have tD:qs.length=b.ae.toNat:=by have h9:=hg.r.l;simpa[nums]using h9
 refine cX (fun(k:Nat) ρ O=> ∃(ka:List Bool) (ta:List Nat) (Kh:Option Addr) (Ki:Nat),O=([oI fj 108 [(.slice lb ((eP b).length) lc)],ak lb lc 4 1 (bv (eP b)),oI fK 108 [(.slice (aD fA) b.ae.toNat b.ae.toNat)],aU fA b.ae.toNat 4 1 (bv ka),oI ig 22 [(.slice Kh ta.length Ki)],ak Kh Ki 3 1 (bn ta),oI dI 26 [(vI 0),(vI 0),nS,nS,nS],oI dk 26 (bf b sb sc eb ec tb tc),ak kS b.ae.toNat 22 1 (bW qs)]++(bQ 3 qs))∧k≤b.start.length∧oQ (nums qs) (fun v=>(eP b).getD v false) b.start (fun _=>False) ka ta k (nums qs).length 0∧cL [(0,(.agg (bf b sb sc eb ec tb tc).toArray)),(1,(.pointer (aD dk))),(2,(.pointer (aD dI))),(3,vI (cC b:Int)),(4,(.pointer (aD fj))),(5,(.pointer (aD fK))),(6,(.pointer (aD ig))),(7,(.func (.func 60) #[] #[(.pointer (aD fj)),(.pointer (aD fK)),(.pointer (aD ig))])),(8,(.slice kS b.ae.toNat nQ)),(38,(.slice sb b.start.length sc)),(39,vI (b.start.length:Int)),(40,vI (k:Int))] ρ) (fun k=>b.start.length-k) 0 ?_ ?_
 ·refine⟨List.replicate b.ae.toNat false,[],none,0,by simp only[List.map_replicate];rfl,aG _,?_,(.of F)⟩
  have h9:=Aa (nx:=nums qs) (al:=(fun v=>(eP b).getD v false)) (fun _=>False) (roots:=b.start) (todo:=[]) (fun _ h=>h.elim) (fun u h=>absurd h (List.not_mem_nil)) (aG _)
  rw[hg.r.l]at h9⊢;exact h9
 rintro k ρ O ⟨ka,ta,Kh,Ki,rfl,hk,hsa,hH⟩
 obtain⟨fy,rfl⟩:=hH.elim
 clear hH
 have hka:ka.length=b.ae.toNat:=by rw[hsa.l,hg.r.l]
 have hma:=hsa.mu
 rw[hg.r.l]at hma
 refine aB cH (TO.ns (aH F (fun hc=>?_) (fun hc=>?_)))
 ·have Eh:k<b.start.length:=by omega
  obtain⟨x,hx,Uk⟩: ∃x:Nat,b.start[k]=(x:Int)∧x<b.ae.toNat:=by
   have:=hv.st _ (ap Eh)
   exact⟨b.start[k].toNat,by omega,by omega⟩
  refine aE (ba (aw (aB (b8 k underlying22 bt F F (bS h.st)) (ad (eA underlying3 F F h.st (show(ints b.start)[k]? =_ by rw[eu Eh,hx])) (ai (aJ (dr ?_)))))))
  have aa0:=((b_ (first:=[]) (args:=[vI ((x:Nat):Int)]) (fU:=[.pointer (aD fj),.pointer (aD fK),.pointer (aD ig)]) UB (by
   have h9:=AJ w fj fK ig lb (aD fA) Kh lc lc b.ae.toNat b.ae.toNat Ki (eP b) ka ta x (by rw[xB he];omega) (by omega) (by omega)
   rw[hka]at h9;exact h9)).under (B:=[oI dI 26 [(vI 0),(vI 0),nS,nS,nS],oI dk 26 (bf b sb sc eb ec tb tc),ak kS b.ae.toNat 22 1 (bW qs)]++bQ 3 qs) (O:=([oI fj 108 [(.slice lb ((eP b).length) lc)],ak lb lc 4 1 (bv (eP b)),oI fK 108 [(.slice (aD fA) b.ae.toNat b.ae.toNat)],aU fA b.ae.toNat 4 1 (bv ka),oI ig 22 [(.slice Kh ta.length Ki)],ak Kh Ki 3 1 (bn ta),oI dI 26 [(vI 0),(vI 0),nS,nS,nS],oI dk 26 (bf b sb sc eb ec tb tc),ak kS b.ae.toNat 22 1 (bW qs)]++(bQ 3 qs))) (bj (ay _)))
  refine au (et aa0 F F ?_)
  clear aa0
  rintro vr O' ⟨A1,rfl,tb8,tc8,rfl⟩
  refine TO.nl (aJ (ad (bK (b:=1) k F F (by omega)) (aS ?_)))
  exact⟨k+1,by omega,_,_,tb8,tc8,F,by omega,hsa.root Eh hx (by rw[hg.r.l];exact Uk),(.of F)⟩
 have Uz: ¬k<b.start.length:=by omega
 refine bA ?_
 refine ba (aw ?_)
 have J4:k=b.start.length:=by omega
 subst J4
 refine cX (fun(M:Nat) ρ O=> ∃(ks:List Bool) (todo:List Nat) (qk:Option Addr) (oK pj jl:Nat),O=([oI fj 108 [(.slice lb ((eP b).length) lc)],ak lb lc 4 1 (bv (eP b)),oI fK 108 [(.slice (aD fA) b.ae.toNat b.ae.toNat)],aU fA b.ae.toNat 4 1 (bv ks),oI ig 22 [(.slice qk todo.length oK)],ak qk oK 3 1 (bn todo),oI dI 26 [(vI 0),(vI 0),nS,nS,nS],oI dk 26 (bf b sb sc eb ec tb tc),ak kS b.ae.toNat 22 1 (bW qs)]++(bQ 3 qs))∧oQ (nums qs) (fun v=>(eP b).getD v false) b.start (fun _=>False) ks todo b.start.length pj jl∧(∀r,(nums qs)[pj]? =some r→r.length≤jl)∧todo.length+ks.count false=M∧cL [(0,(.agg (bf b sb sc eb ec tb tc).toArray)),(1,(.pointer (aD dk))),(2,(.pointer (aD dI))),(3,vI (cC b:Int)),(4,(.pointer (aD fj))),(5,(.pointer (aD fK))),(6,(.pointer (aD ig))),(7,(.func (.func 60) #[] #[(.pointer (aD fj)),(.pointer (aD fK)),(.pointer (aD ig))])),(8,(.slice kS b.ae.toNat nQ))] ρ) (fun M=>M) (ta.length+ka.count false) ?_ ?_
 ·exact⟨ka,ta,Kh,Ki,(nums qs).length,0,F,hsa,(fun r hr=>by rw[dL (aV _)]at hr;cases hr),rfl,(.of rfl)⟩
 rintro M ρ O ⟨ks,todo,qk,oK,pj,jl,rfl,MV,qc,hM,hH⟩
 obtain⟨fy,rfl⟩:=hH.elim
 clear hH
 have UC:ks.length=b.ae.toNat:=by rw[MV.l,hg.r.l]
 have MN:=MV.mu
 rw[hg.r.l]at MN
 refine ba (aB (bp 4 underlying22) (ad (bV underlying22) (bF fg (aH F (fun hc=>?_) (fun hc=>?_)))))
 ·have j8:todo.length>0:=by omega
  obtain⟨u,rest,htd⟩: ∃u rest,todo=u::rest:=List.exists_cons_of_length_pos (by omega)
  refine aE (aw (aB (bp 4 underlying22) (ad (b8 0 underlying22 bt F F (bU 5)) (ad (dR underlying3 F F (bU 5) (show(bn todo)[0]? =some (vI ((u:Nat):Int)) by rw[htd];rfl)) (ai (aB (bp 4 underlying22) (au (MW 5 underlying22 bt (by decide) F F F (by simp) (by omega) (fun mL=>?_)))))))))
  refine au (cE [(.slice mL (todo.length-1) (oK-1))] 4 cf ?_)
  refine TO.ns ?_
  refine cV (O':=[oI fj 108 [(.slice lb ((eP b).length) lc)],ak lb lc 4 1 (bv (eP b)),oI fK 108 [(.slice (aD fA) b.ae.toNat b.ae.toNat)],aU fA b.ae.toNat 4 1 (bv ks),oI ig 22 [(.slice mL todo.tail.length (oK-1))],ak mL (oK-1) 3 1 (bn todo.tail),oI dI 26 [(vI 0),(vI 0),nS,nS,nS],oI dk 26 (bf b sb sc eb ec tb tc),ak kS b.ae.toNat 22 1 (bW qs)]++bQ 3 qs) (by rw[show bn todo.tail=(bn todo).drop 1 by cases todo<;>rfl,List.length_tail];exact bj (ay _)) ?_
  have tC:u<b.ae.toNat:=by have h9:=(MV.td u (by rw[htd];simp)).1;rw[hg.r.l]at h9;exact h9
  have Az:u<qs.length:=by omega
  have hqr:=hg.r.rl Az
  have hku:ks.getD u false=true:=(MV.td u (by rw[htd];simp)).2.elim (fun q=>q.elim) id
  have Me:todo.length=todo.tail.length+1:=by rw[htd];rfl
  have hp:oQ (nums qs) (fun v=>(eP b).getD v false) b.start (fun _=>False) ks todo.tail b.start.length u 0:=by
   rw[htd]at MV⊢;exact MV.pop qc
  refine aJ (aQ (az (b8 u underlying24 cf F F (bU 8)) (ad (dR underlying22 F F (bU 8) (tI Az)) (ad (bV underlying22) (aS (aw ?_))))))
  refine cX (fun(j:Nat) ρ O=> ∃(k3:List Bool) (t3:List Nat) (WN:Option Addr) (WO:Nat),O=([oI fj 108 [(.slice lb ((eP b).length) lc)],ak lb lc 4 1 (bv (eP b)),oI fK 108 [(.slice (aD fA) b.ae.toNat b.ae.toNat)],aU fA b.ae.toNat 4 1 (bv k3),oI ig 22 [(.slice WN t3.length WO)],ak WN WO 3 1 (bn t3),oI dI 26 [(vI 0),(vI 0),nS,nS,nS],oI dk 26 (bf b sb sc eb ec tb tc),ak kS b.ae.toNat 22 1 (bW qs)]++(bQ 3 qs))∧j≤qs[u].xs.length∧oQ (nums qs) (fun v=>(eP b).getD v false) b.start (fun _=>False) k3 t3 b.start.length u j∧t3.length+k3.count false+1=M∧k3.getD u false=true∧cL [(0,(.agg (bf b sb sc eb ec tb tc).toArray)),(1,(.pointer (aD dk))),(2,(.pointer (aD dI))),(3,vI (cC b:Int)),(4,(.pointer (aD fj))),(5,(.pointer (aD fK))),(6,(.pointer (aD ig))),(7,(.func (.func 60) #[] #[(.pointer (aD fj)),(.pointer (aD fK)),(.pointer (aD ig))])),(8,(.slice kS b.ae.toNat nQ)),(11,vI ((u:Nat):Int)),(59,(.slice qs[u].b qs[u].xs.length qs[u].c)),(60,vI (qs[u].xs.length:Int)),(61,vI (j:Int))] ρ) (fun j=>qs[u].xs.length-j) 0 ?_ ?_
  ·exact⟨ks,todo.tail,mL,oK-1,F,aG _,hp,by omega,hku,(.of F)⟩
  rintro j ρ O ⟨k3,t3,WN,WO,rfl,hj,hs3,hM3,hk3,hH⟩
  obtain⟨fy,rfl⟩:=hH.elim
  clear hH
  have hkc:k3.length=b.ae.toNat:=by rw[hs3.l,hg.r.l]
  have Zr:=hs3.mu
  rw[hg.r.l]at Zr
  refine aB cH (TO.ns (aH F (fun hc=>?_) (fun hc=>?_)))
  ·have IU:j<qs[u].xs.length:=by omega
   obtain⟨y,hy,hyn⟩: ∃y:Nat,qs[u].xs[j]=(y:Int)∧y<b.ae.toNat:=by
    have h9:=hg.ok hv qs[u].xs (List.mem_map.2 ⟨_,ap Az,F⟩) _ (ap IU)
    rw[hg.r.l]at h9
    exact⟨qs[u].xs[j].toNat,by omega,by omega⟩
   refine aE (ba (aw (aB (b8 j underlying22 bt F F (fun w hI=>hI.ga (jr (E:=3) Az))) (ad (dR underlying3 F F (fun w hI=>hI.ga (jr (E:=3) Az)) (show(ints qs[u].xs)[j]? =_ by rw[eu IU,hy])) (ai (aJ (dr ?_)))))))
   have aa3:=((b_ (first:=[]) (args:=[vI ((y:Nat):Int)]) (fU:=[.pointer (aD fj),.pointer (aD fK),.pointer (aD ig)]) UB (by
    have h9:=AJ w fj fK ig lb (aD fA) WN lc lc b.ae.toNat b.ae.toNat WO (eP b) k3 t3 y (by rw[xB he];omega) (by omega) (by omega)
    rw[hkc]at h9;exact h9)).under (B:=[oI dI 26 [(vI 0),(vI 0),nS,nS,nS],oI dk 26 (bf b sb sc eb ec tb tc),ak kS b.ae.toNat 22 1 (bW qs)]++bQ 3 qs) (O:=([oI fj 108 [(.slice lb ((eP b).length) lc)],ak lb lc 4 1 (bv (eP b)),oI fK 108 [(.slice (aD fA) b.ae.toNat b.ae.toNat)],aU fA b.ae.toNat 4 1 (bv k3),oI ig 22 [(.slice WN t3.length WO)],ak WN WO 3 1 (bn t3),oI dI 26 [(vI 0),(vI 0),nS,nS,nS],oI dk 26 (bf b sb sc eb ec tb tc),ak kS b.ae.toNat 22 1 (bW qs)]++(bQ 3 qs))) (bj (ay _)))
   refine au (et aa3 F F ?_)
   clear aa3
   rintro vr O' ⟨A1,rfl,tb7,tc7,rfl⟩
   refine TO.nl (aJ (ad (bK (b:=1) j F F (by omega)) (aS ?_)))
   have aa4:=hs3.Ab (by rw[hg.r.l];omega) (.inr hk3) (by rw[IS Az];exact IU) (by simp only[IS Az];exact hy) (by rw[hg.r.l];exact hyn)
   exact⟨j+1,by omega,_,_,tb7,tc7,F,by omega,aa4.1,by have:=aa4.2;omega,va _ hk3,(.of F)⟩
  have aa5: ¬j<qs[u].xs.length:=by omega
  refine bA ?_
  exact⟨M-1,by omega,k3,t3,WN,WO,u,j,F,hs3,(fun r hr=>by
   have h9:(nums qs)[u]? =some qs[u].xs:=by simp[nums,Az]
   rw[h9]at hr;cases hr;omega),by omega,(.of F)⟩
 have IE: ¬todo.length>0:=by omega
 refine bA ?_
 refine aB (bY underlying26 bt) (ad (bH (bp 7 underlying3) (v':=vI ((b.ae.toNat:Nat):Int)) (by show Value.int _ b.ae=_;rw[bq DS])) (au (cq b.ae.toNat underlying22 bt F F (by omega) (by omega) (fun gF=>?_))))
 refine au (bO cf (fun nZ=>?_))
 refine au (cE [(.slice (aD gF) b.ae.toNat b.ae.toNat)] 0 cf ?_)
 refine bJ (ad (bp 0 underlying22) (ad (bV underlying22) (aS (aw ?_))))
 refine cV (O':=[oI fK 108 [(.slice (aD fA) b.ae.toNat b.ae.toNat)],aU fA b.ae.toNat 4 1 (bv ks),oI nZ 22 [(.slice (aD gF) b.ae.toNat b.ae.toNat)],aU gF b.ae.toNat 3 1 (List.replicate b.ae.toNat (vI 0)),oI dI 26 [(vI 0),(vI 0),nS,nS,nS],oI dk 26 (bf b sb sc eb ec tb tc)]) (fu [4,4,0,0,4,4] [oI nZ 22 [(.slice (aD gF) b.ae.toNat b.ae.toNat)],aU gF b.ae.toNat 3 1 (List.replicate b.ae.toNat (vI 0)),oI fj 108 [(.slice lb ((eP b).length) lc)],ak lb lc 4 1 (bv (eP b)),oI fK 108 [(.slice (aD fA) b.ae.toNat b.ae.toNat)],aU fA b.ae.toNat 4 1 (bv ks),oI ig 22 [(.slice qk todo.length oK)],ak qk oK 3 1 (bn todo),oI dI 26 [(vI 0),(vI 0),nS,nS,nS],oI dk 26 (bf b sb sc eb ec tb tc),ak kS b.ae.toNat 22 1 (bW qs)] (bQ 3 qs) F F) ?_
 have htn:todo=[]:=List.eq_nil_of_length_eq_zero (by omega)
 have MX:ks=gX b:=MY UC (fun v DC=>((show oQ (nums qs) (fun v=>(eP b).getD v false) b.start (fun _=>False) ks [] b.start.length pj jl by rw[←htn];exact MV).done (hg.ok hv) (aV _) qc v).trans (Kj he hv hg DC))
 refine cX (fun(k4:Nat) ρ O=> ∃(ns:List Nat),O=[oI fK 108 [(.slice (aD fA) b.ae.toNat b.ae.toNat)],aU fA b.ae.toNat 4 1 (bv ks),oI nZ 22 [(.slice (aD gF) b.ae.toNat b.ae.toNat)],aU gF b.ae.toNat 3 1 (bn ns),oI dI 26 [(vI 0),(vI ((ei ks k4:Nat):Int)),nS,nS,nS],oI dk 26 (bf b sb sc eb ec tb tc)]∧k4≤b.ae.toNat∧tP ks k4 ns∧cL [(0,(.agg (bf b sb sc eb ec tb tc).toArray)),(1,(.pointer (aD dk))),(2,(.pointer (aD dI))),(3,vI (cC b:Int)),(4,(.pointer (aD fj))),(5,(.pointer (aD fK))),(6,(.pointer (aD ig))),(7,(.func (.func 60) #[] #[(.pointer (aD fj)),(.pointer (aD fK)),(.pointer (aD ig))])),(8,(.slice kS b.ae.toNat nQ)),(14,(.pointer (aD nZ))),(73,vI (b.ae.toNat:Int)),(74,vI (k4:Int))] ρ) (fun k4=>b.ae.toNat-k4) 0 ?_ ?_
 ·exact⟨List.replicate b.ae.toNat 0,by simp only[List.map_replicate];rfl,aG _,(by rw[←UC];exact tP.start ks),(.of F)⟩
 rintro k4 ρ O ⟨ns,rfl,hk4,hN,hH⟩
 obtain⟨fy,rfl⟩:=hH.elim
 clear hH
 have BR:ns.length=b.ae.toNat:=by rw[hN.l,UC]
 have nN:=Rz ks k4
 refine aB cH (TO.ns (aH F (fun hc=>?_) (fun hc=>?_)))
 ·have UD:k4<b.ae.toNat:=by omega
  refine aE (ba (aw (bI (ai (aB (bp 0 underlying108) (az (b8 k4 underlying108 eW F F (bU 1)) (bF (dR underlying4 F F (bU 1) gj) (T.cond F (fun hc=>?_) (fun hc=>?_)))))))))
  ·refine ba ?_
   refine aJ (ad (bp 2 underlying22) (az (bY underlying26 bt) (ad (bp 4 underlying3) (ad (b8 k4 underlying22 bt F F (bU 3)) (au (gw (v:=(vI ((ei ks k4:Nat):Int))) (vs:=[(vI ((ei ks k4:Nat):Int))]) (cs:=bn ns) k4 3 bt F F F F F (by simp) F (by first|(simp;omega)|(simp_all;omega)) ?_))))))
   refine cY (O':=[oI fK 108 [(.slice (aD fA) b.ae.toNat b.ae.toNat)],aU fA b.ae.toNat 4 1 (bv ks),oI nZ 22 [(.slice (aD gF) b.ae.toNat b.ae.toNat)],aU gF b.ae.toNat 3 1 (bn (ns.set k4 (ei ks k4))),oI dI 26 [(vI 0),(vI ((ei ks k4:Nat):Int)),nS,nS,nS],oI dk 26 (bf b sb sc eb ec tb tc)]) (by rw[show dq (bn ns) k4 [(vI ((ei ks k4:Nat):Int))]=bn (ns.set k4 (ei ks k4))from(by simp[dq])];exact bj (ay _)) ?_
   refine TO.nl (aJ (ad (bY underlying26 bt) (ad (bp 4 underlying3) (ad (bK (b:=1) ((ei ks k4)) F F (by omega)) (ad (bY underlying26 bt) (au (cE [(vI (((ei ks k4)+1:Nat):Int))] 4 bt ?_)))))))
   refine TO.nl (aJ (ad (bK (b:=1) k4 F F (by omega)) (aS ?_)))
   refine⟨k4+1,by omega,ns.set k4 (ei ks k4),?_,by omega,hN.UE (by omega),(.of F)⟩
   rw[oR (by omega),aA (by rw[gb (by omega)];assumption)];rfl
  refine aE (aJ (ad (bK (b:=1) k4 F F (by omega)) (aS ?_)))
  refine⟨k4+1,by omega,ns,?_,by omega,hN.no (by rw[gb (by omega)];simp_all),(.of F)⟩
  rw[oR (by omega),ar (by rw[gb (by omega)];simp_all),Nat.add_zero]
 have UF: ¬k4<b.ae.toNat:=by omega
 refine bA ?_
 refine ba ?_
 have agl:k4=b.ae.toNat:=by omega
 have hNN:tP ks ks.length ns:=by rw[UC,←agl];exact hN
 refine aJ (ad (dZ) (ai (ba ?_)))
 refine T.ds [oI dk 26 (bf b sb sc eb ec tb tc)] [(0,0),(1,0),(2,0),(3,0),(4,0),(6,0),(5,1),(7,2),(8,2),(9,2)] (aR [5]) ?_
 refine am F (bY underlying26 bt) (am F (bp 0 underlying3) (am F aC (am F (bY underlying26 cf) (am F (bp 0 underlying22) (am F (bY underlying26 bt) ?_)))))
 have aa6:=((b_ (first:=[]) (args:=[.slice sb b.start.length sc]) (fU:=[.pointer (aD fK),.pointer (aD nZ)]) UG (by
  have h9:=xP w fK nZ (aD fA) (aD gF) sb b.ae.toNat b.ae.toNat b.ae.toNat b.ae.toNat sc ks ns b.start hNN h.st (fun x hx=>by have:=hv.st x hx;omega) (by omega)
  rw[UC,BR]at h9;exact h9)).under (B:=[oI dI 26 [(vI 0),(vI ((ei ks k4:Nat):Int)),nS,nS,nS],oI dk 26 (bf b sb sc eb ec tb tc)]) (O:=[oI fK 108 [(.slice (aD fA) b.ae.toNat b.ae.toNat)],aU fA b.ae.toNat 4 1 (bv ks),oI nZ 22 [(.slice (aD gF) b.ae.toNat b.ae.toNat)],aU gF b.ae.toNat 3 1 (bn ns),oI dI 26 [(vI 0),(vI ((ei ks k4:Nat):Int)),nS,nS,nS],oI dk 26 (bf b sb sc eb ec tb tc)]) (aR [0,0,0,0,0,0]))
 refine eH F F (et aa6 F F ?_)
 clear aa6
 rintro vr O' ⟨A1,rfl,nn,np,rfl,rfl⟩
 refine⟨aR [6],?_⟩
 refine cG F F (cE [(vI b.vars)] 5 bt ?_)
 refine cG F F (iE F F (bY underlying26 cf) ?_)
 refine cG F F (cE [(.slice nn ((eS ks b.start).length) np)] 5 cf ?_)
 refine cl ?_
 refine ba (aB (bY underlying26 dQ) (ad (bp 6 underlying24) (ad (bV underlying24) (aS (aw (T.dH 22 1 ?_))))))
 refine cV (O':=[ak none 0 22 1 [],ak nn np 3 1 (ints (eS ks b.start)),oI fK 108 [(.slice (aD fA) b.ae.toNat b.ae.toNat)],aU fA b.ae.toNat 4 1 (bv ks),oI nZ 22 [(.slice (aD gF) b.ae.toNat b.ae.toNat)],aU gF b.ae.toNat 3 1 (bn ns),oI dI 26 [(vI b.vars),(vI ((ei ks k4:Nat):Int)),(.slice nn ((eS ks b.start).length) np),nS,nS],oI dk 26 (bf b sb sc eb ec tb tc)]++bQ 3 []) (bj (ay _)) ?_
 refine cX (fun(k5:Nat) ρ O=> ∃(q5:List Rec) (pD:Option Addr) (pE:Nat),O=([ak pD pE 22 1 (bW q5),ak nn np 3 1 (ints (eS ks b.start)),oI fK 108 [(.slice (aD fA) b.ae.toNat b.ae.toNat)],aU fA b.ae.toNat 4 1 (bv ks),oI nZ 22 [(.slice (aD gF) b.ae.toNat b.ae.toNat)],aU gF b.ae.toNat 3 1 (bn ns),oI dI 26 [(vI b.vars),(vI ((ei ks k4:Nat):Int)),(.slice nn ((eS ks b.start).length) np),nS,(.slice pD k5 pE)],oI dk 26 (bf b sb sc eb ec tb tc)]++(bQ 3 q5))∧k5≤b.aP.length∧nums q5=(b.aP.take k5).map (eS ks)∧cL [(0,(.agg (bf b sb sc eb ec tb tc).toArray)),(1,(.pointer (aD dk))),(2,(.pointer (aD dI))),(3,vI (cC b:Int)),(4,(.pointer (aD fj))),(5,(.pointer (aD fK))),(6,(.pointer (aD ig))),(7,(.func (.func 60) #[] #[(.pointer (aD fj)),(.pointer (aD fK)),(.pointer (aD ig))])),(8,(.slice kS b.ae.toNat nQ)),(14,(.pointer (aD nZ))),(16,(.func (.func 62) #[] #[(.pointer (aD fK)),(.pointer (aD nZ))])),(101,(.slice tb b.aP.length tc)),(102,vI (b.aP.length:Int)),(103,vI (k5:Int))] ρ) (fun k5=>b.aP.length-k5) 0 ?_ ?_
 ·exact⟨[],none,0,F,aG _,F,(.of F)⟩
 rintro k5 ρ O ⟨q5,pD,pE,rfl,hk5,hq5,hH⟩
 obtain⟨fy,rfl⟩:=hH.elim
 clear hH
 have alj:q5.length=k5:=by have h9:=av List.length hq5;simp[nums]at h9;omega
 refine aB cH (TO.ns (aH F (fun hc=>?_) (fun hc=>?_)))
 ·have u4:k5<b.aP.length:=by omega
  obtain⟨sbk,sck,g1,s1⟩:=h.rows.get u4
  refine aE (ba (aw (aB (b8 k5 underlying24 cf F F (bS h.out) (by first|assumption|omega|(simp;omega)|simp_all) (by rw[h.rows.1];exact u4)) (ad (eA underlying22 F F h.out g1) (ai ?_)))))
  refine T.ds [oI fK 108 [(.slice (aD fA) b.ae.toNat b.ae.toNat)],aU fA b.ae.toNat 4 1 (bv ks),oI nZ 22 [(.slice (aD gF) b.ae.toNat b.ae.toNat)],aU gF b.ae.toNat 3 1 (bn ns),oI dI 26 [(vI b.vars),(vI ((ei ks k4:Nat):Int)),(.slice nn ((eS ks b.start).length) np),nS,(.slice pD k5 pE)],oI dk 26 (bf b sb sc eb ec tb tc)] [(0,0),(1,0),(2,0),(3,0),(4,1),(5,1),(6,2),(7,2),(8,2)] (fu [2,2,2,2,2,2] [ak pD pE 22 1 (bW q5),ak nn np 3 1 (ints (eS ks b.start)),oI fK 108 [(.slice (aD fA) b.ae.toNat b.ae.toNat)],aU fA b.ae.toNat 4 1 (bv ks),oI nZ 22 [(.slice (aD gF) b.ae.toNat b.ae.toNat)],aU gF b.ae.toNat 3 1 (bn ns),oI dI 26 [(vI b.vars),(vI ((ei ks k4:Nat):Int)),(.slice nn ((eS ks b.start).length) np),nS,(.slice pD k5 pE)],oI dk 26 (bf b sb sc eb ec tb tc)] (bQ 3 q5) F F) ?_
  refine am F (bY underlying26 dQ) (am F (bp 4 underlying24) (am F aC (am F aC ?_)))
  have UH:=((b_ (first:=[]) (args:=[.slice sbk b.aP[k5].length sck]) (fU:=[.pointer (aD fK),.pointer (aD nZ)]) UG (by
   have h9:=xP w fK nZ (aD fA) (aD gF) sbk b.ae.toNat b.ae.toNat b.ae.toNat b.ae.toNat sck ks ns b.aP[k5] hNN s1 (fun x hx=>by have:=hv.se _ (ap u4) x hx;omega) (hB.sr _ (ap u4))
   rw[UC,BR]at h9;exact h9)).under (B:=[ak pD pE 22 1 (bW q5),ak nn np 3 1 (ints (eS ks b.start)),oI dI 26 [(vI b.vars),(vI ((ei ks k4:Nat):Int)),(.slice nn ((eS ks b.start).length) np),nS,(.slice pD k5 pE)],oI dk 26 (bf b sb sc eb ec tb tc)]++(bQ 3 q5)) (O:=([ak pD pE 22 1 (bW q5),ak nn np 3 1 (ints (eS ks b.start)),oI fK 108 [(.slice (aD fA) b.ae.toNat b.ae.toNat)],aU fA b.ae.toNat 4 1 (bv ks),oI nZ 22 [(.slice (aD gF) b.ae.toNat b.ae.toNat)],aU gF b.ae.toNat 3 1 (bn ns),oI dI 26 [(vI b.vars),(vI ((ei ks k4:Nat):Int)),(.slice nn ((eS ks b.start).length) np),nS,(.slice pD k5 pE)],oI dk 26 (bf b sb sc eb ec tb tc)]++(bQ 3 q5))) (dx [2,2,2,2,0,0,0,0] [ak pD pE 22 1 (bW q5),ak nn np 3 1 (ints (eS ks b.start)),oI fK 108 [(.slice (aD fA) b.ae.toNat b.ae.toNat)],aU fA b.ae.toNat 4 1 (bv ks),oI nZ 22 [(.slice (aD gF) b.ae.toNat b.ae.toNat)],aU gF b.ae.toNat 3 1 (bn ns),oI dI 26 [(vI b.vars),(vI ((ei ks k4:Nat):Int)),(.slice nn ((eS ks b.start).length) np),nS,(.slice pD k5 pE)],oI dk 26 (bf b sb sc eb ec tb tc)] (bQ 3 q5) F F))
  refine eH F F (et UH F F ?_)
  clear UH
  rintro vr O' ⟨A1,rfl,GK,GL,rfl,rfl⟩
  refine⟨fu [1,1,1,1,3,3] [ak GK GL 3 1 (ints (eS ks b.aP[k5])),oI fK 108 [(.slice (aD fA) b.ae.toNat b.ae.toNat)],aU fA b.ae.toNat 4 1 (bv ks),oI nZ 22 [(.slice (aD gF) b.ae.toNat b.ae.toNat)],aU gF b.ae.toNat 3 1 (bn ns),ak pD pE 22 1 (bW q5),ak nn np 3 1 (ints (eS ks b.start)),oI dI 26 [(vI b.vars),(vI ((ei ks k4:Nat):Int)),(.slice nn ((eS ks b.start).length) np),nS,(.slice pD k5 pE)],oI dk 26 (bf b sb sc eb ec tb tc)] (bQ 3 q5) F F,?_⟩
  refine eH F F (dv (v:=(.slice GK ((eS ks b.aP[k5]).length) GL)) underlying24 cf F F F (fun uX=>⟨fu [2,2,2,2,4,4] [aU uX 1 22 1 [(.slice GK ((eS ks b.aP[k5]).length) GL)],ak GK GL 3 1 (ints (eS ks b.aP[k5])),oI fK 108 [(.slice (aD fA) b.ae.toNat b.ae.toNat)],aU fA b.ae.toNat 4 1 (bv ks),oI nZ 22 [(.slice (aD gF) b.ae.toNat b.ae.toNat)],aU gF b.ae.toNat 3 1 (bn ns),ak pD pE 22 1 (bW q5),ak nn np 3 1 (ints (eS ks b.start)),oI dI 26 [(vI b.vars),(vI ((ei ks k4:Nat):Int)),(.slice nn ((eS ks b.start).length) np),nS,(.slice pD k5 pE)],oI dk 26 (bf b sb sc eb ec tb tc)] (bQ 3 q5) F F,?_⟩))
  refine cG F F (dp 6 underlying24 underlying24 cf F F F F (by simp[bW];omega) (by decide) (Src.row (j:=0) F (by simp)) (by simp[fL]) (by omega) (by decide) (by decide) (fun xQ UI=>?_))
  refine cG F F (iE F F (bY underlying26 dQ) ?_)
  refine cG F F (cE [(.slice xQ (k5+1) UI)] 8 dQ ?_)
  refine eM (O':=[ak GK GL 3 1 (ints (eS ks b.aP[k5])),ak xQ UI 22 1 ((bW q5)++[(.slice GK ((eS ks b.aP[k5]).length) GL)]),ak nn np 3 1 (ints (eS ks b.start)),oI fK 108 [(.slice (aD fA) b.ae.toNat b.ae.toNat)],aU fA b.ae.toNat 4 1 (bv ks),oI nZ 22 [(.slice (aD gF) b.ae.toNat b.ae.toNat)],aU gF b.ae.toNat 3 1 (bn ns),oI dI 26 [(vI b.vars),(vI ((ei ks k4:Nat):Int)),(.slice nn ((eS ks b.start).length) np),nS,(.slice xQ (k5+1) UI)],oI dk 26 (bf b sb sc eb ec tb tc)]++bQ 3 q5) (dx [1,5,5,1,1,1,1,1,1] [aU uX 1 22 1 [(.slice GK ((eS ks b.aP[k5]).length) GL)],ak GK GL 3 1 (ints (eS ks b.aP[k5])),oI fK 108 [(.slice (aD fA) b.ae.toNat b.ae.toNat)],aU fA b.ae.toNat 4 1 (bv ks),oI nZ 22 [(.slice (aD gF) b.ae.toNat b.ae.toNat)],aU gF b.ae.toNat 3 1 (bn ns),ak xQ UI 22 1 ((bW q5)++[(.slice GK ((eS ks b.aP[k5]).length) GL)]),ak nn np 3 1 (ints (eS ks b.start)),oI dI 26 [(vI b.vars),(vI ((ei ks k4:Nat):Int)),(.slice nn ((eS ks b.start).length) np),nS,(.slice xQ (k5+1) UI)],oI dk 26 (bf b sb sc eb ec tb tc)] (bQ 3 q5) F F) ?_
  refine eM (O':=[ak xQ UI 22 1 ((bW q5)++[(.slice GK ((eS ks b.aP[k5]).length) GL)]),ak nn np 3 1 (ints (eS ks b.start)),oI fK 108 [(.slice (aD fA) b.ae.toNat b.ae.toNat)],aU fA b.ae.toNat 4 1 (bv ks),oI nZ 22 [(.slice (aD gF) b.ae.toNat b.ae.toNat)],aU gF b.ae.toNat 3 1 (bn ns),oI dI 26 [(vI b.vars),(vI ((ei ks k4:Nat):Int)),(.slice nn ((eS ks b.start).length) np),nS,(.slice xQ (k5+1) UI)],oI dk 26 (bf b sb sc eb ec tb tc)]++bQ 3 (q5++[⟨GK,GL,eS ks b.aP[k5]⟩])) (Sub.cO [] (by intro a;simp only[bQ,Rec.jS,oI,da,dJ,dq,cj,dl,bZ,bw,aL,bL,df,fF,gg,jq,vI,nS,aU,G4,aD,bf,c_]<;>omega)) ?_
  refine cl ?_
  refine aJ (ad (bK (b:=1) k5 F F (by omega)) (aS ?_))
  exact⟨k5+1,by omega,q5++[⟨GK,GL,eS ks b.aP[k5]⟩],xQ,UI,(by simp only[bW,aL,bL,df];rfl),by omega,(by rw[an u4,aL,←hq5];simp[nums]),(.of F)⟩
 have WB: ¬k5<b.aP.length:=by omega
 refine bA ?_
 refine ba (aB (bY underlying26 kQ) (ad (bp 7 underlying23) (ad (bV underlying23) (aS (aw (T.dH 106 4 ?_))))))
 refine cS (fun(k6:Nat) ρ O=> ∃(oL:Option Addr) (oM:Nat),O=([ak oL oM 106 4 (eX (qO ks (b.ao.take k6))),ak pD pE 22 1 (bW q5),ak nn np 3 1 (ints (eS ks b.start)),oI fK 108 [(.slice (aD fA) b.ae.toNat b.ae.toNat)],aU fA b.ae.toNat 4 1 (bv ks),oI nZ 22 [(.slice (aD gF) b.ae.toNat b.ae.toNat)],aU gF b.ae.toNat 3 1 (bn ns),oI dI 26 [(vI b.vars),(vI ((ei ks k4:Nat):Int)),(.slice nn ((eS ks b.start).length) np),(.slice oL ((qO ks (b.ao.take k6)).length) oM),(.slice pD k5 pE)],oI dk 26 (bf b sb sc eb ec tb tc)]++(bQ 3 q5))∧k6≤b.ao.length∧cL [(0,(.agg (bf b sb sc eb ec tb tc).toArray)),(1,(.pointer (aD dk))),(2,(.pointer (aD dI))),(3,vI (cC b:Int)),(4,(.pointer (aD fj))),(5,(.pointer (aD fK))),(6,(.pointer (aD ig))),(7,(.func (.func 60) #[] #[(.pointer (aD fj)),(.pointer (aD fK)),(.pointer (aD ig))])),(8,(.slice kS b.ae.toNat nQ)),(14,(.pointer (aD nZ))),(16,(.func (.func 62) #[] #[(.pointer (aD fK)),(.pointer (aD nZ))])),(117,(.slice eb b.ao.length ec)),(118,vI (b.ao.length:Int)),(119,vI (k6:Int))] ρ) (fun k6=>b.ao.length-k6) 0 ?_ ?_
 ·exact⟨none,0,F,aG _,(.of F)⟩
 rintro k6 ρ O ⟨oL,oM,rfl,hk6,hH⟩
 obtain⟨fy,rfl⟩:=hH.elim
 clear hH
 refine aB cH (TO.ns (aH F (fun hc=>?_) (fun hc=>?_)))
 ·have xR:k6<b.ao.length:=by omega
  obtain⟨u1,UJ,alk⟩: ∃u:Nat,b.ao[k6].fr=(u:Int)∧u<b.ae.toNat:=by
   have:=(hv.ed _ (ap xR)).1
   exact⟨b.ao[k6].fr.toNat,by omega,by omega⟩
  obtain⟨u2,RA,alm⟩: ∃u:Nat,b.ao[k6].to=(u:Int)∧u<b.ae.toNat:=by
   have:=(hv.ed _ (ap xR)).2
   exact⟨b.ao[k6].to.toNat,by omega,by omega⟩
  have hel:=MZ ks b.ao k6
  refine aE (ba (aw (aB (fO (i:=k6) underlying23 fm F F (bS h.ed) (by first|assumption|omega|(simp;omega)|simp_all) (by first|(rw[fP];omega)|(simp[fP];omega)|(simp_all[fP];omega))) (ad (mM [vI b.ao[k6].fr,vI b.ao[k6].to,.int .u8 ((b.ao[k6].pos:Nat):Int),.int .u8 ((b.ao[k6].neg:Nat):Int)] underlying106 F fm F F (eo _) (bS h.ed) (pu (by first|assumption|omega|(simp;omega)|simp_all))) (au (bO fm (fun Kk=>?_)))))))
  refine au (cE [vI b.ao[k6].fr,vI b.ao[k6].to,.int .u8 ((b.ao[k6].pos:Nat):Int),.int .u8 ((b.ao[k6].neg:Nat):Int)] 0 fm ?_)
  refine TO.nl (aB (bp 4 underlying108) (ad (bY underlying106 bt) (ad (bH (bp 0 underlying3) (v':=vI ((u1:Nat):Int)) (by show Value.int _ _=_;rw[UJ])) (ad (b8 u1 underlying108 eW F F (bU 5)) (ad (dR underlying4 F F (bU 5) gj) ?_)))))
  by_cases UL:ks[u1]=true
  ·refine ad (dE aC (UL)) ?_
   refine ax (bp 4 underlying108) (ax (bY underlying106 bt) (ax (bH (bp 0 underlying3) (v':=vI ((u2:Nat):Int)) (by show Value.int _ _=_;rw[RA])) (ax (b8 u2 underlying108 eW F F (bU 5)) (ax (dR underlying4 F F (bU 5) gj) (bF bR (T.cond F (fun hc=>?_) (fun hc=>?_)))))))
   ·have hy1:ks.getD b.ao[k6].fr.toNat false=true:=by rw[UJ,Int.toNat_natCast,gb (by omega)];assumption
    have hy2:ks.getD b.ao[k6].to.toNat false=true:=by rw[RA,Int.toNat_natCast,gb (by omega)];simp_all
    refine T.ds [oI Kk 106 [vI b.ao[k6].fr,vI b.ao[k6].to,.int .u8 ((b.ao[k6].pos:Nat):Int),.int .u8 ((b.ao[k6].neg:Nat):Int)],oI fK 108 [(.slice (aD fA) b.ae.toNat b.ae.toNat)],aU fA b.ae.toNat 4 1 (bv ks),oI nZ 22 [(.slice (aD gF) b.ae.toNat b.ae.toNat)],aU gF b.ae.toNat 3 1 (bn ns),oI dI 26 [(vI b.vars),(vI ((ei ks k4:Nat):Int)),(.slice nn ((eS ks b.start).length) np),(.slice oL ((qO ks (b.ao.take k6)).length) oM),(.slice pD k5 pE)],oI dk 26 (bf b sb sc eb ec tb tc)] [(0,0),(1,0),(2,0),(3,0),(4,0),(5,0),(6,0),(7,0),(8,0),(9,0),(10,0),(11,0),(12,0),(13,0),(14,0),(15,0),(16,0),(17,1),(18,2),(19,2),(20,2)] (fu [0,3,3,3,3,3,3] [oI Kk 106 [vI b.ao[k6].fr,vI b.ao[k6].to,.int .u8 ((b.ao[k6].pos:Nat):Int),.int .u8 ((b.ao[k6].neg:Nat):Int)],ak oL oM 106 4 (eX (qO ks (b.ao.take k6))),ak pD pE 22 1 (bW q5),ak nn np 3 1 (ints (eS ks b.start)),oI fK 108 [(.slice (aD fA) b.ae.toNat b.ae.toNat)],aU fA b.ae.toNat 4 1 (bv ks),oI nZ 22 [(.slice (aD gF) b.ae.toNat b.ae.toNat)],aU gF b.ae.toNat 3 1 (bn ns),oI dI 26 [(vI b.vars),(vI ((ei ks k4:Nat):Int)),(.slice nn ((eS ks b.start).length) np),(.slice oL ((qO ks (b.ao.take k6)).length) oM),(.slice pD k5 pE)],oI dk 26 (bf b sb sc eb ec tb tc)] (bQ 3 q5) F F) ?_
    refine am F (bY underlying26 kQ) (am F (bp 5 underlying23) (am F (bp 3 underlying22) (am F (bY underlying106 bt) (am F (bH (bp 0 underlying3) (v':=vI ((u1:Nat):Int)) (by show Value.int _ _=_;rw[UJ])) (am F (b8 u1 underlying22 bt F F (bU 4)) (am F (dR underlying3 F F (bU 4) (show(bn ns)[u1]? =some (vI ((ei ks u1:Nat):Int)) by rw[dK (by omega),hNN.get (by omega) (by rw[gb (by omega)];assumption)])) (am F (bp 3 underlying22) (am F (bY underlying106 bt) (am F (bH (bp 0 underlying3) (v':=vI ((u2:Nat):Int)) (by show Value.int _ _=_;rw[RA])) (am F (b8 u2 underlying22 bt F F (bU 4)) (am F (dR underlying3 F F (bU 4) (show(bn ns)[u2]? =some (vI ((ei ks u2:Nat):Int)) by rw[dK (by omega),hNN.get (by omega) (by rw[gb (by omega)];simp_all)])) (am F (bY underlying106 fS) (am F (bp 0 underlying5) (am F (bY underlying106 fS) (am F (bp 0 underlying5) (am F (dy [vI ((ei ks u1:Nat):Int),vI ((ei ks u2:Nat):Int),.int .u8 ((b.ao[k6].pos:Nat):Int),.int .u8 ((b.ao[k6].neg:Nat):Int)] RB fm (by kernel_rfl)) ?_))))))))))))))))
    refine eH F F (cW (m:=1) (parts:=[(0,_)]) (cs:=[vI ((ei ks u1:Nat):Int),vI ((ei ks u2:Nat):Int),.int .u8 ((b.ao[k6].pos:Nat):Int),.int .u8 ((b.ao[k6].neg:Nat):Int)]) underlying23 fm (by decide) (by kernel_rfl) F (fun aa7=>⟨fu [1,4,4,4,4,4,4] [aU aa7 1 106 4 [vI ((ei ks u1:Nat):Int),vI ((ei ks u2:Nat):Int),.int .u8 ((b.ao[k6].pos:Nat):Int),.int .u8 ((b.ao[k6].neg:Nat):Int)],oI Kk 106 [vI b.ao[k6].fr,vI b.ao[k6].to,.int .u8 ((b.ao[k6].pos:Nat):Int),.int .u8 ((b.ao[k6].neg:Nat):Int)],ak oL oM 106 4 (eX (qO ks (b.ao.take k6))),ak pD pE 22 1 (bW q5),ak nn np 3 1 (ints (eS ks b.start)),oI fK 108 [(.slice (aD fA) b.ae.toNat b.ae.toNat)],aU fA b.ae.toNat 4 1 (bv ks),oI nZ 22 [(.slice (aD gF) b.ae.toNat b.ae.toNat)],aU gF b.ae.toNat 3 1 (bn ns),oI dI 26 [(vI b.vars),(vI ((ei ks k4:Nat):Int)),(.slice nn ((eS ks b.start).length) np),(.slice oL ((qO ks (b.ao.take k6)).length) oM),(.slice pD k5 pE)],oI dk 26 (bf b sb sc eb ec tb tc)] (bQ 3 q5) F F,?_⟩))
    refine cG F F (dp 2 underlying23 underlying23 fm F F F F (by rw[fP]) (by decide) (Src.row (j:=0) F (by simp)) (by simp[fL]) (by omega) (by decide) (by decide) (fun Kl Zs=>?_))
    refine cG F F (iE F F (bY underlying26 kQ) ?_)
    refine cG F F (cE [(.slice Kl (((qO ks (b.ao.take k6)).length)+1) Zs)] 9 kQ ?_)
    
    refine cl ?_
    refine aJ (ad (bK (b:=1) k6 F F (by omega)) (aS ?_))
    refine⟨k6+1,by omega,([ak Kl Zs 106 4 ((eX (qO ks (b.ao.take k6)))++[vI ((ei ks u1:Nat):Int),vI ((ei ks u2:Nat):Int),.int .u8 ((b.ao[k6].pos:Nat):Int),.int .u8 ((b.ao[k6].neg:Nat):Int)]),ak pD pE 22 1 (bW q5),ak nn np 3 1 (ints (eS ks b.start)),oI fK 108 [(.slice (aD fA) b.ae.toNat b.ae.toNat)],aU fA b.ae.toNat 4 1 (bv ks),oI nZ 22 [(.slice (aD gF) b.ae.toNat b.ae.toNat)],aU gF b.ae.toNat 3 1 (bn ns),oI dI 26 [(vI b.vars),(vI ((ei ks k4:Nat):Int)),(.slice nn ((eS ks b.start).length) np),(.slice Kl (((qO ks (b.ao.take k6)).length)+1) Zs),(.slice pD k5 pE)],oI dk 26 (bf b sb sc eb ec tb tc)]++(bQ 3 q5)),(dx [2,2,2,2,2,2,2,2,2] [aU aa7 1 106 4 [vI ((ei ks u1:Nat):Int),vI ((ei ks u2:Nat):Int),.int .u8 ((b.ao[k6].pos:Nat):Int),.int .u8 ((b.ao[k6].neg:Nat):Int)],oI Kk 106 [vI b.ao[k6].fr,vI b.ao[k6].to,.int .u8 ((b.ao[k6].pos:Nat):Int),.int .u8 ((b.ao[k6].neg:Nat):Int)],ak Kl Zs 106 4 ((eX (qO ks (b.ao.take k6)))++[vI ((ei ks u1:Nat):Int),vI ((ei ks u2:Nat):Int),.int .u8 ((b.ao[k6].pos:Nat):Int),.int .u8 ((b.ao[k6].neg:Nat):Int)]),ak pD pE 22 1 (bW q5),ak nn np 3 1 (ints (eS ks b.start)),oI fK 108 [(.slice (aD fA) b.ae.toNat b.ae.toNat)],aU fA b.ae.toNat 4 1 (bv ks),oI nZ 22 [(.slice (aD gF) b.ae.toNat b.ae.toNat)],aU gF b.ae.toNat 3 1 (bn ns),oI dI 26 [(vI b.vars),(vI ((ei ks k4:Nat):Int)),(.slice nn ((eS ks b.start).length) np),(.slice Kl (((qO ks (b.ao.take k6)).length)+1) Zs),(.slice pD k5 pE)],oI dk 26 (bf b sb sc eb ec tb tc)] (bQ 3 q5) F F),Kl,Zs,?_,by omega,(.of F)⟩
    rw[RC xR hy1 hy2,xM,aI];simp only[Km,UJ,RA,Int.toNat_natCast];rfl
   refine aE (aJ (ad (bK (b:=1) k6 F F (by omega)) (aS ?_)))
   refine⟨k6+1,by omega,([ak oL oM 106 4 (eX (qO ks (b.ao.take k6))),ak pD pE 22 1 (bW q5),ak nn np 3 1 (ints (eS ks b.start)),oI fK 108 [(.slice (aD fA) b.ae.toNat b.ae.toNat)],aU fA b.ae.toNat 4 1 (bv ks),oI nZ 22 [(.slice (aD gF) b.ae.toNat b.ae.toNat)],aU gF b.ae.toNat 3 1 (bn ns),oI dI 26 [(vI b.vars),(vI ((ei ks k4:Nat):Int)),(.slice nn ((eS ks b.start).length) np),(.slice oL ((qO ks (b.ao.take k6)).length) oM),(.slice pD k5 pE)],oI dk 26 (bf b sb sc eb ec tb tc)]++(bQ 3 q5)),(dx [1,1,1,1,1,1,1,1,1] [oI Kk 106 [vI b.ao[k6].fr,vI b.ao[k6].to,.int .u8 ((b.ao[k6].pos:Nat):Int),.int .u8 ((b.ao[k6].neg:Nat):Int)],ak oL oM 106 4 (eX (qO ks (b.ao.take k6))),ak pD pE 22 1 (bW q5),ak nn np 3 1 (ints (eS ks b.start)),oI fK 108 [(.slice (aD fA) b.ae.toNat b.ae.toNat)],aU fA b.ae.toNat 4 1 (bv ks),oI nZ 22 [(.slice (aD gF) b.ae.toNat b.ae.toNat)],aU gF b.ae.toNat 3 1 (bn ns),oI dI 26 [(vI b.vars),(vI ((ei ks k4:Nat):Int)),(.slice nn ((eS ks b.start).length) np),(.slice oL ((qO ks (b.ao.take k6)).length) oM),(.slice pD k5 pE)],oI dk 26 (bf b sb sc eb ec tb tc)] (bQ 3 q5) F F),oL,oM,?_,by omega,(.of F)⟩
   rw[M0 xR (by rw[UJ,RA,Int.toNat_natCast,Int.toNat_natCast,gb (by omega),gb (by omega)];simp_all)]
  refine ad (dE aC (Bool.eq_false_iff.2 UL)) (dt (cP (bF ca ?_)))
  refine cK (aE (aJ (ad (bK (b:=1) k6 F F (by omega)) (aS ?_))))
  refine⟨k6+1,by omega,([ak oL oM 106 4 (eX (qO ks (b.ao.take k6))),ak pD pE 22 1 (bW q5),ak nn np 3 1 (ints (eS ks b.start)),oI fK 108 [(.slice (aD fA) b.ae.toNat b.ae.toNat)],aU fA b.ae.toNat 4 1 (bv ks),oI nZ 22 [(.slice (aD gF) b.ae.toNat b.ae.toNat)],aU gF b.ae.toNat 3 1 (bn ns),oI dI 26 [(vI b.vars),(vI ((ei ks k4:Nat):Int)),(.slice nn ((eS ks b.start).length) np),(.slice oL ((qO ks (b.ao.take k6)).length) oM),(.slice pD k5 pE)],oI dk 26 (bf b sb sc eb ec tb tc)]++(bQ 3 q5)),(dx [1,1,1,1,1,1,1,1,1] [oI Kk 106 [vI b.ao[k6].fr,vI b.ao[k6].to,.int .u8 ((b.ao[k6].pos:Nat):Int),.int .u8 ((b.ao[k6].neg:Nat):Int)],ak oL oM 106 4 (eX (qO ks (b.ao.take k6))),ak pD pE 22 1 (bW q5),ak nn np 3 1 (ints (eS ks b.start)),oI fK 108 [(.slice (aD fA) b.ae.toNat b.ae.toNat)],aU fA b.ae.toNat 4 1 (bv ks),oI nZ 22 [(.slice (aD gF) b.ae.toNat b.ae.toNat)],aU gF b.ae.toNat 3 1 (bn ns),oI dI 26 [(vI b.vars),(vI ((ei ks k4:Nat):Int)),(.slice nn ((eS ks b.start).length) np),(.slice oL ((qO ks (b.ao.take k6)).length) oM),(.slice pD k5 pE)],oI dk 26 (bf b sb sc eb ec tb tc)] (bQ 3 q5) F F),oL,oM,?_,by omega,(.of F)⟩
  rw[M0 xR (by rw[UJ,RA,Int.toNat_natCast,Int.toNat_natCast,gb (by omega),gb (by omega)];simp_all)]
 have agp: ¬k6<b.ao.length:=by omega
 refine bA ?_
 refine aB (eg 7 underlying26 eF) (au (cE [(vI b.vars),(vI ((ei ks k4:Nat):Int)),(.slice nn ((eS ks b.start).length) np),(.slice oL ((qO ks (b.ao.take k6)).length) oM),(.slice pD k5 pE)] 7 eF ?_))
 refine bm ?_
 refine dT (vI 0) (i:=7) results23 underlying26 F eF F F F F ?_
 have aa8:k5=b.aP.length:=by omega
 have aa9:b.ao.take k6=b.ao:=aN (by omega)
 have B4:nums q5=b.aP.map (eS ks):=by rw[hq5,aa8,List.take_length]
 have hct:ei ks k4=ks.count true:=Ek (by omega)
 have WM:eU b=oS b ks:=by unfold eU;rw[aA he,MX]
 refine⟨[ak nn np 3 1 (ints (eS ks b.start)),ak oL oM 106 4 (eX (qO ks (b.ao.take k6))),ak pD pE 22 1 (bW q5)]++bQ 3 q5,Sub.cO [oI fK 108 [(.slice (aD fA) b.ae.toNat b.ae.toNat)],aU fA b.ae.toNat 4 1 (bv ks),oI nZ 22 [(.slice (aD gF) b.ae.toNat b.ae.toNat)],aU gF b.ae.toNat 3 1 (bn ns),oI dI 26 [(vI b.vars),(vI ((ei ks k4:Nat):Int)),(.slice nn ((eS ks b.start).length) np),(.slice oL ((qO ks (b.ao.take k6)).length) oM),(.slice pD k5 pE)],oI dk 26 (bf b sb sc eb ec tb tc)] (by intro a;simp only[bQ,oI,da,dJ,dq,cj,dl,bZ,bw,aL,bL,df,fF,gg,jq,vI,nS,aU,G4,aD,bf,c_]<;>omega),nn,oL,pD,np,oM,pE,q5,?_,?_,?_⟩
 ·rw[WM,hct,aa9,aa8,he];simp[oS,dq,bf]
 ·rw[WM,aa9];rfl
 ·rw[WM];exact B4
theorem SI (w:World) [eT prog w] (b:Option Addr) (c:Nat) (qs:List oJ) (hS:Sl w b (G2 qs)) (hq: ∀q∈qs,nL w q.b q.sb q.eb q.tb q.vs) (hb:qs.length<9223372036854775807) (wZ: ∀q∈qs,q.b.aP.length<9223372036854775807) (sf: ∀q∈qs,∀e∈q.b.ao,e.pos<256∧e.neg<256):
  cR prog 4 [.slice b qs.length c] w fun v N=>v=.bool (qs.any fun q=>ul q.b)∧N=[]:=by
 refine aF func4 F ntmps4 F ?_
 refine a8 (bh (bJ (ai (aw ?_))))
 refine cS (fun(k:Nat) ρ O=>O=[]∧k≤qs.length∧(qs.take k).any (fun q=>ul q.b)=false∧cL [(0,(.slice b qs.length c)),(3,vI (k:Int))] ρ) (fun k=>qs.length-k) 0 ?_ ?_
 ·exact⟨F,aG _,F,⟨F,F,trivial⟩⟩
 rintro k ρ O ⟨rfl,hk,qj,hH⟩
 obtain⟨fy,rfl⟩:=hH.elim
 clear hH
 refine ba (bI (az (bV underlying44) (bF cH (aH F (fun hc=>?_) (fun hc=>?_)))))
 ·have qp:k<qs.length:=by omega
  let dC:List Value:=[vI qs[k].b.vars,vI qs[k].b.ae,(.slice qs[k].sb qs[k].b.start.length qs[k].sc),(.slice qs[k].eb qs[k].b.ao.length qs[k].ec),(.slice qs[k].tb qs[k].b.aP.length qs[k].tc)]
  refine aE (ba (aw (bI (az (fO (i:=k) underlying44 eF F F (bS hS) (by first|assumption|omega|(simp;omega)|simp_all) (by first|(rw[cN];omega)|(simp[cN];omega)|(simp_all[cN];omega))) (ad (mM dC underlying26 F eF F F (eo _) (bS hS) (E_ qp)) (au (cW (m:=1) (parts:=[(0,_)]) (cs:=dC) underlying44 eF (by decide) (by kernel_rfl) F (fun dk=>?_))))))))
  have acK:=fun(w1:World) (hI:Inv w [aU dk 1 26 5 dC] w1)=>(haveI:=Inv.tab (P:=prog) hI;(show cR _ _ _ _ _ from by
    have h9:=Z7 w1 (aD dk) 1 [qs[k]] (hI.ga (cs:=G2 [qs[k]]) (mG 0)) (fun q pS=>by rw[List.mem_singleton.1 pS];exact hI.bu (hq _ (ap qp))) (by show 1<9223372036854775807;decide) (fun q pS=>by rw[List.mem_singleton.1 pS];exact wZ _ (ap qp))
    rw[show([qs[k]]:List oJ).any (fun q=>g_ q.b)=g_ qs[k].b by simp]at h9;exact h9))
  refine TO.lc acL (aK acK) ?_
  clear acK
  rintro vr O' ⟨N,rfl,rfl,rfl⟩
  by_cases yJ:(g_ qs[k].b)=true
  ·refine ad (dE aC (yJ)) ?_
   refine cP (cP ?_)
   refine cP (cP ?_)
   refine cP (cP ?_)
   refine dt (dj (cP (ad bR ?_)))
   refine TO.nl ?_
   refine cJ ?_
   refine a8 (bm ?_)
   refine aM (.bool true) results4 F ?_
   exact⟨[],bj (aX _),av Value.bool ((gP qp (show ul _=true from SJ (by first|exact .inl yJ|exact .inr ⟨by omega,by omega⟩))).symm),F⟩
  refine ad (dE aC (Bool.eq_false_iff.2 yJ)) (ax aC (ax aC (ax (fO (i:=k) underlying44 eF F F (bS hS) (by first|assumption|omega|(simp;omega)|simp_all) (by first|(rw[cN];omega)|(simp[cN];omega)|(simp_all[cN];omega))) (ax (mM dC underlying26 F eF F F (eo _) (bS hS) (E_ qp)) ?_))))
  have Om:=fun(w1:World) (hI:Inv w [aU dk 1 26 5 dC] w1)=>(haveI:=Inv.tab (P:=prog) hI;Ke w1 qs[k].b qs[k].sb qs[k].eb qs[k].tb qs[k].sc qs[k].ec qs[k].tc qs[k].vs (hI.bu (hq _ (ap qp))) (Fa yJ (sf _ (ap qp))))
  refine fD F F F (dV acM (aK Om) ?_)
  clear Om
  rintro vr O' ⟨N,rfl,rfl,rfl⟩
  refine ax en ?_
  by_cases On:((cC qs[k].b:Nat):Int)=0
  ·refine ax (cm aC On) ?_
   refine ax aC (ax aC (ax (fO (i:=k) underlying44 eF F F (bS hS) (by first|assumption|omega|(simp;omega)|simp_all) (by first|(rw[cN];omega)|(simp[cN];omega)|(simp_all[cN];omega))) (ax (ez underlying26 F bt F F (bS hS) (by first|(rw[cN];omega)|(simp[cN];omega)|(simp_all[cN];omega))) (ax (eA underlying3 F F hS (jH (by first|assumption|omega|(simp;omega)|simp_all) 1 (by decide))) (ax fg ?_)))))
   by_cases acN:qs[k].b.ae>5
   ·refine ax (cm aC acN) ?_
    refine dj (cP (ax bR (ax aC ?_)))
    refine dt (dj (cP (ax bR ?_)))
    refine ax bR (bF ca ?_)
    refine cJ ?_
    refine a8 (bm ?_)
    refine aM (.bool true) results4 F ?_
    exact⟨[],bj (aX _),av Value.bool ((gP qp (show ul _=true from SJ (by first|exact .inl yJ|exact .inr ⟨by omega,by omega⟩))).symm),F⟩
   refine ax (cD aC acN) (ax aC (ax aC (ax (fO (i:=k) underlying44 eF F F (bS hS) (by first|assumption|omega|(simp;omega)|simp_all) (by first|(rw[cN];omega)|(simp[cN];omega)|(simp_all[cN];omega))) (ax (ez underlying26 F bt F F (bS hS) (by first|(rw[cN];omega)|(simp[cN];omega)|(simp_all[cN];omega))) (ax (eA underlying3 F F hS (jH (by first|assumption|omega|(simp;omega)|simp_all) 0 (by decide))) (ax fg (ax ca ?_)))))))
   by_cases acO:qs[k].b.vars>3
   ·refine ax (cm aC acO) ?_
    refine dt (dj (cP (ax bR ?_)))
    refine ax bR (bF ca ?_)
    refine cJ ?_
    refine a8 (bm ?_)
    refine aM (.bool true) results4 F ?_
    exact⟨[],bj (aX _),av Value.bool ((gP qp (show ul _=true from SJ (by first|exact .inl yJ|exact .inr ⟨by omega,by omega⟩))).symm),F⟩
   refine ax (cD aC acO) (ax aC (ax aC (ax (fO (i:=k) underlying44 eF F F (bS hS) (by first|assumption|omega|(simp;omega)|simp_all) (by first|(rw[cN];omega)|(simp[cN];omega)|(simp_all[cN];omega))) (ax (ez underlying26 F dQ F F (bS hS) (by first|(rw[cN];omega)|(simp[cN];omega)|(simp_all[cN];omega))) (ax (eA underlying24 F F hS (jH (by first|assumption|omega|(simp;omega)|simp_all) 4 (by decide))) (ax (bV underlying24) (ax fg ?_)))))))
   refine ax ca (ax bR (bF ca (aH F (fun hc=>?_) (fun hc=>?_))))
   ·have Vr:qs[k].b.aP.length>2:=by omega
    refine a8 (bm ?_)
    refine aM (.bool true) results4 F ?_
    exact⟨[],bj (aX _),av Value.bool ((gP qp (show ul _=true from SJ (by first|exact .inl yJ|exact .inr ⟨by omega,by omega⟩))).symm),F⟩
   have Vs: ¬qs[k].b.aP.length>2:=by omega
   refine aE (aJ (az (bK (b:=1) k F F (by omega)) (ai ?_)))
   exact⟨k+1,by omega,[],(aR []),F,by omega,jI qp qj (acP (by first|(simp at yJ;simp[yJ];done)|simp_all) (by omega)),⟨F,F,trivial⟩⟩
  refine ax (cD aC On) (dt (dj (cP ?_)))
  refine cP (cP ?_)
  refine cP (cP ?_)
  refine ax ca (bF ca (cK (aE (aJ (az (bK (b:=1) k F F (by omega)) (ai ?_))))))
  exact⟨k+1,by omega,[],(aR []),F,by omega,jI qp qj (acP (by first|(simp at yJ;simp[yJ];done)|simp_all) (by omega)),⟨F,F,trivial⟩⟩
 have RG: ¬k<qs.length:=by omega
 refine bA ?_
 refine a8 (bm ?_)
 refine aM (.bool false) results4 F ?_
 exact⟨[],bj (aX _),av Value.bool ((lG (by omega) qj).symm),F⟩
end Go.Proofs.YtjcophmajgcehaaGreatDoor
namespace Go.Proofs
open Go.Shelf
def Tryz.C2:Go.Shelf.Ren:=⟨fun|171=>67|243=>100|246=>121|283=>131|284=>132|285=>133|286=>134|129=>145|317=>146|318=>147|319=>148|320=>149|337=>156|338=>123|n=>n,fun|3=>3|9=>9|2=>2|4=>4|171=>185|0=>0|53=>164|37=>27|5=>5|173=>187|212=>201|51=>199|20=>20|213=>202|46=>96|232=>212|233=>189|n=>n,fun|17=>1|18=>2|19=>0|n=>n⟩
theorem Tryz.Pj:Go.Proofs.LaysM.n171 Tryz.prog Tryz.C2:= {
 mixed:=by kernel_rfl
 f129:=Tryz.func145.trans (av some (by kernel_rfl))
 f171:=Tryz.func67.trans (av some (by kernel_rfl))
 f243:=Tryz.func100.trans (av some (by kernel_rfl))
 f246:=Tryz.func121.trans (av some (by kernel_rfl))
 f283:=Tryz.func131.trans (av some (by kernel_rfl))
 f284:=Tryz.func132.trans (av some (by kernel_rfl))
 f285:=Tryz.func133.trans (av some (by kernel_rfl))
 f286:=Tryz.func134.trans (av some (by kernel_rfl))
 f317:=Tryz.func146.trans (av some (by kernel_rfl))
 f318:=Tryz.func147.trans (av some (by kernel_rfl))
 f319:=Tryz.func148.trans (av some (by kernel_rfl))
 f320:=Tryz.func149.trans (av some (by kernel_rfl))
 f337:=Tryz.func156.trans (av some (by kernel_rfl))
 f338:=Tryz.func123.trans (av some (by kernel_rfl))
 t0:=Tryz.underlying0
 a0:=Tryz.isAgg0
 z0:=Tryz.sizeOf0
 v0:=Tryz.zeroValue0
 t2:=Tryz.underlying2
 a2:=Tryz.isAgg2
 z2:=Tryz.sizeOf2
 v2:=Tryz.zeroValue2
 t3:=Tryz.underlying3
 a3:=Tryz.isAgg3
 z3:=Tryz.sizeOf3
 v3:=Tryz.zeroValue3
 t4:=Tryz.underlying4
 a4:=Tryz.isAgg4
 z4:=Tryz.sizeOf4
 v4:=Tryz.zeroValue4
 t5:=Tryz.underlying5
 a5:=Tryz.isAgg5
 z5:=Tryz.sizeOf5
 v5:=Tryz.zeroValue5
 t9:=Tryz.underlying9
 a9:=Tryz.isAgg9
 z9:=Tryz.sizeOf9
 v9:=Tryz.zeroValue9
 t20:=Tryz.underlying20
 a20:=Tryz.isAgg20
 z20:=Tryz.sizeOf20
 v20:=Tryz.zeroValue20
 t37:=Tryz.underlying27
 a37:=Tryz.isAgg27
 z37:=Tryz.sizeOf27
 v37:=Tryz.zeroValue27
 t46:=Tryz.underlying96
 a46:=Tryz.isAgg96
 z46:=Tryz.sizeOf96
 v46:=Tryz.zeroValue96
 t51:=Tryz.underlying199
 a51:=Tryz.isAgg199
 z51:=Tryz.sizeOf199
 v51:=Tryz.zeroValue199
 t53:=Tryz.underlying164
 a53:=Tryz.isAgg164
 z53:=Tryz.sizeOf164
 v53:=Tryz.zeroValue164
 t171:=Tryz.underlying185
 a171:=Tryz.isAgg185
 z171:=Tryz.sizeOf185
 v171:=Tryz.zeroValue185
 t173:=Tryz.underlying187
 a173:=Tryz.isAgg187
 z173:=Tryz.sizeOf187
 v173:=Tryz.zeroValue187
 t212:=Tryz.underlying201
 a212:=Tryz.isAgg201
 z212:=Tryz.sizeOf201
 v212:=Tryz.zeroValue201
 t213:=Tryz.underlying202
 a213:=Tryz.isAgg202
 z213:=Tryz.sizeOf202
 t232:=Tryz.underlying212
 a232:=Tryz.isAgg212
 z232:=Tryz.sizeOf212
 v232:=Tryz.zeroValue212
 t233:=Tryz.underlying189
 a233:=Tryz.isAgg189
 z233:=Tryz.sizeOf189
 v233:=Tryz.zeroValue189
 g17:=by kernel_rfl
 g18:=by kernel_rfl
 g19:=by kernel_rfl
 i0:=by kernel_rfl
 i2:=by kernel_rfl
 i3:=by kernel_rfl
 i4:=by kernel_rfl
 i5:=by kernel_rfl
 i9:=by kernel_rfl
 i20:=by kernel_rfl
 i37:=by kernel_rfl
 i46:=by kernel_rfl
 i51:=by kernel_rfl
 i53:=by kernel_rfl
 i171:=by kernel_rfl
 i173:=by kernel_rfl
 i212:=by kernel_rfl
 i232:=by kernel_rfl
 i233:=by kernel_rfl
 m17:=by kernel_rfl
 m18:=by kernel_rfl
 m19:=by kernel_rfl}
open Go.RowKit Go.Sort Go.Lib in
theorem Tryz.strconv_Itoa (n:Int) (h0: -9223372036854775808≤n) (h1:n≤9223372036854775807) (w:World) (ahL:Lib.TabIs Tryz.prog w "internal/strconv.uint64pow10" .u64 Lib.pow10Tab):
  Calls Tryz.prog 67 #[.int .i64 n] w fun e w'=>e=.returned (.string ⟨(Lib.itoa n).toArray⟩)∧ ∃k os,w'=grow (w.drewN k) os:=Any.strconv_Itoa Tryz.Pj n h0 h1 w ahL
def Tryz.FE:Go.Shelf.Ren:=⟨fun|189=>112|125=>129|257=>128|128=>144|129=>145|294=>135|295=>136|296=>137|297=>138|298=>139|299=>140|216=>141|300=>142|301=>143|328=>150|329=>151|330=>152|331=>153|332=>154|215=>155|343=>157|n=>n,fun|28=>22|3=>3|46=>96|0=>0|51=>199|53=>164|4=>4|183=>192|182=>191|131=>75|5=>5|9=>9|218=>203|222=>207|228=>209|229=>210|n=>n,fun|n=>n⟩
theorem Tryz.Jy:Go.Proofs.Lays.n189 prog Tryz.FE:= {
 mixed:=by kernel_rfl
 f125:=func129.trans (av some (by kernel_rfl))
 f128:=func144.trans (av some (by kernel_rfl))
 f129:=func145.trans (av some (by kernel_rfl))
 f189:=func112.trans (av some (by kernel_rfl))
 f215:=func155.trans (av some (by kernel_rfl))
 f216:=func141.trans (av some (by kernel_rfl))
 f257:=func128.trans (av some (by kernel_rfl))
 f294:=func135.trans (av some (by kernel_rfl))
 f295:=func136.trans (av some (by kernel_rfl))
 f296:=func137.trans (av some (by kernel_rfl))
 f297:=func138.trans (av some (by kernel_rfl))
 f298:=func139.trans (av some (by kernel_rfl))
 f299:=func140.trans (av some (by kernel_rfl))
 f300:=func142.trans (av some (by kernel_rfl))
 f301:=func143.trans (av some (by kernel_rfl))
 f328:=func150.trans (av some (by kernel_rfl))
 f329:=func151.trans (av some (by kernel_rfl))
 f330:=func152.trans (av some (by kernel_rfl))
 f331:=func153.trans (av some (by kernel_rfl))
 f332:=func154.trans (av some (by kernel_rfl))
 f343:=func157.trans (av some (by kernel_rfl))
 t0:=underlying0
 a0:=Tryz.isAgg0
 z0:=Tryz.sizeOf0
 v0:=Tryz.zeroValue0
 t3:=underlying3
 a3:=Tryz.isAgg3
 z3:=Tryz.sizeOf3
 v3:=Tryz.zeroValue3
 t4:=underlying4
 a4:=Tryz.isAgg4
 z4:=Tryz.sizeOf4
 v4:=Tryz.zeroValue4
 t5:=underlying5
 a5:=Tryz.isAgg5
 z5:=Tryz.sizeOf5
 v5:=Tryz.zeroValue5
 t9:=underlying9
 a9:=Tryz.isAgg9
 z9:=Tryz.sizeOf9
 v9:=Tryz.zeroValue9
 t28:=underlying22
 a28:=Tryz.isAgg22
 z28:=Tryz.sizeOf22
 v28:=Tryz.zeroValue22
 t46:=underlying96
 a46:=Tryz.isAgg96
 z46:=Tryz.sizeOf96
 v46:=Tryz.zeroValue96
 t51:=underlying199
 a51:=Tryz.isAgg199
 z51:=Tryz.sizeOf199
 v51:=Tryz.zeroValue199
 t53:=underlying164
 a53:=Tryz.isAgg164
 z53:=Tryz.sizeOf164
 v53:=Tryz.zeroValue164
 t131:=underlying75
 a131:=Tryz.isAgg75
 z131:=Tryz.sizeOf75
 v131:=Tryz.zeroValue75
 t182:=underlying191
 a182:=Tryz.isAgg191
 z182:=Tryz.sizeOf191
 v182:=Tryz.zeroValue191
 t183:=underlying192
 a183:=Tryz.isAgg192
 z183:=Tryz.sizeOf192
 v183:=Tryz.zeroValue192
 t218:=underlying203
 a218:=Tryz.isAgg203
 z218:=Tryz.sizeOf203
 v218:=Tryz.zeroValue203
 t222:=underlying207
 a222:=Tryz.isAgg207
 z222:=Tryz.sizeOf207
 v222:=Tryz.zeroValue207
 t228:=underlying209
 a228:=Tryz.isAgg209
 z228:=Tryz.sizeOf209
 v228:=Tryz.zeroValue209
 t229:=underlying210
 a229:=Tryz.isAgg210
 z229:=Tryz.sizeOf210
 v229:=Tryz.zeroValue210}
open Go.RowKit Go.Sort Go.Lib in
theorem Tryz.slices_Sort_int (qi off cap:Nat) (zs:List Int) (w:World) (hH:Holds (Value.int .i64) w qi off zs.toArray) (ahJ:qi<w.heap.size) (sj:zs.length<4611686018427387904):
  Calls prog 112 #[.slice (some ⟨qi,off,none⟩) zs.length cap] w fun e w'=>
   e=.returned (.tuple #[])∧ ∃n os,w'=grow (putRow (Value.int .i64) (Sort.ahead w n) qi off (zs.mergeSort fun x y=>decide (x≤y)).toArray) os:=Any.slices_Sort_int Tryz.Jy qi off cap zs w hH ahJ sj
end Go.Proofs
namespace Go.Proofs.YtjcophmajgcehaaGreatDoor
open Go.Lx Go.RowKit Go.Proofs Go.Sort _root_.Go.Proofs.Tryz
def Ys:Go.Shelf.Ren:=⟨fun|20=>78|n=>n,fun|0=>0|3=>3|4=>4|22=>22|40=>96|n=>n,fun|n=>n⟩
theorem Jz:Go.Proofs.Lays2.n20 prog Ys:= {
 mixed:=by kernel_rfl
 f20:=func78.trans (av some (by kernel_rfl))
 t0:=underlying0
 a0:=Tryz.isAgg0
 z0:=Tryz.sizeOf0
 v0:=Tryz.zeroValue0
 t3:=underlying3
 a3:=Tryz.isAgg3
 z3:=Tryz.sizeOf3
 v3:=Tryz.zeroValue3
 t4:=underlying4
 a4:=Tryz.isAgg4
 z4:=Tryz.sizeOf4
 v4:=Tryz.zeroValue4
 t22:=underlying22
 a22:=Tryz.isAgg22
 z22:=Tryz.sizeOf22
 v22:=Tryz.zeroValue22
 i3:=by kernel_rfl
}
theorem JA {base w:World} {O:List Lx.Item} {i c:Nat} {T:TypeId} {zs:List Int} (hI:Inv base O w) (hO:O[i]? =some (ak none c T 1 (ints zs))):zs=[]∧c=0:=by
 have h:=hI.row hO
 exact⟨by have:=h.1;simpa using this,h.2⟩
theorem aco (base:World) (b:Option Addr) (c:Nat) (zs:List Int) (sj:zs.length<4611686018427387904):cZ prog base 112 [.slice b zs.length c] [ak b c 3 1 (ints zs)] (fun v O'=>v=.tuple #[]∧O'=[ak b c 3 1 (ints (jW zs))]):=fun w M hI=>by
 have hO:(([ak b c 3 1 (ints zs)]++M:List Lx.Item))[0]? =some (ak b c 3 1 (ints zs)):=rfl
 cases b with
 |none=>
  obtain⟨rfl,rfl⟩:=JA hI hO
  refine(Any.slices_Sort_int_none Tryz.Jy none 0 w).mono ?_
  rintro e w' ⟨rfl,rfl⟩
  refine⟨_,_,F,?_,F,F⟩
  have h9:jW []=[]:=by simp
  rw[h9];exact hI
 |some a=>
  obtain⟨qi,off,sp⟩:=a
  have AL:sp=none:=(hI.row hO).1
  subst AL
  obtain⟨hH,hb⟩:=Bk hI hO
  refine(Tryz.slices_Sort_int qi off c zs w hH hb sj).mono ?_
  rintro e w' ⟨rfl,n,os,rfl⟩
  refine⟨_,_,F,?_,F,F⟩
  exact hI.Oy (ys:=jW zs) hO (List.length_mergeSort zs) n os
theorem N5 (base:World) (b:Option Addr) (c:Nat) (zs:List Int) (sj:zs.length≤1000000):cZ prog base 78 [.slice b zs.length c] [ak b c 3 1 (ints zs)] (fun v O'=>v=.slice b (Lib.compact zs).length c∧O'=[ak b c 3 1 (ints (Lib.compact zs))]):=fun w M hI=>by
 have hO:(([ak b c 3 1 (ints zs)]++M:List Lx.Item))[0]? =some (ak b c 3 1 (ints zs)):=rfl
 cases b with
 |none=>
  obtain⟨rfl,rfl⟩:=JA hI hO
  refine(Any.slices_Compact_int_empty Jz none 0 w).mono ?_
  rintro e w' ⟨rfl,rfl⟩
  refine⟨_,_,F,?_,F,F⟩
  have h9:Lib.compact ([]:List Int)=[]:=rfl
  rw[h9];exact hI
 |some a=>
  obtain⟨qi,off,sp⟩:=a
  have AL:sp=none:=(hI.row hO).1
  subst AL
  obtain⟨hH,hb⟩:=Bk hI hO
  have rY:zs.length≤c:=by have:=(hI.row hO).2;obtain⟨_,_,h,_⟩:=this;simpa using h
  refine(Any.slices_Compact_int Jz qi off c zs w hH (by omega) rY).mono ?_
  rintro e w' ⟨rfl,n,rfl⟩
  refine⟨_,_,F,?_,F,F⟩
  have mB:=Lib.compact_length_le zs
  exact hI.KY (ys:=Lib.compact zs) hO (by simp;omega) n
open Go.Lx Go.RowKit _root_.Go.Proofs.Tryz
theorem NK (w:World) [eT prog w] (n:Nat) (hn:n<1000000000000):cR prog 67 [.int .i64 (n:Int)] w fun v N=>v=str (Lib.decDigits n)∧N=[]:=fun w1 M hI=>
 (Go.Proofs.Tryz.strconv_Itoa n (by omega) (by omega) w1 (eT.is (hI.tab (P:=prog)))).mono (by rintro e w' ⟨rfl,k,os,rfl⟩;exact⟨_,[],F,hI.grow k os,by rw[Lib.itoa_nonneg];rfl,F⟩)
theorem j6 {w w1:World} {O:List Lx.Item} [eT prog w] (h:Inv w O w1):eT prog w1:=Inv.tab (P:=prog) h
theorem aW {w:World} {O:List Lx.Item} {f:FuncId} {args:List Value} {R:Value→List Lx.Item→Prop} [eT prog w] (h: ∀(w1:World) [eT prog w1],cR prog f args w1 R):cZ prog w f args O (fun v O2=> ∃N,O2=N++O∧R v N):=aK fun w1 hI=>haveI:=j6 hI;h w1
abbrev nw:= @underlying3
abbrev XP:= @underlying4
abbrev uT5:= @underlying5
abbrev ZE:= @underlying9
abbrev ew:= @underlying22
abbrev XC:= @underlying23
abbrev mi:= @underlying24
abbrev vn:= @underlying26
abbrev r5:= @underlying27
abbrev wI:= @underlying29
abbrev gQ:= @underlying34
abbrev ahq:= @underlying44
abbrev ahs:= @underlying46
abbrev ue:= @underlying59
abbrev R6:= @underlying62
abbrev kX:= @underlying64
abbrev gr:= @underlying66
abbrev N_:= @underlying69
abbrev X1:= @underlying70
abbrev uj:= @underlying71
abbrev H0:= @underlying89
abbrev Pk:= @underlying92
abbrev E2:= @underlying93
abbrev Bb:= @underlying106
abbrev we:= @underlying108
abbrev wo:= @underlying124
abbrev sD:= @underlying126
abbrev q_:= @underlying136
abbrev ace:= @underlying137
abbrev adB:= @underlying161
abbrev V1:= @underlying176
theorem zR (base:World) [eT prog base] (bb:Nat) (zb:Option Addr) (n zc:Nat):
  cZ prog base 99 [(.pointer (aD bb))] [oI bb 126 [(.pointer none),(.slice zb n zc)]] (fun _ O'=>O'=[oI bb 126 [(.pointer (aD bb)),(.slice zb n zc)]]):=by
 refine aF func99 F ntmps99 F ?_
 obtain⟨ji,U5,zX,hj3,hj4⟩:=Co.get
 have EH:ji.size≠0:=by rw[hj3];decide
 refine bP iz (ad (bY sD yL) (ad (bp 0 wo) (bF (Qz wo F) ?_)))
 refine cJ ?_
 refine aJ (aQ (az (Ir 0 wo V1 U5 EH F F (by simp)) (au (iE F F (Is func120 (by kernel_rfl) (by kernel_rfl) (by kernel_rfl) (by kernel_rfl) F) ?_))))
 refine ad (Du 0 V1 wo U5 F F (by kernel_rfl)) (ad iz (ad (bY sD yL) (au (cE [(.pointer (aD bb))] 0 yL ?_))))
 refine TO.nl ?_
 refine pk.zero results99 ?_
 exact F
theorem Ar (base:World) [eT prog base] (bb:Nat) (zb:Option Addr) (n zc:Nat) (bs s:List UInt8) (hn:bs.length=n) (hb:n+s.length≤100000000):
  cZ prog base 66 [(.pointer (aD bb)),str s] [oI bb 126 [(.pointer none),(.slice zb n zc)],ak zb zc 5 1 (gA bs)] (fun _ O'=> ∃yb yc,O'=[oI bb 126 [(.pointer (aD bb)),(.slice yb (n+s.length) yc)],ak yb yc 5 1 (gA (bs++s))]):=by
 refine aF func66 F ntmps66 F ?_
 refine a8 (bh (ai (bI (TO.lc VS (jE [0] (zR base bb zb n zc)) ?_))))
 rintro vr O' ⟨A1,rfl,rfl⟩
 refine TO.nl (bI (az iz (ad (bY sD fX) (ad (bp 0 r5) (aQ (au (A4 (s:=s) 1 r5 ZE fS F F F F (by simp[hn]) F (by omega) (by decide) (by decide) (fun yb yc=>?_))))))))
 refine ad iz (ad (bY sD fX) (au (cE [(.slice yb (n+s.length) yc)] 0 fX ?_)))
 refine TO.nl (bP (EF ZE F) (bh (ai (cF ?_))))
 refine fJ (vI (s.length:Int)) .nilIface results66 F F ?_
 exact⟨yb,yc,by rw[show gA (bs++s)=gA bs++gA s from aL];rfl⟩
theorem As (base:World) [eT prog base] (bb:Nat) (zb:Option Addr) (n zc:Nat):
  cZ prog base 99 [(.pointer (aD bb))] [oI bb 126 [(.pointer (aD bb)),(.slice zb n zc)]] (fun _ O'=>O'=[oI bb 126 [(.pointer (aD bb)),(.slice zb n zc)]]):=by
 refine aF func99 F ntmps99 F ?_
 obtain⟨ji,U5,zX,hj3,hj4⟩:=Co.get
 have EH:ji.size≠0:=by rw[hj3];decide
 refine bP iz (ad (bY sD yL) (ad (bp 0 wo) (bF (L0 wo F) (cK (bP iz (ad (bY sD yL) (ad (bp 0 wo) (az (QA wo U5 F F) ?_))))))))
 refine TO.nl (cK (aE ?_))
 refine pk.zero results99 ?_
 exact F
theorem Dv (base:World) [eT prog base] (bb:Nat) (zb:Option Addr) (n zc:Nat) (bs s:List UInt8) (hn:bs.length=n) (hb:n+s.length≤100000000):
  cZ prog base 66 [(.pointer (aD bb)),str s] [oI bb 126 [(.pointer (aD bb)),(.slice zb n zc)],ak zb zc 5 1 (gA bs)] (fun _ O'=> ∃yb yc,O'=[oI bb 126 [(.pointer (aD bb)),(.slice yb (n+s.length) yc)],ak yb yc 5 1 (gA (bs++s))]):=by
 refine aF func66 F ntmps66 F ?_
 refine a8 (bh (ai (bI (TO.lc VS (jE [0] (As base bb zb n zc)) ?_))))
 rintro vr O' ⟨A1,rfl,rfl⟩
 refine TO.nl (bI (az iz (ad (bY sD fX) (ad (bp 0 r5) (aQ (au (A4 (s:=s) 1 r5 ZE fS F F F F (by simp[hn]) F (by omega) (by decide) (by decide) (fun yb yc=>?_))))))))
 refine ad iz (ad (bY sD fX) (au (cE [(.slice yb (n+s.length) yc)] 0 fX ?_)))
 refine TO.nl (bP (EF ZE F) (bh (ai (cF ?_))))
 refine fJ (vI (s.length:Int)) .nilIface results66 F F ?_
 exact⟨yb,yc,by rw[show gA (bs++s)=gA bs++gA s from aL];rfl⟩
theorem I8 (base:World) [eT prog base] (bb:Nat) (pv:Value) (zb:Option Addr) (n zc:Nat) (bs:List UInt8) (hn:bs.length=n) (hb:n≤100000000) (mC:zc≠0∨zb=none):
  cZ prog base 69 [(.pointer (aD bb))] [ak zb zc 5 1 (gA bs),oI bb 126 [pv,(.slice zb n zc)]] (fun v O'=>v=str bs∧O'=[oI bb 126 [pv,(.slice zb n zc)]]):=by
 refine aF func69 F ntmps69 F ?_
 refine a8 (ai (ba ?_))
 refine T.ds [oI bb 126 [pv,(.slice zb n zc)]] [(0,0),(1,0),(2,0),(3,0),(4,0),(5,0),(6,0),(7,0),(8,0),(9,0),(10,2),(11,2)] (aR [1]) ?_
 refine am F aC (am F iz (am F (bY sD fX) (am F (bp 0 r5) (am F (Gv (c':=0) (k:=0) (E:=0) (cs:=[]) F mC) (am F aC (am F iz (am F (bY sD fX) (am F (bp 0 r5) (am F (bV r5) ?_)))))))))
 refine cG F F (zQ (l:=bs) (c:=zc) adB (by kernel_rfl) F (by rw[hn];rfl) (by omega) F ?_)
 refine cG F F (iE F F dN ?_)
 refine cl ?_
 refine cF ?_
 refine aM (str bs) results69 F ?_
 exact⟨F,F⟩
theorem yA (base:World) [eT prog base] [eT prog base] (bb:Nat) (pv:Value) (hp:pv=.pointer none∨pv=(.pointer (aD bb))) (zb:Option Addr) (n zc:Nat) (bs s:List UInt8) (hn:bs.length=n) (hb:n+s.length≤100000000):
  cZ prog base 66 [(.pointer (aD bb)),str s] [eL bb (.cells (List.toArray [pv,(.slice zb n zc)]) 126 (0,0)),ak zb zc 5 1 (gA bs)] (fun _ O'=> ∃yb yc,O'=[eL bb (.cells (List.toArray [(.pointer (aD bb)),(.slice yb (n+s.length) yc)]) 126 (0,0)),ak yb yc 5 1 (gA (bs++s))]):=by
 rcases hp with rfl|rfl
 ·exact Ar base bb zb n zc bs s hn hb
 ·exact Dv base bb zb n zc bs s hn hb
theorem aeN (w:World) [eT prog w] (b:Option Addr) (c:Nat) (l:List Nat) (h:Sl w b (bn l)) (hl: ∀x∈l,x<10000) (tJ:l.length≤64):
  cR prog 38 [.slice b l.length c] w fun v N=>v=str (kn l)∧N=[]:=by
 refine aF func38 F ntmps38 F ?_
 refine a8 (ai (a8 (au (bO Co (fun dk=>?_)))))
 refine bJ (az (bV ew) (aS (aw (T.dH 5 1 ?_))))
 let dC:Value:=(.pointer (aD dk))
 refine cS (fun(j:Nat) ρ O=> ∃(pv:Value) (zb:Option Addr) (zc:Nat),O=[ak zb zc 5 1 (gA (kn (l.take j))),oI dk 126 [pv,(.slice zb ((kn (l.take j)).length) zc)]]∧j≤l.length∧(pv=.pointer none∨pv=dC)∧(zc≠0∨zb=none)∧cL [(0,(.slice b l.length c)),(2,(str [])),(3,dC),(6,(.slice b l.length c)),(7,vI (l.length:Int)),(8,vN j)] ρ) (fun j=>l.length-j) 0 ?_ ?_
 ·exact⟨.pointer none,none,0,F,aG _,.inl F,.inr F,(.of F)⟩
 rintro j ρ O ⟨pv,zb,zc,rfl,hj,Ax,Uy,hH⟩
 obtain⟨fy,rfl⟩:=hH.elim
 clear hH
 have Me:=Gw (l:=l.take j) (fun x hx=>hl x (List.mem_of_mem_take hx))
 rw[bC]at Me
 refine aB cH (TO.ns (aH F (fun hc=>?_) (fun hc=>?_)))
 ·have j7:j<l.length:=by omega
  have qc:j<l.length:=by omega
  have hx9:=hl _ (ap qc)
  have Md:=w7 3 l[j] (by omega)
  refine aE (ba (aw (aB (b8 j ew bt F F (bS h) qc (by rw[ag];exact qc)) (ad (eA nw F F h (dK qc)) (ai (aJ (aQ (TO.lc NJ (aK fun w1 hI=>(haveI:=j6 hI;NK w1 l[j] (by omega))) ?_))))))))
  rintro vr O' ⟨N,rfl,rfl,rfl⟩
  refine ad (yz (a:=Lib.decDigits l[j]) (b:=[32]) (by show _+1≤_;omega) F F) (TO.lc NL (jE [1,0] (yA w dk pv Ax zb (kn (l.take j)).length zc (kn (l.take j)) (Lib.decDigits l[j]++[32]) F (by rw[aI];show _+(_+1)≤_;omega))) ?_)
  rintro vr O' ⟨A1,rfl,yb,yc,rfl⟩
  refine TO.nl ?_
  refine T.have (φ:=(kn (l.take j)).length+((Lib.decDigits l[j]).length+1)≤yc) (fun w9 hI=>by have:=rowP.yB (hI.row (i:=1) F);simpa using this) (fun rY=>?_)
  refine aJ (ad (bK (b:=1) j F F (by omega)) (aS ?_))
  have mK:kn (l.take (j+1))=kn (l.take j)++(Lib.decDigits l[j]++[32]):=by rw[an qc,L2]
  have IZ:(kn (l.take j)++(Lib.decDigits l[j]++[32])).length=(kn (l.take j)).length+(Lib.decDigits l[j]++[32]).length:=aI
  exact⟨j+1,by omega,[ak yb yc 5 1 (gA (kn (l.take j)++(Lib.decDigits l[j]++[32]))),oI dk 126 [dC,(.slice yb ((kn (l.take j)).length+(Lib.decDigits l[j]++[32]).length) yc)]],(aR [1,0]),dC,yb,yc,by rw[mK,IZ],by omega,.inr F,.inl (by omega),(.of F)⟩
 have J5: ¬j<l.length:=by omega
 refine bA ?_
 refine ba ?_
 have hjt:l.take j=l:=aN (by omega)
 refine aJ (TO.lc Va (jE [0,0] (I8 w dk pv zb (kn (l.take j)).length zc (kn (l.take j)) F (by omega) Uy)) ?_)
 rintro vr O' ⟨A1,rfl,rfl,rfl⟩
 refine bm ?_
 refine aM (str (kn (l.take j))) results38 F ?_
 exact⟨[],Sub.z,by rw[hjt],F⟩
theorem XB (w:World) [eT prog w] (b:Bu) (sb eb tb fb:Option Addr) (sc ec tc aa m x:Nat) (h:Sl w eb (eX b.ao)) (hE: ∀e∈b.ao,0≤e.fr∧e.fr.toNat<64∧0≤e.to∧e.to.toNat<64) (hP: ∀e∈b.ao,e.pos<256∧e.neg<256) (hEl:b.ao.length≤1000000) (s:Option Addr) (hs:Sl w s (fe (sR m))) (lm:m<18446744073709551616) (hx:x<256):
  cR prog 70 [(.agg #[(vI b.vars),(vI b.ae),(.slice sb b.start.length sc),(.slice eb b.ao.length ec),(.slice tb b.aP.length tc),(.slice fb ((sR aa).length) ((sR aa).length))]),(.slice s ((sR m).length) ((sR m).length)),.int .u8 ((x:Nat):Int)] w fun v N=> ∃b9 k9,v=.slice b9 (sR (qq b.ao x m)).length (sR (qq b.ao x m)).length∧N=[ak b9 k9 164 1 (fe (sR (qq b.ao x m)))]:=by
 refine aF func70 F ntmps70 F ?_
 let eE:Value:=(.slice eb b.ao.length ec)
 refine a8 (au (e5 [(vI b.vars),(vI b.ae),(.slice sb b.start.length sc),eE,(.slice tb b.aP.length tc),(.slice fb ((sR aa).length) ((sR aa).length))] (fun z1=>?_)))
 refine ai (a8 (bh (bJ (ad (bY R6 eF) (ad (bY vn kQ) (ad (bp 0 XC) (ad (bV XC) (aS (aw (T.dH 3 1 ?_))))))))))
 let dC:Lx.Item:=oI z1 62 [(vI b.vars),(vI b.ae),(.slice sb b.start.length sc),(.slice eb b.ao.length ec),(.slice tb b.aP.length tc),(.slice fb ((sR aa).length) ((sR aa).length))]
 refine cS (fun(i:Nat) ρ O=> ∃(lb:Option Addr) (lc:Nat),O=[ak lb lc 3 1 (bn (lu (b.ao.take i) x m)),dC]∧i≤b.ao.length∧cL [(0,(.agg #[(vI b.vars),(vI b.ae),(.slice sb b.start.length sc),eE,(.slice tb b.aP.length tc),(.slice fb ((sR aa).length) ((sR aa).length))])),(1,(.slice s ((sR m).length) ((sR m).length))),(2,.int .u8 ((x:Nat):Int)),(3,(.pointer (aD z1))),(6,nS),(7,(.slice lb ((lu (b.ao.take i) x m).length) lc)),(12,eE),(13,vI (b.ao.length:Int)),(14,vI ((i:Nat):Int))] ρ) (fun i=>b.ao.length-i) 0 ?_ ?_
 ·exact⟨none,0,F,aG _,(.of F)⟩
 rintro i ρ O ⟨lb,lc,rfl,hi,hH⟩
 obtain⟨fy,rfl⟩:=hH.elim
 clear hH
 have yp:=R7 b.ao x m i
 refine aB cH (TO.ns (aH F (fun hc=>?_) (fun hc=>?_)))
 ·have Na:i<b.ao.length:=by omega
  have gf:i<b.ao.length:=by omega
  have Nf:=hE _ (ap gf)
  have hp9:=hP _ (ap gf)
  let dM:List Value:=[vI b.ao[i].fr,vI b.ao[i].to,.int .u8 ((b.ao[i].pos:Nat):Int),.int .u8 ((b.ao[i].neg:Nat):Int)]
  refine aE (ba (aw (aB (fO (i:=i) XC fm F F (bS h) gf (by first|(rw[fP];omega)|(simp[fP];omega)|(simp_all[fP];omega))) (ad (mM dM Bb F fm F F (eo _) (bS h) (pu gf)) (au (bO fm (fun z2=>?_)))))))
  refine au (cE dM 0 fm ?_)
  refine TO.nl (bP (bY Bb fS) (ad (bp 0 uT5) (ad (nY (a:=x) (b:=b.ao[i].pos) .u8 F F (by show _<256;omega) (by show _<256;omega)) (ad (bY Bb fS) (ad (bp 0 uT5) (ad en ?_))))))
  by_cases MC:((x&&&b.ao[i].pos:Nat):Int)=((b.ao[i].pos:Nat):Int)
  ·refine ad (cm aC MC) ?_
   refine ax aC (ax (bY Bb fS) (ax (bp 0 uT5) (ax (nY (a:=x) (b:=b.ao[i].neg) .u8 F F (by show _<256;omega) (by show _<256;omega)) (ax en (ad bR ?_)))))
   by_cases abX:((x&&&b.ao[i].neg:Nat):Int)=0
   ·refine ad (cm aC abX) ?_
    refine ax aC (ax (bY Bb bt) (ax (bH (bp 0 nw) (v':=vI ((b.ao[i].fr.toNat:Nat):Int)) (av (Value.int .i64) (bq Nf.1).symm)) ?_))
    refine fD F F F (dV XD (aK fun w1 hI=>(haveI:=j6 hI;ag0 w1 s (sR m).length m b.ao[i].fr.toNat (hI.sl hs) lm Nf.2.1)) ?_)
    rintro vr O' ⟨N,rfl,rfl,rfl⟩
    refine bF bR (T.cond F (fun hc=>?_) (fun hc=>?_))
    ·have mK:lu (b.ao.take (i+1)) x m=lu (b.ao.take i) x m++[b.ao[i].to.toNat]:=R8 gf ⟨⟨by omega,by omega⟩,by simpa using hc⟩
     refine aJ (az (bY Bb bt) (ad (bH (bp 0 nw) (v':=vI ((b.ao[i].to.toNat:Nat):Int)) (av (Value.int .i64) (bq Nf.2.2.1).symm)) (au (dv (v:=vI ((b.ao[i].to.toNat:Nat):Int)) ew bt F F F (fun z3=>?_)))))
     refine au (dp 2 ew ew bt F F F F (by simp) (by decide) (Src.row (j:=0) F (by simp)) (by simp[fL]) (by omega) (by decide) (by decide) (fun z4 v_=>?_))
     refine ai ?_
     
     refine aJ (ad (bK (b:=1) i F F (by omega)) (aS ?_))
     exact⟨i+1,by omega,[ak z4 v_ 3 1 ((bn (lu (b.ao.take i) x m))++[vI ((b.ao[i].to.toNat:Nat):Int)]),dC],(by exact Sub.d (.d (.k (.k .z)))),z4,v_,by rw[mK];simp,by omega,⟨F,F,F,F,F,(by rw[mK,aI];rfl),F,F,F,trivial⟩⟩
    refine aE ?_
    have kK:lu (b.ao.take (i+1)) x m=lu (b.ao.take i) x m:=HG gf (fun h9=>by have h8:=h9.1;unfold mw at h8;first|omega|(have h7:=h9.2;simp_all))
    refine aJ (ad (bK (b:=1) i F F (by omega)) (aS ?_))
    exact⟨i+1,by omega,[ak lb lc 3 1 (bn (lu (b.ao.take i) x m)),dC],(by exact Sub.d (.k (.k .z))),lb,lc,by rw[kK],by omega,⟨F,F,F,F,F,(by rw[kK];rfl),F,F,F,trivial⟩⟩
   refine ad (cD aC abX) (cP (bF ca (cK ?_)))
   refine aE ?_
   have kK:lu (b.ao.take (i+1)) x m=lu (b.ao.take i) x m:=HG gf (fun h9=>by have h8:=h9.1;unfold mw at h8;first|omega|(have h7:=h9.2;simp_all))
   refine aJ (ad (bK (b:=1) i F F (by omega)) (aS ?_))
   exact⟨i+1,by omega,[ak lb lc 3 1 (bn (lu (b.ao.take i) x m)),dC],(by exact Sub.d (.k (.k .z))),lb,lc,by rw[kK],by omega,⟨F,F,F,F,F,(by rw[kK];rfl),F,F,F,trivial⟩⟩
  refine ad (cD aC MC) (dt (cP (ad ca (aQ (dt ?_)))))
  refine dt (dj (bF ca (cK (aE ?_))))
  have kK:lu (b.ao.take (i+1)) x m=lu (b.ao.take i) x m:=HG gf (fun h9=>by have h8:=h9.1;unfold mw at h8;first|omega|(have h7:=h9.2;simp_all))
  refine aJ (ad (bK (b:=1) i F F (by omega)) (aS ?_))
  exact⟨i+1,by omega,[ak lb lc 3 1 (bn (lu (b.ao.take i) x m)),dC],(by exact Sub.d (.k (.k .z))),lb,lc,by rw[kK],by omega,⟨F,F,F,F,F,(by rw[kK];rfl),F,F,F,trivial⟩⟩
 have abe: ¬i<b.ao.length:=by omega
 refine bA ?_
 refine bI (TO.lc I4 (aK fun w1 hI=>(haveI:=j6 hI;ofS w1 lb lc (lu (b.ao.take i) x m) (hI.ga (mG 0)) (fun q9 h9=>by obtain⟨e,he,_,_,rfl⟩:=I5.1 h9;exact(hE e (List.mem_of_mem_take he)).2.2.2) (by omega))) ?_)
 rintro vr O' ⟨N,rfl,zb,zk,rfl,rfl⟩
 refine bm ?_
 refine aM (.slice zb ((sR (lr (lu (b.ao.take i) x m))).length) ((sR (lr (lu (b.ao.take i) x m))).length)) results70 F ?_
 have r_:b.ao.take i=b.ao:=aN (by omega)
 rw[r_,R9]
 exact⟨[ak zb zk 164 1 (fe (sR (qq b.ao x m)))],(by exact Sub.k .z),_,_,F,F⟩
theorem NG (w:World) [eT prog w] (b:Option Addr) (c:Nat) (qs:List VR) (h:XF w b qs) (hm:Ad qs) (hp: ∀q∈qs,q.par<1000) (hl:qs.length≤64):
  cR prog 26 [.slice b qs.length c] w fun v N=>v=str (kP (iV qs))∧N=[]:=by
 refine aF func26 F ntmps26 F ?_
 refine a8 (ai (a8 (au (bO Co (fun x1=>?_)))))
 refine bJ (az (bV gr) (aS (aw (T.dH 5 1 ?_))))
 let iC:Value:=(.pointer (aD x1))
 let jR:Value:=(.slice b qs.length c)
 refine cS (fun(i:Nat) ρ O=> ∃(pv:Value) (zb:Option Addr) (zc:Nat),O=[ak zb zc 5 1 (gA (kP ((iV qs).take i))),oI x1 126 [pv,(.slice zb ((kP ((iV qs).take i)).length) zc)]]∧i≤qs.length∧(pv=.pointer none∨pv=iC)∧(zc≠0∨zb=none)∧cL [(0,jR),(2,(str [])),(3,iC),(8,jR),(9,vI (qs.length:Int)),(10,vI ((i:Nat):Int))] ρ) (fun i=>qs.length-i) 0 ?_ ?_
 ·exact⟨.pointer none,none,0,F,aG _,.inl F,.inr F,(.of F)⟩
 rintro i ρ O ⟨pv,zb,zc,rfl,hi,Ax,Uy,hH⟩
 obtain⟨fy,rfl⟩:=hH.elim
 clear hH
 have Me:(kP ((iV qs).take i)).length≤200*i:=by
  have h9:=I6 (t:=(iV qs).take i) (fun v hv=>by obtain⟨q9,h8,rfl⟩:=List.mem_map.1 (List.mem_of_mem_take hv);exact hp q9 h8)
  rw[bC,gU]at h9;omega
 refine aB cH (TO.ns (aH F (fun hc=>?_) (fun hc=>?_)))
 ·have AC:i<qs.length:=by omega
  have gf:i<qs.length:=by omega
  have NH:=hp _ (ap gf)
  have Md:=Cp (k:=2) (m:=qs[i].par) (by omega)
  have hTT:kP ((iV qs).take i)++w8 qs[i].par (eO qs[i].m)=kP ((iV qs).take (i+1)):=by rw[NI (by rw[gU];exact gf)];simp[ud]
  let gS:List Value:=[vI ((qs[i].par:Nat):Int),(.slice qs[i].b ((sR qs[i].m).length) ((sR qs[i].m).length))]
  refine aE (ba (aw (aB (fO (i:=i) gr fT F F (bS h.row) gf (by first|(rw[dP];omega)|(simp[dP];omega)|(simp_all[dP];omega))) (ad (mM gS kX F fT F F (eo _) (bS h.row) (yy gf)) (au (bO fT (fun x2=>?_)))))))
  refine au (cE gS 0 fT ?_)
  refine TO.nl (aB (bY kX bt) (ad (bp 0 nw) (TO.lc NJ (aK fun w1 hI=>(haveI:=j6 hI;NK w1 qs[i].par (by omega))) ?_)))
  rintro vr O' ⟨N,rfl,rfl,rfl⟩
  refine ad (yz (a:=Lib.decDigits qs[i].par) (b:=[58]) (by show _+1≤_;omega) F F) (TO.lc NL (jE [2,1] (yA w x1 pv Ax zb (kP ((iV qs).take i)).length zc (kP ((iV qs).take i)) (Lib.decDigits qs[i].par++[58]) F (by have h9:(Lib.decDigits qs[i].par++[58]).length=(Lib.decDigits qs[i].par).length+1:=(by simp);omega))) ?_)
  rintro vr O' ⟨A1,rfl,yb,yc,rfl⟩
  refine TO.ns ?_
  have hl1:(kP ((iV qs).take i)++(Lib.decDigits qs[i].par++[58])).length=(kP ((iV qs).take i)).length+(Lib.decDigits qs[i].par++[58]).length:=aI
  refine T.have (φ:=yc≠0) (fun w9 hI=>by have:=rowP.yB (hI.row (i:=1) F);simp at this;omega) (fun hyc=>?_)
  refine aJ (ad (bY kX ki) (ad (bp 2 ue) (TO.lc abY (aK fun w1 hI=>(haveI:=j6 hI;abW w1 qs[i].b qs[i].m (hI.sl (h.gV _ (ap gf))) (hm _ (ap gf)))) ?_)))
  rintro vr O' ⟨N,rfl,lb,lc,rfl,rfl⟩
  refine ad (bV ew) (aS (aw ?_))
  let gC:Lx.Item:=ak lb lc 3 1 (bn (eO qs[i].m))
  let gk:Lx.Item:=oI x1 126 [(.pointer (aD x1)),(.slice yb ((kP ((iV qs).take i)).length+(Lib.decDigits qs[i].par++[58]).length) yc)]
  refine cV (O':=[ak yb yc 5 1 (gA (kP ((iV qs).take i)++(Lib.decDigits qs[i].par++[58]))),gk,gC]) (by exact Sub.dm [gC,gk] _ (.dm [gC] _ (.k .z))) ?_
  refine cS (fun(j:Nat) ρ O=> ∃(pv:Value) (zb:Option Addr) (zc:Nat),O=[ak zb zc 5 1 (gA (kP ((iV qs).take i)++w8 qs[i].par ((eO qs[i].m).take j))),oI x1 126 [pv,(.slice zb ((kP ((iV qs).take i)++w8 qs[i].par ((eO qs[i].m).take j)).length) zc)],gC]∧j≤(eO qs[i].m).length∧(pv=.pointer none∨pv=iC)∧(zc≠0∨zb=none)∧cL [(0,jR),(2,(str [])),(3,iC),(5,(.pointer (aD x2))),(8,jR),(9,vI (qs.length:Int)),(10,vI ((i:Nat):Int)),(21,(.slice lb ((eO qs[i].m).length) lc)),(22,vI ((eO qs[i].m).length:Int)),(23,vI ((j:Nat):Int))] ρ) (fun j=>(eO qs[i].m).length-j) 0 ?_ ?_
  ·exact⟨iC,yb,yc,by rw[List.take_zero,R_,hl1],aG _,.inr F,.inl hyc,(.of F)⟩
  rintro j ρ O ⟨pv,zb,zc,rfl,hj,Ax,Uy,hH⟩
  obtain⟨fy,rfl⟩:=hH.elim
  clear hH
  have qw:=I7 (p:=qs[i].par) (l:=(eO qs[i].m).take j) (hp _ (ap gf)) (fun s hs=>(q6.1 (List.mem_of_mem_take hs)).1)
  rw[bC]at qw
  have hbl:(eO qs[i].m).length≤64:=yx _
  have yp:(kP ((iV qs).take i)++w8 qs[i].par ((eO qs[i].m).take j)).length=(kP ((iV qs).take i)).length+(w8 qs[i].par ((eO qs[i].m).take j)).length:=aI
  refine aB cH (TO.ns (aH F (fun hc=>?_) (fun hc=>?_)))
  ·have DV:j<(eO qs[i].m).length:=by omega
   have qc:j<(eO qs[i].m).length:=by omega
   have amb:(eO qs[i].m)[j]<64:=(q6.1 (ap qc)).1
   have MS:=Cp (k:=1) (m:=(eO qs[i].m)[j]) (by omega)
   have mK:kP ((iV qs).take i)++w8 qs[i].par ((eO qs[i].m).take (j+1))=(kP ((iV qs).take i)++w8 qs[i].par ((eO qs[i].m).take j))++(Lib.decDigits (eO qs[i].m)[j]++[32]):=by rw[an qc,NM,bw]
   refine aE (ba (aw (aB (b8 j ew bt F F (bU 2) qc (by rw[ag];exact qc)) (ad (dR nw F F (bU 2) (dK qc)) (ai (aJ (aQ (TO.lc NJ (aK fun w1 hI=>(haveI:=j6 hI;NK w1 (eO qs[i].m)[j] (by omega))) ?_))))))))
   rintro vr O' ⟨N,rfl,rfl,rfl⟩
   refine ad (yz (a:=Lib.decDigits (eO qs[i].m)[j]) (b:=[32]) (by show _+1≤_;omega) F F) (TO.lc NL (jE [1,0] (yA w x1 pv Ax zb (kP ((iV qs).take i)++w8 qs[i].par ((eO qs[i].m).take j)).length zc (kP ((iV qs).take i)++w8 qs[i].par ((eO qs[i].m).take j)) (Lib.decDigits (eO qs[i].m)[j]++[32]) F (by have h9:(Lib.decDigits (eO qs[i].m)[j]++[32]).length=(Lib.decDigits (eO qs[i].m)[j]).length+1:=(by simp);omega))) ?_)
   rintro vr O' ⟨A1,rfl,yb,yc,rfl⟩
   refine TO.nl ?_
   have hl2:(kP ((iV qs).take i)++w8 qs[i].par ((eO qs[i].m).take j)++(Lib.decDigits (eO qs[i].m)[j]++[32])).length=(kP ((iV qs).take i)++w8 qs[i].par ((eO qs[i].m).take j)).length+(Lib.decDigits (eO qs[i].m)[j]++[32]).length:=aI
   refine T.have (φ:=yc≠0) (fun w9 hI=>by have:=rowP.yB (hI.row (i:=1) F);simp at this;omega) (fun hyc=>?_)
   refine aJ (ad (bK (b:=1) j F F (by omega)) (aS ?_))
   let fo:Lx.Item:=oI x1 126 [(.pointer (aD x1)),(.slice yb ((kP ((iV qs).take i)++w8 qs[i].par ((eO qs[i].m).take j)).length+(Lib.decDigits (eO qs[i].m)[j]++[32]).length) yc)]
   exact⟨j+1,by omega,[ak yb yc 5 1 (gA (kP ((iV qs).take i)++w8 qs[i].par ((eO qs[i].m).take j)++(Lib.decDigits (eO qs[i].m)[j]++[32]))),fo,gC],(by exact Sub.dm [fo] _ (.k (.k .z))),iC,yb,yc,by rw[mK,hl2],by omega,.inr F,.inl hyc,(.of F)⟩
  have DX: ¬j<(eO qs[i].m).length:=by omega
  refine bA ?_
  refine aJ (ad (bK (b:=1) i F F (by omega)) (aS ?_))
  have hje:(eO qs[i].m).take j=eO qs[i].m:=aN (by omega)
  have hT2:kP ((iV qs).take i)++w8 qs[i].par ((eO qs[i].m).take j)=kP ((iV qs).take (i+1)):=by rw[hje,hTT]
  exact⟨i+1,by omega,[ak zb zc 5 1 (gA (kP ((iV qs).take i)++w8 qs[i].par ((eO qs[i].m).take j))),oI x1 126 [pv,(.slice zb ((kP ((iV qs).take i)++w8 qs[i].par ((eO qs[i].m).take j)).length) zc)]],(by exact Sub.k (.k .z)),pv,zb,zc,by rw[hT2],by omega,Ax,Uy,(.of F)⟩
 have MA: ¬i<qs.length:=by omega
 refine bA ?_
 refine ba ?_
 have nK:(iV qs).take i=iV qs:=aN (by rw[gU];omega)
 refine aJ (TO.lc Va (jE [0,0] (I8 w x1 pv zb (kP ((iV qs).take i)).length zc (kP ((iV qs).take i)) F (by omega) Uy)) ?_)
 rintro vr O' ⟨A1,rfl,rfl,rfl⟩
 refine bm ?_
 refine aM (str (kP ((iV qs).take i))) results26 F ?_
 exact⟨[],Sub.z,by rw[nK],F⟩
theorem Sa (w:World) [eT prog w] (b:Option Addr) (n c:Nat):
  cR prog 76 [.slice b n c] w fun v N=> ∃xb:Nat,v=(.func (.func 109) #[] #[(.pointer (aD xb))])∧N=[oI xb 66 [(.slice b n c)]]:=by
 refine aF func76 F ntmps76 F ?_
 refine a8 (au (e5 [(.slice b n c)] (fun dk=>?_)))
 refine ai (aB (dZ) (ai (cF ?_)))
 refine aM (.func (.func 109) #[] #[(.pointer (aD dk))]) results76 F ?_
 exact⟨dk,F,F⟩
theorem XG (base:World) [eT prog base] (xb:Nat) (b:Option Addr) (n c k:Nat) (Y:Lx.Item) (yv:Value) (J:Nat→List Lx.Item→Prop) (G:Nat→List VR→List Lx.Item→Prop) (hn:n≤1000000)
  (hJ: ∀(i:Nat) (O:List Lx.Item),J i O→ ∃(qs:List VR) (O1:List Lx.Item),O=Y::ak b k 64 2 (gW qs)::O1∧qs.length=n∧G i qs O1)
  (hy: ∀(i:Nat) (qs:List VR) (O1:List Lx.Item) (hi:i<qs.length),1≤i→qs.length=n→G i qs O1→dS prog base yv [vN i,.agg #[vN (qs[i].par),.slice qs[i].b (sR qs[i].m).length (sR qs[i].m).length]] (Y::ak b k 64 2 (gW qs)::O1) (fun v O'=>v=.bool true∧J (i+1) O'))
  (O:List Lx.Item) (h0:J 1 O):
  cZ prog base 109 [yv,.pointer (aD xb)] ([oI xb 66 [(.slice b n c)]]++O) (fun _ O'=>J (max 1 n) O'):=by
 refine aF func109 F ntmps109 F ?_
 refine a8 (ai (aw ?_))
 obtain⟨qs0,O1,rfl,QZ,hg0⟩:=hJ 1 O h0
 let dC:Lx.Item:=oI xb 66 [(.slice b n c)]
 refine cX (fun(i:Nat) ρ O=> ∃(qs:List VR) (O1:List Lx.Item),O=([dC,Y,ak b k 64 2 (gW qs)]++O1)∧1≤i∧i≤max 1 n∧qs.length=n∧J i (Y::ak b k 64 2 (gW qs)::O1)∧G i qs O1∧cL [(0,yv),(1,(.pointer (aD xb))),(3,vN i)] ρ) (fun i=>n-i) 1 ?_ ?_
 ·exact⟨qs0,O1,F,aV _,Nat.le_max_left _ _,QZ,h0,hg0,⟨F,F,F,trivial⟩⟩
 rintro i ρ O ⟨qs,O1,rfl,GM,tG,DF,hJi,hGi,hH⟩
 obtain⟨fy,rfl⟩:=hH.elim
 clear hH
 refine ba (bP (bp 0 gr) (ad (bV gr) (bF cH (aH F (fun hc=>?_) (fun hc=>?_)))))
 ·have qp:i<n:=by omega
  have gf:i<qs.length:=by omega
  refine aE (ba (aw (bI (az (bp 0 gr) (az (fO (i:=i) gr fT F F (bU 2) (by omega) (by first|(rw[dP];omega)|(simp[dP];omega)|(simp_all[dP];omega))) (ad (mM [vN (qs[i].par),(.slice qs[i].b ((sR qs[i].m).length) ((sR qs[i].m).length))] kX F fT F F (eo _) (bU 2) (yy gf)) ?_))))))
  have EW:=dS.under (B:=[dC]) (O:=([dC,Y,ak b k 64 2 (gW qs)]++O1)) (hy i qs O1 gf GM DF hGi) (fq [])
  refine au (et EW F F ?_)
  clear EW
  rintro vr O' ⟨A1,rfl,rfl,Ef⟩
  refine cY (O':=([dC]++A1)) (fq []) ?_
  refine bF gM (cK (aE (aJ (az (bK (b:=1) i F F (by omega)) (ai ?_)))))
  obtain⟨kw,O2,rfl,IN,hg2⟩:=hJ _ _ Ef
  exact⟨i+1,by omega,kw,O2,F,by omega,by omega,IN,Ef,hg2,⟨F,F,F,trivial⟩⟩
 have RG: ¬i<n:=by omega
 refine bA ?_
 refine e7 ?_
 refine pk.zero results109 ?_
 have r_:max 1 n=i:=by omega
 exact⟨Y::ak b k 64 2 (gW qs)::O1,fq [dC],by rw[r_];exact hJi⟩
theorem HH {A:List Lx.Item} (B:List Lx.Item) {X:List Lx.Item}:Sub (X++A) (X++(A++B)):=bj ((ay X).append (List.sublist_append_left A B))
theorem Sb (base:World) [eT prog base] (zn zv nc nk cc ck:Nat) (nb cb:Option Addr) (qs cs:List VR) (i n:Nat) (hi:i<qs.length) (hp:qs[i].par<qs.length) (wH:qs[i].par<cs.length) (hn:qs.length=n) (hl:cs.length=n) (hm:Ad qs) (Zr:Ad cs):
  cZ prog base 73 [vN i,(.agg #[vN (qs[i].par),(.slice qs[i].b ((sR qs[i].m).length) ((sR qs[i].m).length))]),(.pointer (aD zn)),(.pointer (aD zv))] ([oI zn 66 [(.slice nb n nc)],ak nb nk 64 2 (gW qs),oI zv 136 [(.slice cb n cc)],ak cb ck 59 1 (oy cs)]++(f_ 164 qs++f_ 164 cs)) (fun _ O'=> ∃q r:VR,q.par=qs[i].par∧q.m=oa (qs[i].m&&&qs[qs[i].par].m) cs[qs[i].par].m∧r.m=cs[qs[i].par].m|||q.m∧O'=[oI zn 66 [(.slice nb n nc)],ak nb nk 64 2 (gW (qs.set i q)),oI zv 136 [(.slice cb n cc)],ak cb ck 59 1 (oy (cs.set qs[i].par r))]++(f_ 164 (qs.set i q)++f_ 164 (cs.set qs[i].par r))):=by
 refine aF func73 F ntmps73 F ?_
 let dM:List Value:=[vN (qs[i].par),(.slice qs[i].b ((sR qs[i].m).length) ((sR qs[i].m).length))]
 refine a8 (au (e5 dM (fun x1=>?_)))
 refine TO.ns ?_
 refine e6 [(0,0),(1,0),(2,0),(3,0),(4,0),(5,0),(6,0),(7,0),(9,0),(10,0),(11,0),(12,0),(13,0),(8,1),(14,2),(15,2)] ?_
 refine am F (bY kX ki) (am F (bp 0 ue) (am F (bp 1 gr) (am F (bY kX bt) (am F (bp 0 nw) (am F (fO (i:=qs[i].par) gr fT F F (bU 2) (by omega) (by rw[dP];omega)) (am F (ez kX F ki F F (bU 2) (by first|(rw[dP];omega)|(simp[dP];omega)|(simp_all[dP];omega))) (am F (dR ue F F (bU 2) (og hp 1 (by decide))) (am F (bp 3 q_) (am F (bY kX bt) (am F (bp 0 nw) (am F (b8 (qs[i].par) q_ ki F F (bU 4) (by omega) (by rw[ag];exact wH)) (am F (dR ue F F (bU 4) (Cq wH)) ?_))))))))))))
 let iC:Lx.Item:=oI zv 136 [(.slice cb n cc)]
 let jR:Lx.Item:=oI zn 66 [(.slice nb n nc)]
 let jT:List Lx.Item:=[oI x1 64 dM,jR,ak nb nk 64 2 (gW qs),iC,ak cb ck 59 1 (oy cs)]
 refine eH F F (dV NB (aK fun w1 hI=>(haveI:=j6 hI;HC w1 qs[i].b qs[qs[i].par].b (sR qs[i].m).length (sR qs[qs[i].par].m).length qs[i].m qs[qs[i].par].m (hI.vr (vo (X:=jT) hi)) (hm.at hi) (hI.vr (vo (X:=jT) hp)) (hm.at hp))) ?_)
 rintro vr O' ⟨N,rfl,xb,xk,rfl,rfl⟩
 refine⟨by exact Sub.d (.k (.k (.k (.k (.k .rf))))),?_⟩
 refine cG F F (dV ab1 (aK fun w1 hI=>(haveI:=j6 hI;Xk w1 xb cs[qs[i].par].b (sR (qs[i].m&&&qs[qs[i].par].m)).length (sR cs[qs[i].par].m).length (qs[i].m&&&qs[qs[i].par].m) cs[qs[i].par].m (hI.ga (mG 0)) (ee Nat.and_le_left (hm.at hi)) (hI.vr (w_ (X:=[ak xb xk 164 1 (fe (sR (qs[i].m&&&qs[qs[i].par].m))),oI x1 64 dM,jR,ak nb nk 64 2 (gW qs),iC,ak cb ck 59 1 (oy cs)]) wH)) (Zr.at wH))) ?_)
 rintro vr O' ⟨N,rfl,yb,yk,rfl,rfl⟩
 refine cG F F (iE F F dN ?_)
 refine cl ?_
 let gS:Value:=(.slice yb ((sR (oa (qs[i].m&&&qs[qs[i].par].m) cs[qs[i].par].m)).length) ((sR (oa (qs[i].m&&&qs[qs[i].par].m) cs[qs[i].par].m)).length))
 refine aB (bp 3 gr) (aQ (az (fO (i:=i) gr fT F F (bU 4) (by omega) (by rw[dP];omega)) (ad (ez kX F ki F F (bU 4) (by first|(rw[dP];omega)|(simp[dP];omega)|(simp_all[dP];omega))) (au (gw (v:=gS) (vs:=[gS]) (cs:=gW qs) ((i*2+1)) 4 ki F F F F F (by simp) F (by rw[dP];show _+1≤_;omega) ?_)))))
 let eE:Lx.Item:=ak nb nk 64 2 (gW (qs.set i (⟨qs[i].par,oa (qs[i].m&&&qs[qs[i].par].m) cs[qs[i].par].m,yb,yk⟩:VR)))
 let gC:List Lx.Item:=[ak yb yk 164 1 (fe (sR (oa (qs[i].m&&&qs[qs[i].par].m) cs[qs[i].par].m))),ak xb xk 164 1 (fe (sR (qs[i].m&&&qs[qs[i].par].m))),oI x1 64 dM,oI zn 66 [(.slice nb n nc)],eE,oI zv 136 [(.slice cb n cc)],ak cb ck 59 1 (oy cs)]
 refine cY (O':=(gC++(f_ 164 qs++f_ 164 cs))) (by rw[show dq (gW qs) (i*2+1) [(.slice yb ((sR (oa (qs[i].m&&&qs[qs[i].par].m) cs[qs[i].par].m)).length) ((sR (oa (qs[i].m&&&qs[qs[i].par].m) cs[qs[i].par].m)).length))]=gW (qs.set i (⟨qs[i].par,oa (qs[i].m&&&qs[qs[i].par].m) cs[qs[i].par].m,yb,yk⟩:VR))from Sc hi (q:=(⟨qs[i].par,oa (qs[i].m&&&qs[qs[i].par].m) cs[qs[i].par].m,yb,yk⟩:VR)) F];exact bj (ay _)) ?_
 refine TO.nl ?_
 refine e6 [(0,0),(1,0),(2,0),(3,0),(4,0),(5,0),(6,0),(7,0),(8,0),(9,1),(10,0),(11,2)] ?_
 refine am F (bp 5 q_) (am F (bY kX bt) (am F (bp 2 nw) (am F (bp 5 q_) (am F (bY kX bt) (am F (bp 2 nw) (am F (b8 (qs[i].par) q_ ki F F (bU 6) (by omega) (by rw[ag];exact wH)) (am F (dR ue F F (bU 6) (Cq wH)) (am F aC ?_))))))))
 refine eH F F (dV Nz (aK fun w1 hI=>(haveI:=j6 hI;HA w1 cs[qs[i].par].b yb (sR cs[qs[i].par].m).length (sR (oa (qs[i].m&&&qs[qs[i].par].m) cs[qs[i].par].m)).length cs[qs[i].par].m (oa (qs[i].m&&&qs[qs[i].par].m) cs[qs[i].par].m) (hI.vr (w_ (X:=gC) wH)) (Zr.at wH) (hI.ga (mG 0)) (Cr (n:=64) (ee Nat.and_le_left (hm.at hi))))) ?_)
 rintro vr O' ⟨N,rfl,ub,uk,rfl,rfl⟩
 refine⟨by exact Sub.d (.k (.k (.k (.k (.k (.k (.k .rf))))))),?_⟩
 refine am F (b8 (qs[i].par) q_ ki F F (bU 6) (by omega) (by rw[ag];exact wH)) ?_
 let gk:Value:=(.slice ub ((sR (cs[qs[i].par].m|||oa (qs[i].m&&&qs[qs[i].par].m) cs[qs[i].par].m)).length) ((sR (cs[qs[i].par].m|||oa (qs[i].m&&&qs[qs[i].par].m) cs[qs[i].par].m)).length))
 refine cG F F (gw (v:=gk) (vs:=[gk]) (cs:=oy cs) (qs[i].par) 7 ki F F F F F (by simp) F (by first|(simp;omega)|(simp_all;omega)) ?_)
 let fo:Lx.Item:=ak cb ck 59 1 (oy (cs.set qs[i].par (⟨0,cs[qs[i].par].m|||oa (qs[i].m&&&qs[qs[i].par].m) cs[qs[i].par].m,ub,uk⟩:VR)))
 refine eM (O':=([ak ub uk 164 1 (fe (sR (cs[qs[i].par].m|||oa (qs[i].m&&&qs[qs[i].par].m) cs[qs[i].par].m))),ak yb yk 164 1 (fe (sR (oa (qs[i].m&&&qs[qs[i].par].m) cs[qs[i].par].m))),ak xb xk 164 1 (fe (sR (qs[i].m&&&qs[qs[i].par].m))),oI x1 64 dM,jR,eE,iC,fo]++(f_ 164 qs++f_ 164 cs))) (by rw[show dq (oy cs) qs[i].par [(.slice ub ((sR (cs[qs[i].par].m|||oa (qs[i].m&&&qs[qs[i].par].m) cs[qs[i].par].m)).length) ((sR (cs[qs[i].par].m|||oa (qs[i].m&&&qs[qs[i].par].m) cs[qs[i].par].m)).length))]=oy (cs.set qs[i].par (⟨0,cs[qs[i].par].m|||oa (qs[i].m&&&qs[qs[i].par].m) cs[qs[i].par].m,ub,uk⟩:VR))from Sd wH (⟨0,cs[qs[i].par].m|||oa (qs[i].m&&&qs[qs[i].par].m) cs[qs[i].par].m,ub,uk⟩:VR)];exact bj (ay _)) ?_
 refine cl ?_
 refine e7 ?_
 refine pk.zero results73 ?_
 exact⟨[jR,eE,iC,fo]++(f_ 164 (qs.set i (⟨qs[i].par,oa (qs[i].m&&&qs[qs[i].par].m) cs[qs[i].par].m,yb,yk⟩:VR))++f_ 164 (cs.set qs[i].par (⟨0,cs[qs[i].par].m|||oa (qs[i].m&&&qs[qs[i].par].m) cs[qs[i].par].m,ub,uk⟩:VR))),(Se (U:=164) (X:=[jR,eE,iC,fo]) hi wH (⟨qs[i].par,oa (qs[i].m&&&qs[qs[i].par].m) cs[qs[i].par].m,yb,yk⟩:VR) (⟨0,cs[qs[i].par].m|||oa (qs[i].m&&&qs[qs[i].par].m) cs[qs[i].par].m,ub,uk⟩:VR)).trans (by exact Sub.k (.k (.d (.d (.k (.k (.k (.k .rf)))))))),(⟨qs[i].par,oa (qs[i].m&&&qs[qs[i].par].m) cs[qs[i].par].m,yb,yk⟩:VR),(⟨0,cs[qs[i].par].m|||oa (qs[i].m&&&qs[qs[i].par].m) cs[qs[i].par].m,ub,uk⟩:VR),F,F,F,F⟩
theorem ab3 (w:World) [eT prog w] (b:Bu) (sb eb tb fb:Option Addr) (sc ec tc aa N9:Nat) (h:Sl w eb (eX b.ao)) (hE: ∀e∈b.ao,0≤e.fr∧e.fr.toNat<64∧0≤e.to∧e.to.toNat<64) (hP: ∀e∈b.ao,e.pos<256∧e.neg<256) (hEl:b.ao.length≤1000000) (ab4:N9≤10) (hEN: ∀e∈b.ao,e.to.toNat<N9) (XH:Sl w fb (fe (sR aa))) (lF:aa<18446744073709551616)
  (rb:Option Addr) (rc:Nat) (ts:List VR) (hT:XF w rb ts) (hG:iu N9 (iV ts)) (x:Nat) (hx:x<256):
  cR prog 27 [(.agg #[(vI b.vars),(vI b.ae),(.slice sb b.start.length sc),(.slice eb b.ao.length ec),(.slice tb b.aP.length tc),(.slice fb ((sR aa).length) ((sR aa).length))]),.slice rb ts.length rc,v8 x] w fun v N=> ∃t:pm,v=.tuple #[t.val,vN (kM b.ao aa x (iV ts)),vN (mU b.ao aa x (iV ts))]∧N=t.Xf 64 164∧iV t.qs=Lx.stepT b.ao aa x (iV ts):=by
 refine aF func27 F ntmps27 F ?_
 have Me:=hG.len
 rw[gU]at Me
 have ag4:=jh.of ab4 hG
 refine a8 (au (e5 [(vI b.vars),(vI b.ae),(.slice sb b.start.length sc),(.slice eb b.ao.length ec),(.slice tb b.aP.length tc),(.slice fb ((sR aa).length) ((sR aa).length))] (fun z1=>?_)))
 refine au (bO qg (fun z2=>?_))
 refine bh (ai (bP (bV gr) (bh (bJ (az (bV gr) (aS (aw (T.dH 64 2 ?_))))))))
 refine cV (O':=[ak none 0 64 2 [],oI z2 66 [nS],oI z1 62 [(vI b.vars),(vI b.ae),(.slice sb b.start.length sc),(.slice eb b.ao.length ec),(.slice tb b.aP.length tc),(.slice fb ((sR aa).length) ((sR aa).length))]]) (by exact Sub.rf) ?_
 refine cS (fun(i:Nat) ρ O=> ∃(qs:List VR) (nb:Option Addr) (nc:Nat),O=([ak nb nc 64 2 (gW qs),oI z2 66 [(.slice nb qs.length nc)],oI z1 62 [(vI b.vars),(vI b.ae),(.slice sb b.start.length sc),(.slice eb b.ao.length ec),(.slice tb b.aP.length tc),(.slice fb ((sR aa).length) ((sR aa).length))]]++(f_ 164 qs))∧i≤ts.length∧iV qs=I9 b.ao x ((iV ts).take i)∧jh qs∧cL [(0,(.agg #[(vI b.vars),(vI b.ae),(.slice sb b.start.length sc),(.slice eb b.ao.length ec),(.slice tb b.aP.length tc),(.slice fb ((sR aa).length) ((sR aa).length))])),(1,(.slice rb ts.length rc)),(2,v8 x),(3,(.pointer (aD z1))),(6,(.pointer (aD z2))),(7,vI 0),(8,vI 0),(9,vI (ts.length:Int)),(27,(.slice rb ts.length rc)),(28,vI (ts.length:Int)),(29,vN i)] ρ) (fun i=>ts.length-i) 0 ?_ ?_
 ·exact⟨[],none,0,F,aG _,F,jh.nil,(.of F)⟩
 rintro i ρ O ⟨qs,nb,nc,rfl,hi,pO,GO,hH⟩
 obtain⟨fy,rfl⟩:=hH.elim
 clear hH
 have tD:qs.length=i:=by rw[←gU,pO,pP,bC,gU];omega
 refine aB cH (TO.ns (aH F (fun hc=>?_) (fun hc=>?_)))
 ·have ab5:i<ts.length:=by omega
  have gf:i<ts.length:=by omega
  have mK:qq b.ao x ts[i].m<1024:=du (XI hEN) (dw (n:=2) (by decide) ab4)
  refine aE (ba (aw (aB (fO (i:=i) gr fT F F (bS hT.row) gf (by first|(rw[dP];omega)|(simp[dP];omega)|(simp_all[dP];omega))) (ad (mM [vN (ts[i].par),(.slice ts[i].b ((sR ts[i].m).length) ((sR ts[i].m).length))] kX F fT F F (eo _) (bS hT.row) (yy gf)) (au (bO fT (fun z3=>?_)))))))
  refine au (cE [vN (ts[i].par),(.slice ts[i].b ((sR ts[i].m).length) ((sR ts[i].m).length))] 0 fT ?_)
  refine TO.nl ?_
  refine e6 [(0,0),(1,0),(2,0),(3,0),(4,0),(5,0),(6,0),(7,1),(8,0),(9,1),(10,2),(11,2)] ?_
  refine am F (bp 2 gr) (am F (bY kX bt) (am F (bp 0 nw) (am F (eg 3 R6 wa) (am F (bY kX ki) (am F (bp 0 ue) (am F aC ?_))))))
  have NN:=fun(w1:World) (hI:Inv w ([oI z3 64 [vN (ts[i].par),(.slice ts[i].b ((sR ts[i].m).length) ((sR ts[i].m).length))],ak nb nc 64 2 (gW qs),oI z2 66 [(.slice nb qs.length nc)],oI z1 62 [(vI b.vars),(vI b.ae),(.slice sb b.start.length sc),(.slice eb b.ao.length ec),(.slice tb b.aP.length tc),(.slice fb ((sR aa).length) ((sR aa).length))]]++(f_ 164 qs)) w1)=>(haveI:=j6 hI;XB w1 b sb eb tb fb sc ec tc aa ts[i].m x (hI.sl h) hE hP hEl ts[i].b (hI.sl (hT.gV _ (ap gf))) (ag4.w.at gf) hx)
  refine eH F F (dV ab6 (aK NN) ?_)
  clear NN
  rintro vr O' ⟨N,rfl,zb,zk,rfl,rfl⟩
  refine⟨by exact Sub.d (.k (.k (.k (.k .rf)))),?_⟩
  refine am F (dy [vN (ts[i].par),(.slice zb ((sR (qq b.ao x ts[i].m)).length) ((sR (qq b.ao x ts[i].m)).length))] HI fT (by kernel_rfl)) ?_
  refine eH F F (cW (m:=1) (parts:=[(0,_)]) (cs:=[vN (ts[i].par),(.slice zb ((sR (qq b.ao x ts[i].m)).length) ((sR (qq b.ao x ts[i].m)).length))]) gr fT (by decide) (by kernel_rfl) F (fun z4=>⟨by exact Sub.d (.d (.k (.k (.k (.k .rf))))),?_⟩))
  refine cG F F (dp 3 gr gr fT F F F F (dP qs) (by decide) (Src.row (j:=0) F (by simp)) (by simp[fL]) (by omega) (by decide) (by decide) (fun z5 uW=>?_))
  refine cG F F (cE [(.slice z5 (qs.length+1) uW)] 4 qg ?_)
  refine cl ?_
  refine cV (O':=[ak z5 uW 64 2 (gW (qs++[(⟨ts[i].par,qq b.ao x ts[i].m,zb,zk⟩:VR)])),oI z2 66 [(.slice z5 (qs.length+1) uW)],oI z1 62 [(vI b.vars),(vI b.ae),(.slice sb b.start.length sc),(.slice eb b.ao.length ec),(.slice tb b.aP.length tc),(.slice fb ((sR aa).length) ((sR aa).length))]]++f_ 164 (qs++[(⟨ts[i].par,qq b.ao x ts[i].m,zb,zk⟩:VR)])) ((I_ 164 qs (⟨ts[i].par,qq b.ao x ts[i].m,zb,zk⟩:VR) [ak z5 uW 64 2 (gW (qs++[(⟨ts[i].par,qq b.ao x ts[i].m,zb,zk⟩:VR)])),oI z2 66 [(.slice z5 (qs.length+1) uW)],oI z1 62 [(vI b.vars),(vI b.ae),(.slice sb b.start.length sc),(.slice eb b.ao.length ec),(.slice tb b.aP.length tc),(.slice fb ((sR aa).length) ((sR aa).length))]]).trans (by rw[xe];exact Sub.d (.k (.d (.k (.k (.k .rf))))))) ?_
  refine aJ (ad (bK (b:=1) i F F (by omega)) (aS ?_))
  exact⟨i+1,by omega,([ak z5 uW 64 2 (gW (qs++[(⟨ts[i].par,qq b.ao x ts[i].m,zb,zk⟩:VR)])),oI z2 66 [(.slice z5 (qs.length+1) uW)],oI z1 62 [(vI b.vars),(vI b.ae),(.slice sb b.start.length sc),(.slice eb b.ao.length ec),(.slice tb b.aP.length tc),(.slice fb ((sR aa).length) ((sR aa).length))]]++(f_ 164 (qs++[(⟨ts[i].par,qq b.ao x ts[i].m,zb,zk⟩:VR)]))),(by exact Sub.rf),qs++[(⟨ts[i].par,qq b.ao x ts[i].m,zb,zk⟩:VR)],z5,uW,by simp,by omega,by rw[Cs,pO,Sf (by rw[gU];exact gf)];simp[ud],GO.snoc mK,(.of F)⟩
 have ab7: ¬i<ts.length:=by omega
 refine bA ?_
 refine ba (bI (aS (aw ?_)))
 obtain⟨n1,D6⟩: ∃z,I9 b.ao x (iV ts)=z:=⟨_,F⟩
 have hq1:iV qs=n1:=by rw[pO,aN (by rw[gU];omega),D6]
 have ami:n1.length=ts.length:=by rw[←D6,pP,gU]
 clear pO tD
 refine cS (fun(i:Nat) ρ O=> ∃(qs:List VR) (nb:Option Addr) (nc:Nat),O=([ak nb nc 64 2 (gW qs),oI z2 66 [(.slice nb qs.length nc)],oI z1 62 [(vI b.vars),(vI b.ae),(.slice sb b.start.length sc),(.slice eb b.ao.length ec),(.slice tb b.aP.length tc),(.slice fb ((sR aa).length) ((sR aa).length))]]++(f_ 164 qs))∧i≤ts.length∧iV qs=n1++ra n1 aa i∧jh qs∧cL [(0,(.agg #[(vI b.vars),(vI b.ae),(.slice sb b.start.length sc),(.slice eb b.ao.length ec),(.slice tb b.aP.length tc),(.slice fb ((sR aa).length) ((sR aa).length))])),(1,(.slice rb ts.length rc)),(2,v8 x),(3,(.pointer (aD z1))),(6,(.pointer (aD z2))),(7,vI 0),(8,vI 0),(9,vI (ts.length:Int)),(45,vI (ts.length:Int)),(46,vN i)] ρ) (fun i=>ts.length-i) 0 ?_ ?_
 ·exact⟨qs,nb,nc,F,aG _,hq1.trans (bZ _).symm,GO,(.of F)⟩
 rintro i ρ O ⟨qs,nb,nc,rfl,hi,pO,GO,hH⟩
 obtain⟨fy,rfl⟩:=hH.elim
 clear hH
 have BR:=yC (n1:=n1) (aa:=aa) i
 have tD:qs.length=n1.length+(ra n1 aa i).length:=by rw[←gU,pO,aI]
 refine aB cH (TO.ns (aH F (fun hc=>?_) (fun hc=>?_)))
 ·have aaq:i<ts.length:=by omega
  have gf:i<qs.length:=by omega
  have hf:qs[i].m&&&aa<1024:=ee Nat.and_le_left (GO.at gf)
  have NO:(n1.getD i ju).gV=qs[i].m:=by
   have h9:=NP gf
   rw[pO,ag5 (by omega)]at h9;rw[h9]
  refine aE (ba (aw (bI (ai (ba ?_)))))
  refine e6 [(0,0),(1,0),(2,0),(3,0),(4,0),(5,0),(6,0),(7,2),(8,2)] ?_
  refine am F (bp 1 gr) (am F aC (am F (fO (i:=i) gr fT F F (bU 0) gf (by first|(rw[dP];omega)|(simp[dP];omega)|(simp_all[dP];omega))) (am F (ez kX F ki F F (bU 0) (by first|(rw[dP];omega)|(simp[dP];omega)|(simp_all[dP];omega))) (am F (dR ue F F (bU 0) (og gf 1 (by decide))) (am F (bY R6 ki) (am F (bp 2 ue) ?_))))))
  have ab8:=fun(w1:World) (hI:Inv w ([ak nb nc 64 2 (gW qs),oI z2 66 [(.slice nb qs.length nc)],oI z1 62 [(vI b.vars),(vI b.ae),(.slice sb b.start.length sc),(.slice eb b.ao.length ec),(.slice tb b.aP.length tc),(.slice fb ((sR aa).length) ((sR aa).length))]]++(f_ 164 qs)) w1)=>(haveI:=j6 hI;HC w1 qs[i].b fb (sR qs[i].m).length (sR aa).length qs[i].m aa (hI.vr (Sh (X:=[ak nb nc 64 2 (gW qs),oI z2 66 [(.slice nb qs.length nc)],oI z1 62 [(vI b.vars),(vI b.ae),(.slice sb b.start.length sc),(.slice eb b.ao.length ec),(.slice tb b.aP.length tc),(.slice fb ((sR aa).length) ((sR aa).length))]]) gf)) (GO.w.at gf) (hI.sl XH) lF)
  refine cG F F (dV NB (aK ab8) ?_)
  clear ab8
  rintro vr O' ⟨N,rfl,xb,xk,rfl,rfl⟩
  refine cG F F (iE F F dN ?_)
  refine cl ?_
  refine bI ?_
  have xK:=fun(w1:World) (hI:Inv w ([ak xb xk 164 1 (fe (sR (qs[i].m&&&aa))),ak nb nc 64 2 (gW qs),oI z2 66 [(.slice nb qs.length nc)],oI z1 62 [(vI b.vars),(vI b.ae),(.slice sb b.start.length sc),(.slice eb b.ao.length ec),(.slice tb b.aP.length tc),(.slice fb ((sR aa).length) ((sR aa).length))]]++(f_ 164 qs)) w1)=>(haveI:=j6 hI;Xr w1 xb (sR (qs[i].m&&&aa)).length (qs[i].m&&&aa) (hI.ga (mG 0)) hf)
  refine TO.lc NQ (aK xK) ?_
  clear xK
  rintro vr O' ⟨N,rfl,rfl,rfl⟩
  refine bF fg (aH F (fun hc=>?_) (fun hc=>?_))
  ·have sa:EV (qs[i].m&&&aa)>0:=by omega
   have hf0:qs[i].m&&&aa≠0:=fun e9=>by rw[(rM hf).2 e9]at hc;exact absurd hc (by decide)
   refine aJ (ad (bp 2 gr) (aQ (az (dy [vN i,(.slice xb ((sR (qs[i].m&&&aa)).length) ((sR (qs[i].m&&&aa)).length))] HI fT (by kernel_rfl)) (au (cW (m:=1) (parts:=[(0,_)]) (cs:=[vN i,(.slice xb ((sR (qs[i].m&&&aa)).length) ((sR (qs[i].m&&&aa)).length))]) gr fT (by decide) (by kernel_rfl) F (fun z7=>?_))))))
   refine au (dp 2 gr gr fT F F F F (dP qs) (by decide) (Src.row (j:=0) F (by simp)) (by simp[fL]) (by omega) (by decide) (by decide) (fun z8 DG=>?_))
   refine au (cE [(.slice z8 (qs.length+1) DG)] 3 qg ?_)
   refine TO.nl ?_
   refine cV (O':=[ak z8 DG 64 2 (gW (qs++[(⟨i,qs[i].m&&&aa,xb,xk⟩:VR)])),oI z2 66 [(.slice z8 (qs.length+1) DG)],oI z1 62 [(vI b.vars),(vI b.ae),(.slice sb b.start.length sc),(.slice eb b.ao.length ec),(.slice tb b.aP.length tc),(.slice fb ((sR aa).length) ((sR aa).length))]]++f_ 164 (qs++[(⟨i,qs[i].m&&&aa,xb,xk⟩:VR)])) ((I_ 164 qs (⟨i,qs[i].m&&&aa,xb,xk⟩:VR) [ak z8 DG 64 2 (gW (qs++[(⟨i,qs[i].m&&&aa,xb,xk⟩:VR)])),oI z2 66 [(.slice z8 (qs.length+1) DG)],oI z1 62 [(vI b.vars),(vI b.ae),(.slice sb b.start.length sc),(.slice eb b.ao.length ec),(.slice tb b.aP.length tc),(.slice fb ((sR aa).length) ((sR aa).length))]]).trans (by rw[xe];exact Sub.d (.k (.k (.k (.k .rf)))))) ?_
   refine aJ (ad (bK (b:=1) i F F (by omega)) (aS ?_))
   exact⟨i+1,by omega,([ak z8 DG 64 2 (gW (qs++[(⟨i,qs[i].m&&&aa,xb,xk⟩:VR)])),oI z2 66 [(.slice z8 (qs.length+1) DG)],oI z1 62 [(vI b.vars),(vI b.ae),(.slice sb b.start.length sc),(.slice eb b.ao.length ec),(.slice tb b.aP.length tc),(.slice fb ((sR aa).length) ((sR aa).length))]]++(f_ 164 (qs++[(⟨i,qs[i].m&&&aa,xb,xk⟩:VR)]))),(by exact Sub.rf),qs++[(⟨i,qs[i].m&&&aa,xb,xk⟩:VR)],z8,DG,by simp,by omega,by rw[Cs,pO,Si (by rw[NO];exact hf0),bw,NO],GO.snoc hf,(.of F)⟩
  have Ul: ¬EV (qs[i].m&&&aa)>0:=by omega
  have hf0:qs[i].m&&&aa=0:=(rM hf).1 (by omega)
  refine aE ?_
  refine cV (O':=([ak nb nc 64 2 (gW qs),oI z2 66 [(.slice nb qs.length nc)],oI z1 62 [(vI b.vars),(vI b.ae),(.slice sb b.start.length sc),(.slice eb b.ao.length ec),(.slice tb b.aP.length tc),(.slice fb ((sR aa).length) ((sR aa).length))]]++(f_ 164 qs))) (by exact Sub.d (.k (.k (.k .rf)))) ?_
  refine aJ (ad (bK (b:=1) i F F (by omega)) (aS ?_))
  exact⟨i+1,by omega,([ak nb nc 64 2 (gW qs),oI z2 66 [(.slice nb qs.length nc)],oI z1 62 [(vI b.vars),(vI b.ae),(.slice sb b.start.length sc),(.slice eb b.ao.length ec),(.slice tb b.aP.length tc),(.slice fb ((sR aa).length) ((sR aa).length))]]++(f_ 164 qs)),(by exact Sub.rf),qs,nb,nc,F,by omega,by rw[pO,XJ (by rw[NO];exact hf0)],GO,(.of F)⟩
 have aar: ¬i<ts.length:=by omega
 refine bA ?_
 refine ba ?_
 obtain⟨N2,XK⟩: ∃z,GP b.ao aa x (iV ts)=z:=⟨_,F⟩
 have hqN:iV qs=N2:=by
  rw[pO,←XK];unfold GP
  rw[D6,gU,show i=ts.length by omega]
 have hPW:PW N2:=XK▸vp hG.pw
 have Vb:qs.length=N2.length:=by rw[←gU,hqN]
 have amj:N2.length≤22:=by omega
 clear tD BR hi pO
 refine aJ (ad (bp 1 gr) (ad (bV gr) (au (cq qs.length q_ ki F F (by omega) (by omega) (fun iF=>?_)))))
 refine au (bO NR (fun gO=>?_))
 refine au (cE [(.slice (aD iF) qs.length qs.length)] 0 NR ?_)
 refine TO.ns ?_
 refine T.Ja 164 qs.length ?_
 refine cV (O':=([oI gO 136 [(.slice (aD iF) qs.length qs.length)],aU iF qs.length 59 1 (oy (List.replicate qs.length gp)),ak nb nc 64 2 (gW qs),oI z2 66 [(.slice nb qs.length nc)],oI z1 62 [(vI b.vars),(vI b.ae),(.slice sb b.start.length sc),(.slice eb b.ao.length ec),(.slice tb b.aP.length tc),(.slice fb ((sR aa).length) ((sR aa).length))]]++(f_ 164 qs++f_ 164 (List.replicate qs.length gp)))) (by rw[Sj];exact(show Sub ([oI gO 136 [(.slice (aD iF) qs.length qs.length)],aU iF qs.length 59 1 (List.replicate qs.length nS),ak nb nc 64 2 (gW qs),oI z2 66 [(.slice nb qs.length nc)],oI z1 62 [(vI b.vars),(vI b.ae),(.slice sb b.start.length sc),(.slice eb b.ao.length ec),(.slice tb b.aP.length tc),(.slice fb ((sR aa).length) ((sR aa).length))]]++(f_ 164 qs++f_ 164 (List.replicate qs.length gp))) (([oI gO 136 [(.slice (aD iF) qs.length qs.length)],aU iF qs.length 59 1 (List.replicate qs.length nS),ak nb nc 64 2 (gW qs),oI z2 66 [(.slice nb qs.length nc)],oI z1 62 [(vI b.vars),(vI b.ae),(.slice sb b.start.length sc),(.slice eb b.ao.length ec),(.slice tb b.aP.length tc),(.slice fb ((sR aa).length) ((sR aa).length))]]++f_ 164 qs)++f_ 164 (List.replicate qs.length gp))from by rw[bw];exact Sub.rf)) ?_
 refine aJ (ad (dZ) (au (bO NS (fun z12=>?_))))
 refine au (cE [(.func (.func 73) #[] #[(.pointer (aD z2)),(.pointer (aD gO))])] 0 NS ?_)
 refine bJ (ad (bp 4 gr) ?_)
 have ab_:=fun(w1:World) (hI:Inv w ([oI z12 137 [(.func (.func 73) #[] #[(.pointer (aD z2)),(.pointer (aD gO))])],oI gO 136 [(.slice (aD iF) qs.length qs.length)],aU iF qs.length 59 1 (oy (List.replicate qs.length gp)),ak nb nc 64 2 (gW qs),oI z2 66 [(.slice nb qs.length nc)],oI z1 62 [(vI b.vars),(vI b.ae),(.slice sb b.start.length sc),(.slice eb b.ao.length ec),(.slice tb b.aP.length tc),(.slice fb ((sR aa).length) ((sR aa).length))]]++(f_ 164 qs++f_ 164 (List.replicate qs.length gp))) w1)=>(haveI:=j6 hI;Sa w1 nb qs.length nc)
 refine TO.lc aca (aK ab_) ?_
 clear ab_
 rintro vr O' ⟨N,rfl,xb,rfl,rfl⟩
 refine TO.nl (aw ?_)
 refine cV (O':=([oI xb 66 [(.slice nb qs.length nc)],ak nb nc 64 2 (gW qs),oI z2 66 [(.slice nb qs.length nc)],oI gO 136 [(.slice (aD iF) qs.length qs.length)],aU iF qs.length 59 1 (oy (List.replicate qs.length gp)),oI z12 137 [(.func (.func 73) #[] #[(.pointer (aD z2)),(.pointer (aD gO))])]]++(f_ 164 qs++f_ 164 (List.replicate qs.length gp)))) (by exact Sub.k (.dm [oI z12 137 [(.func (.func 73) #[] #[(.pointer (aD z2)),(.pointer (aD gO))])],oI gO 136 [(.slice (aD iF) qs.length qs.length)],aU iF qs.length 59 1 (oy (List.replicate qs.length gp))] _ (.dm [oI z12 137 [(.func (.func 73) #[] #[(.pointer (aD z2)),(.pointer (aD gO))])],oI gO 136 [(.slice (aD iF) qs.length qs.length)],aU iF qs.length 59 1 (oy (List.replicate qs.length gp))] _ (.dm [oI z12 137 [(.func (.func 73) #[] #[(.pointer (aD z2)),(.pointer (aD gO))])]] _ (.dm [oI z12 137 [(.func (.func 73) #[] #[(.pointer (aD z2)),(.pointer (aD gO))])]] _ (.k (.d .rf))))))) ?_
 obtain⟨n9,Sk⟩: ∃z,qs.length=z:=⟨_,F⟩
 rw[Sk]
 refine T.rangeFunc (first:=[]) (fU:=[(.pointer (aD xb))]) F XL (fun yl yq Rh=>?_)
 refine cZ.mono (cZ.sub (O':=oI xb 66 [(.slice nb n9 nc)]::(eL yl (lp yq none)::([ak nb nc 64 2 (gW qs),oI z2 66 [(.slice nb n9 nc)],oI gO 136 [(.slice (aD iF) n9 n9)],aU iF n9 59 1 (oy (List.replicate n9 gp)),oI z12 137 [(.func (.func 73) #[] #[(.pointer (aD z2)),(.pointer (aD gO))])]]++(f_ 164 qs++f_ 164 (List.replicate n9 gp))))) (by exact Sub.dm [eL yl (lp yq none)] _ (.k (.k (.k (.k (.k (.k .rf))))))) (XG w xb nb n9 nc nc (eL yl (lp yq none)) (.func (.yield yl) #[] #[]) (fun i9 O=> ∃(qs cs:List VR),O=eL yl (lp yq none)::([ak nb nc 64 2 (gW qs),oI z2 66 [(.slice nb n9 nc)],oI gO 136 [(.slice (aD iF) n9 n9)],aU iF n9 59 1 (oy cs),oI z12 137 [(.func (.func 73) #[] #[(.pointer (aD z2)),(.pointer (aD gO))])]]++(f_ 164 qs++f_ 164 cs))∧iV qs=nR N2 i9∧Ae cs N2 i9∧jh qs∧jh cs) (fun(i9:Nat) (qs:List VR) (O1:List Lx.Item)=> ∃cs:List VR,O1=[oI z2 66 [(.slice nb n9 nc)],oI gO 136 [(.slice (aD iF) n9 n9)],aU iF n9 59 1 (oy cs),oI z12 137 [(.func (.func 73) #[] #[(.pointer (aD z2)),(.pointer (aD gO))])]]++(f_ 164 qs++f_ 164 cs)∧iV qs=nR N2 i9∧Ae cs N2 i9∧jh qs∧jh cs) (by omega) (by rintro i9 O ⟨qs,cs,rfl,h1,h2⟩;exact⟨qs,_,F,by rw[←gU,h1,EX,←Vb,Sk],cs,F,h1,h2⟩) ?_ _ ?_)) ?_
 ·intro i9 qs O8 vM h19 hnq hJ
  obtain⟨cs,rfl,DF,Sm,Sn,XM⟩:=hJ
  refine dS.yield Rh F F ?_
  have ag8:N2.length=n9:=by rw[←Vb,Sk]
  have ag9:cs.length=n9:=by rw[Sm.len,ag8]
  have DC:=acd DF vM
  have hp9:qs[i9].par<i9:=hPW i9 _ DC h19
  have xC:qs[i9].par<qs.length:=by omega
  refine a8 (ai (aJ (au (bO fT (fun KJ=>?_)))))
  refine au (cE [vN (qs[i9].par),(.slice qs[i9].b ((sR qs[i9].m).length) ((sR qs[i9].m).length))] 0 fT ?_)
  refine TO.nl (aw (aJ (ad (bp 5 ace) (az (eg 0 kX fT) ?_))))
  have acf:=((b_ (first:=[]) (args:=[vN i9,(.agg #[vN (qs[i9].par),(.slice qs[i9].b ((sR qs[i9].m).length) ((sR qs[i9].m).length))])]) (fU:=[(.pointer (aD z2)),(.pointer (aD gO))]) acg (by
   have h9:=Sb w z2 gO nc nc n9 n9 nb (aD iF) qs cs i9 n9 vM xC (by omega) hnq ag9 Sn.w XM.w
   exact h9)).under (B:=[oI KJ 64 [vN (qs[i9].par),(.slice qs[i9].b ((sR qs[i9].m).length) ((sR qs[i9].m).length))],oI z12 137 [(.func (.func 73) #[] #[(.pointer (aD z2)),(.pointer (aD gO))])]]) (O:=([oI KJ 64 [vN (qs[i9].par),(.slice qs[i9].b ((sR qs[i9].m).length) ((sR qs[i9].m).length))],ak nb nc 64 2 (gW qs),oI z2 66 [(.slice nb n9 nc)],oI gO 136 [(.slice (aD iF) n9 n9)],aU iF n9 59 1 (oy cs),oI z12 137 [(.func (.func 73) #[] #[(.pointer (aD z2)),(.pointer (aD gO))])]]++(f_ 164 qs++f_ 164 cs))) (fq []))
  refine au (et acf F F ?_)
  clear acf
  rintro vr O' ⟨A1,rfl,q9,r9,hq1,IN,uf,rfl⟩
  refine cY (O':=([ak nb nc 64 2 (gW (qs.set i9 q9)),oI z2 66 [(.slice nb n9 nc)],oI gO 136 [(.slice (aD iF) n9 n9)],aU iF n9 59 1 (oy (cs.set qs[i9].par r9)),oI z12 137 [(.func (.func 73) #[] #[(.pointer (aD z2)),(.pointer (aD gO))])]]++(f_ 164 (qs.set i9 q9)++f_ 164 (cs.set qs[i9].par r9)))) (fq [oI KJ 64 [vN (qs[i9].par),(.slice qs[i9].b ((sR qs[i9].m).length) ((sR qs[i9].m).length))]]) ?_
  refine TO.nl ?_
  have hrr:=KK h19 DC hp9 DF Sm (q:=q9) (r:=r9) hq1 (IN.trans (Vc DF Sm vM xC (by omega)).symm) (by rw[uf,Sm.cv _ (by omega),IN.trans (Vc DF Sm vM xC (by omega)).symm])
  exact⟨F,qs.set i9 q9,cs.set qs[i9].par r9,F,hrr.1,hrr.2,Sn.put (by rw[IN];exact Cr (n:=10) (ee Nat.and_le_left (Sn.at vM))),XM.put (by rw[uf];exact Nat.or_lt_two_pow (n:=10) (XM.at (by omega)) (by rw[IN];exact Cr (n:=10) (ee Nat.and_le_left (Sn.at vM))))⟩
 ·exact⟨qs,List.replicate n9 gp,F,by rw[NT];exact hqN,by rw[←Sk,Vb];exact Ae.start N2,GO,jh.zero _⟩
 clear hqN GO
 rintro v O' ⟨qs,cs,rfl,pO,ZB,GO,Ri⟩
 rw[NU (by rw[←Vb,Sk];omega)]at pO
 refine⟨none,_,F,?_⟩
 refine ba ?_
 refine cV (O':=([ak nb nc 64 2 (gW qs),oI z2 66 [(.slice nb n9 nc)],oI gO 136 [(.slice (aD iF) n9 n9)],aU iF n9 59 1 (oy cs),oI z12 137 [(.func (.func 73) #[] #[(.pointer (aD z2)),(.pointer (aD gO))])]]++(f_ 164 qs++f_ 164 cs))) (by exact Sub.rf) ?_
 obtain⟨nv,ZC⟩: ∃z,gu N2=z:=⟨_,F⟩
 rw[ZC]at pO
 have tD:qs.length=n9:=by rw[←gU,pO,←ZC,iI,←Vb,Sk]
 have KL:nv.length=n9:=by rw[←pO,gU,tD]
 have nN:cs.length=n9:=by rw[ZB.len,←Vb,Sk]
 have XN: ∀p (hp:p<cs.length),cs[p].m=iW nv p:=fun p hp=>by rw[←ZC];exact ZB.fin (by rw[←Vb,Sk];omega) hp
 have hPv:PW nv:=ZC▸NV hPW
 have ajH:n9≤22:=by omega
 have ZD: ∀(h:0<qs.length),qs[0].par=0:=fun h0=>by
  have h1:=pQ h0
  rw[pO,←ZC]at h1
  obtain⟨v,h2,h3⟩:=mh h1
  rw[←XK]at h2
  have hts:0<ts.length:=Nat.pos_of_ne_zero fun e9=>by
   have h4:=(Ct b.ao aa x (iV ts)).2
   rw[gU,e9,XK,←Vb,Sk,←tD]at h4;omega
  rw[pR (pQ hts)]at h2
  cases h2
  exact h3.trans (hG.p0 ⟨ts[0].par,ts[0].m⟩ (pQ hts))
 have KM: ∀i (hi:i<qs.length),qs[i].par<qs.length∧(1≤i→qs[i].par<i):=fun i hi=>by
  have h1:=pQ hi
  rw[pO]at h1
  by_cases h0:1≤i
  ·have:=hPv i _ h1 h0;exact⟨Nat.lt_trans this hi,fun _=>this⟩
  ·have e0:i=0:=by omega
   subst e0;rw[ZD hi];exact⟨hi,fun h9=>absurd h9 (by decide)⟩
 refine aJ (dr (bh (ai (aB (bp 1 gr) (ad (bV gr) (au (cq n9 we eW F F (by omega) (by omega) (fun re=>?_))))))))
 refine bh (bJ (ad (bp 2 gr) (ad (bV gr) (aS (aw ?_)))))
 refine cS (fun(i:Nat) ρ O=>O=([aU re n9 4 1 (bv (ij nv i)),ak nb nc 64 2 (gW qs),oI z2 66 [(.slice nb n9 nc)],oI gO 136 [(.slice (aD iF) n9 n9)],aU iF n9 59 1 (oy cs),oI z12 137 [(.func (.func 73) #[] #[(.pointer (aD z2)),(.pointer (aD gO))])]]++(f_ 164 qs++f_ 164 cs))∧i≤n9∧cL [(0,(.agg #[(vI b.vars),(vI b.ae),(.slice sb b.start.length sc),(.slice eb b.ao.length ec),(.slice tb b.aP.length tc),(.slice fb ((sR aa).length) ((sR aa).length))])),(1,(.slice rb ts.length rc)),(2,v8 x),(3,(.pointer (aD z1))),(6,(.pointer (aD z2))),(7,vN (rN (dO nv) ts.length i)),(8,vN (rN (rh nv) ts.length i)),(9,vI (ts.length:Int)),(14,(.pointer (aD gO))),(15,(.pointer (aD z12))),(18,(.slice (aD re) n9 n9)),(84,(.slice nb n9 nc)),(85,vI (n9:Int)),(86,vN i)] ρ) (fun i=>n9-i) 0 ?_ ?_
 ·exact⟨by rw[KN,KL];first|(simp only[List.map_replicate];done)|(simp only[List.map_replicate];rfl),aG _,(.of F)⟩
 rintro i ρ O ⟨rfl,hi,hH⟩
 obtain⟨fy,rfl⟩:=hH.elim
 clear hH
 have hmr:=Cu (dO nv) ts.length i
 have hmg:=Cu (rh nv) ts.length i
 refine aB cH (TO.ns (aH F (fun hc=>?_) (fun hc=>?_)))
 ·have aay:i<n9:=by omega
  have gf:i<qs.length:=by omega
  have tG:i<nv.length:=by omega
  obtain⟨hpq,NH⟩:=KM i gf
  have wH:qs[i].par<cs.length:=by omega
  have XO:(nv.getD i ju).gV=qs[i].m:=by rw[←pO,NP gf]
  have hgc:dO nv i=((decide (0<i)&&(dO nv qs[i].par||decide (cs[qs[i].par].m=qs[qs[i].par].m)))||decide (qs[i].m=0)):=by
   rw[KO (v:=⟨qs[i].par,qs[i].m⟩) (by rw[←pO];exact pQ gf) NH,XN _ wH,←pO,NP hpq]
  refine aE (ba (aw (bP (fO (i:=i) gr fT F F (bU 1) (by omega) (by first|(rw[dP];omega)|(simp[dP];omega)|(simp_all[dP];omega))) (ad (mM [vN (qs[i].par),(.slice qs[i].b ((sR qs[i].m).length) ((sR qs[i].m).length))] kX F fT F F (eo _) (bU 1) (yy gf)) (au (bO fT (fun DH=>?_)))))))
  refine bh (au (cE [vN (qs[i].par),(.slice qs[i].b ((sR qs[i].m).length) ((sR qs[i].m).length))] 0 fT ?_))
  refine TO.nl ?_
  refine iD (fun ρ O=>Sub ([aU re n9 4 1 (bv (ij nv (i+1))),ak nb nc 64 2 (gW qs),oI z2 66 [(.slice nb n9 nc)],oI gO 136 [(.slice (aD iF) n9 n9)],aU iF n9 59 1 (oy cs),oI z12 137 [(.func (.func 73) #[] #[(.pointer (aD z2)),(.pointer (aD gO))])]]++(f_ 164 qs++f_ 164 cs)) O∧cL [(0,(.agg #[(vI b.vars),(vI b.ae),(.slice sb b.start.length sc),(.slice eb b.ao.length ec),(.slice tb b.aP.length tc),(.slice fb ((sR aa).length) ((sR aa).length))])),(1,(.slice rb ts.length rc)),(2,v8 x),(3,(.pointer (aD z1))),(6,(.pointer (aD z2))),(7,vN (rN (dO nv) ts.length i)),(8,vN (rN (rh nv) ts.length i)),(9,vI (ts.length:Int)),(14,(.pointer (aD gO))),(15,(.pointer (aD z12))),(18,(.slice (aD re) n9 n9)),(19,vN i),(20,(.pointer (aD DH))),(84,(.slice nb n9 nc)),(85,vI (n9:Int)),(86,vN i)] ρ) ?_ ?_
  ·refine e6 [(0,0),(1,0),(2,0),(3,0),(4,0),(5,0),(6,0),(7,0),(8,0),(9,0),(10,0),(11,0),(12,0),(13,0),(14,0),(15,0),(16,0),(17,0),(18,0),(19,0),(20,0),(21,0),(22,1),(23,0),(24,0),(25,0),(26,0),(27,0),(28,0),(29,0),(30,0),(31,1),(32,0),(33,0),(34,0),(35,2)] ?_
   refine am F aC (am F aC (am F aC (am F fg ?_)))
   by_cases ack:((i:Nat):Int)>0
   ·refine am F (cm aC ack) ?_
    refine bg F F F aC ?_
    refine bg F F F (bY kX bt) ?_
    refine bg F F F (bp 0 nw) ?_
    refine bg F F F (b8 (qs[i].par) we eW F F (bU 1) (by omega) (by rw[ag,kj (by omega)];omega)) ?_
    refine bg F F F (dR XP F F (bU 1) (HJ (by omega) (NH (by omega)))) ?_
    by_cases EY:(dO nv qs[i].par)=true
    ·refine bg F F F (dE aC (EY)) ?_
     refine aT F F F (aT F F F (aT F F F (aT F F F (aT F F F (aT F F F (aT F F F (aT F F F ?_)))))))
     refine aT F F F (aT F F F (aT F F F ?_))
     refine mT (by decide) F F F F F ?_
     refine bg F F F bR ?_
     refine am F bR (am F aC (aT F F F (aT F F F (aT F F F (aT F F F (aT F F F ?_))))))
     refine mT (by decide) F F F F F ?_
     refine aT F F F (am F (bH bR (v':=.bool (dO nv i)) (av Value.bool (by rw[hgc,bz (show 0<i by omega),EY];rfl))) (am F (b8 i we eW F F (bU 1) (by omega) (by rw[ag,kj (by omega)];omega)) ?_))
     refine cG F F (gw (v:=.bool (dO nv i)) (vs:=[(.bool (dO nv i))]) (cs:=bv (ij nv i)) i 1 eW F F F F F (by simp) F (by rw[ag,kj (by omega)];show _+1≤_;omega) ?_)
     refine eM (O':=([oI DH 64 [vN (qs[i].par),(.slice qs[i].b ((sR qs[i].m).length) ((sR qs[i].m).length))],aU re n9 4 1 (bv (ij nv (i+1))),ak nb nc 64 2 (gW qs),oI z2 66 [(.slice nb n9 nc)],oI gO 136 [(.slice (aD iF) n9 n9)],aU iF n9 59 1 (oy cs),oI z12 137 [(.func (.func 73) #[] #[(.pointer (aD z2)),(.pointer (aD gO))])]]++(f_ 164 qs++f_ 164 cs))) (by rw[show dq (bv (ij nv i)) i [(.bool (dO nv i))]=bv (ij nv (i+1))from ug tG];exact bj (ay _)) ?_
     refine cl ?_
     exact⟨(by exact Sub.d (.k (.k (.k (.k (.k (.k .rf))))))),(.of F)⟩
    refine bg F F F (dE aC (Bool.eq_false_iff.2 EY)) ?_
    refine bg F F F (bp 4 q_) ?_
    refine bg F F F (bY kX bt) ?_
    refine bg F F F (bp 0 nw) ?_
    refine bg F F F (b8 (qs[i].par) q_ ki F F (bU 5) (by omega) (by rw[ag];exact wH)) ?_
    refine bg F F F (dR ue F F (bU 5) (Cq wH)) ?_
    refine bg F F F (bp 3 gr) ?_
    refine bg F F F (bY kX bt) ?_
    refine bg F F F (bp 0 nw) ?_
    refine bg F F F (fO (i:=qs[i].par) gr fT F F (bU 2) (by omega) (by first|(rw[dP];omega)|(simp[dP];omega)|(simp_all[dP];omega))) ?_
    refine bg F F F (ez kX F ki F F (bU 2) (by first|(rw[dP];omega)|(simp[dP];omega)|(simp_all[dP];omega))) ?_
    refine bg F F F (dR ue F F (bU 2) (og hpq 1 (by decide))) ?_
    have Vd:=fun(w1:World) (hI:Inv w ([oI DH 64 [vN (qs[i].par),(.slice qs[i].b ((sR qs[i].m).length) ((sR qs[i].m).length))],aU re n9 4 1 (bv (ij nv i)),ak nb nc 64 2 (gW qs),oI z2 66 [(.slice nb n9 nc)],oI gO 136 [(.slice (aD iF) n9 n9)],aU iF n9 59 1 (oy cs),oI z12 137 [(.func (.func 73) #[] #[(.pointer (aD z2)),(.pointer (aD gO))])]]++(f_ 164 qs++f_ 164 cs)) w1)=>(haveI:=j6 hI;ND w1 cs[qs[i].par].b qs[qs[i].par].b (sR cs[qs[i].par].m).length (sR qs[qs[i].par].m).length cs[qs[i].par].m qs[qs[i].par].m (hI.vr (w_ (X:=[oI DH 64 [vN (qs[i].par),(.slice qs[i].b ((sR qs[i].m).length) ((sR qs[i].m).length))],aU re n9 4 1 (bv (ij nv i)),ak nb nc 64 2 (gW qs),oI z2 66 [(.slice nb n9 nc)],oI gO 136 [(.slice (aD iF) n9 n9)],aU iF n9 59 1 (oy cs),oI z12 137 [(.func (.func 73) #[] #[(.pointer (aD z2)),(.pointer (aD gO))])]]) wH)) (Ri.w.at wH) (hI.vr (vo (X:=[oI DH 64 [vN (qs[i].par),(.slice qs[i].b ((sR qs[i].m).length) ((sR qs[i].m).length))],aU re n9 4 1 (bv (ij nv i)),ak nb nc 64 2 (gW qs),oI z2 66 [(.slice nb n9 nc)],oI gO 136 [(.slice (aD iF) n9 n9)],aU iF n9 59 1 (oy cs),oI z12 137 [(.func (.func 73) #[] #[(.pointer (aD z2)),(.pointer (aD gO))])]]) hpq)) (GO.w.at hpq))
    refine sY F F F F (dV Ve (aK Vd) ?_)
    clear Vd
    rintro vr O' ⟨N,rfl,rfl,rfl⟩
    refine⟨by exact Sub.rf,?_⟩
    refine bg F F F ca ?_
    refine am F bR ?_
    by_cases Jb:cs[qs[i].par].m=qs[qs[i].par].m
    ·refine am F (cm aC Jb) ?_
     refine aT F F F (aT F F F (aT F F F (aT F F F (aT F F F ?_))))
     refine mT (by decide) F F F F F ?_
     refine aT F F F (am F (bH bR (v':=.bool (dO nv i)) (av Value.bool (by rw[hgc,bz (show 0<i by omega),Bool.eq_false_iff.2 EY,bz Jb];rfl))) (am F (b8 i we eW F F (bU 1) (by omega) (by rw[ag,kj (by omega)];omega)) ?_))
     refine cG F F (gw (v:=.bool (dO nv i)) (vs:=[(.bool (dO nv i))]) (cs:=bv (ij nv i)) i 1 eW F F F F F (by simp) F (by rw[ag,kj (by omega)];show _+1≤_;omega) ?_)
     refine eM (O':=([oI DH 64 [vN (qs[i].par),(.slice qs[i].b ((sR qs[i].m).length) ((sR qs[i].m).length))],aU re n9 4 1 (bv (ij nv (i+1))),ak nb nc 64 2 (gW qs),oI z2 66 [(.slice nb n9 nc)],oI gO 136 [(.slice (aD iF) n9 n9)],aU iF n9 59 1 (oy cs),oI z12 137 [(.func (.func 73) #[] #[(.pointer (aD z2)),(.pointer (aD gO))])]]++(f_ 164 qs++f_ 164 cs))) (by rw[show dq (bv (ij nv i)) i [(.bool (dO nv i))]=bv (ij nv (i+1))from ug tG];exact bj (ay _)) ?_
     refine cl ?_
     exact⟨(by exact Sub.d (.k (.k (.k (.k (.k (.k .rf))))))),(.of F)⟩
    refine am F (cD aC Jb) ?_
    refine bg F F F (bp 3 gr) ?_
    refine bg F F F aC ?_
    refine bg F F F (fO (i:=i) gr fT F F (bU 2) (by omega) (by first|(rw[dP];omega)|(simp[dP];omega)|(simp_all[dP];omega))) ?_
    refine bg F F F (ez kX F ki F F (bU 2) (by first|(rw[dP];omega)|(simp[dP];omega)|(simp_all[dP];omega))) ?_
    refine bg F F F (dR ue F F (bU 2) (og gf 1 (by decide))) ?_
    have EZ:=fun(w1:World) (hI:Inv w ([oI DH 64 [vN (qs[i].par),(.slice qs[i].b ((sR qs[i].m).length) ((sR qs[i].m).length))],aU re n9 4 1 (bv (ij nv i)),ak nb nc 64 2 (gW qs),oI z2 66 [(.slice nb n9 nc)],oI gO 136 [(.slice (aD iF) n9 n9)],aU iF n9 59 1 (oy cs),oI z12 137 [(.func (.func 73) #[] #[(.pointer (aD z2)),(.pointer (aD gO))])]]++(f_ 164 qs++f_ 164 cs)) w1)=>(haveI:=j6 hI;Xr w1 qs[i].b (sR qs[i].m).length qs[i].m (hI.vr (vo (X:=[oI DH 64 [vN (qs[i].par),(.slice qs[i].b ((sR qs[i].m).length) ((sR qs[i].m).length))],aU re n9 4 1 (bv (ij nv i)),ak nb nc 64 2 (gW qs),oI z2 66 [(.slice nb n9 nc)],oI gO 136 [(.slice (aD iF) n9 n9)],aU iF n9 59 1 (oy cs),oI z12 137 [(.func (.func 73) #[] #[(.pointer (aD z2)),(.pointer (aD gO))])]]) gf)) (GO.at gf))
    refine sY F F F F (dV NQ (aK EZ) ?_)
    clear EZ
    rintro vr O' ⟨N,rfl,rfl,rfl⟩
    refine⟨by exact Sub.rf,?_⟩
    refine bg F F F en ?_
    refine am F (bH ca (v':=.bool (dO nv i)) (av Value.bool (by rw[hgc,Bool.eq_false_iff.2 EY,bT Jb,Bool.false_or,Bool.and_false,Bool.false_or];show decide (((EV qs[i].m:Nat):Int)=0)=decide (qs[i].m=0);exact decide_eq_decide.2 (by have:=rM (GO.at gf);omega)))) (am F (b8 i we eW F F (bU 1) (by omega) (by rw[ag,kj (by omega)];omega)) ?_)
    refine cG F F (gw (v:=.bool (dO nv i)) (vs:=[(.bool (dO nv i))]) (cs:=bv (ij nv i)) i 1 eW F F F F F (by simp) F (by rw[ag,kj (by omega)];show _+1≤_;omega) ?_)
    refine eM (O':=([oI DH 64 [vN (qs[i].par),(.slice qs[i].b ((sR qs[i].m).length) ((sR qs[i].m).length))],aU re n9 4 1 (bv (ij nv (i+1))),ak nb nc 64 2 (gW qs),oI z2 66 [(.slice nb n9 nc)],oI gO 136 [(.slice (aD iF) n9 n9)],aU iF n9 59 1 (oy cs),oI z12 137 [(.func (.func 73) #[] #[(.pointer (aD z2)),(.pointer (aD gO))])]]++(f_ 164 qs++f_ 164 cs))) (by rw[show dq (bv (ij nv i)) i [(.bool (dO nv i))]=bv (ij nv (i+1))from ug tG];exact bj (ay _)) ?_
    refine cl ?_
    exact⟨(by exact Sub.d (.k (.k (.k (.k (.k (.k .rf))))))),(.of F)⟩
   refine am F (cD aC ack) (aT F F F (aT F F F (aT F F F (aT F F F (aT F F F (aT F F F (aT F F F ?_)))))))
   refine aT F F F (aT F F F (aT F F F (aT F F F (aT F F F (aT F F F (aT F F F (aT F F F ?_)))))))
   refine aT F F F (aT F F F ?_)
   refine mT (by decide) F F F F F ?_
   refine aT F F F (am F ca (am F aC ?_))
   refine bg F F F (bp 3 gr) ?_
   refine bg F F F aC ?_
   refine bg F F F (fO (i:=i) gr fT F F (bU 2) (by omega) (by first|(rw[dP];omega)|(simp[dP];omega)|(simp_all[dP];omega))) ?_
   refine bg F F F (ez kX F ki F F (bU 2) (by first|(rw[dP];omega)|(simp[dP];omega)|(simp_all[dP];omega))) ?_
   refine bg F F F (dR ue F F (bU 2) (og gf 1 (by decide))) ?_
   have EZ:=fun(w1:World) (hI:Inv w ([oI DH 64 [vN (qs[i].par),(.slice qs[i].b ((sR qs[i].m).length) ((sR qs[i].m).length))],aU re n9 4 1 (bv (ij nv i)),ak nb nc 64 2 (gW qs),oI z2 66 [(.slice nb n9 nc)],oI gO 136 [(.slice (aD iF) n9 n9)],aU iF n9 59 1 (oy cs),oI z12 137 [(.func (.func 73) #[] #[(.pointer (aD z2)),(.pointer (aD gO))])]]++(f_ 164 qs++f_ 164 cs)) w1)=>(haveI:=j6 hI;Xr w1 qs[i].b (sR qs[i].m).length qs[i].m (hI.vr (vo (X:=[oI DH 64 [vN (qs[i].par),(.slice qs[i].b ((sR qs[i].m).length) ((sR qs[i].m).length))],aU re n9 4 1 (bv (ij nv i)),ak nb nc 64 2 (gW qs),oI z2 66 [(.slice nb n9 nc)],oI gO 136 [(.slice (aD iF) n9 n9)],aU iF n9 59 1 (oy cs),oI z12 137 [(.func (.func 73) #[] #[(.pointer (aD z2)),(.pointer (aD gO))])]]) gf)) (GO.at gf))
   refine sY F F F F (dV NQ (aK EZ) ?_)
   clear EZ
   rintro vr O' ⟨N,rfl,rfl,rfl⟩
   refine⟨by exact Sub.rf,?_⟩
   refine bg F F F en ?_
   refine am F (bH ca (v':=.bool (dO nv i)) (av Value.bool (by rw[hgc,bT (show¬0<i by omega),Bool.false_and,Bool.false_or];show decide (((EV qs[i].m:Nat):Int)=0)=decide (qs[i].m=0);exact decide_eq_decide.2 (by have:=rM (GO.at gf);omega)))) (am F (b8 i we eW F F (bU 1) (by omega) (by rw[ag,kj (by omega)];omega)) ?_)
   refine cG F F (gw (v:=.bool (dO nv i)) (vs:=[(.bool (dO nv i))]) (cs:=bv (ij nv i)) i 1 eW F F F F F (by simp) F (by rw[ag,kj (by omega)];show _+1≤_;omega) ?_)
   refine eM (O':=([oI DH 64 [vN (qs[i].par),(.slice qs[i].b ((sR qs[i].m).length) ((sR qs[i].m).length))],aU re n9 4 1 (bv (ij nv (i+1))),ak nb nc 64 2 (gW qs),oI z2 66 [(.slice nb n9 nc)],oI gO 136 [(.slice (aD iF) n9 n9)],aU iF n9 59 1 (oy cs),oI z12 137 [(.func (.func 73) #[] #[(.pointer (aD z2)),(.pointer (aD gO))])]]++(f_ 164 qs++f_ 164 cs))) (by rw[show dq (bv (ij nv i)) i [(.bool (dO nv i))]=bv (ij nv (i+1))from ug tG];exact bj (ay _)) ?_
   refine cl ?_
   exact⟨(by exact Sub.d (.k (.k (.k (.k (.k (.k .rf))))))),(.of F)⟩
  rintro ρ O ⟨hS,hH⟩
  obtain⟨fy,rfl⟩:=hH.elim
  clear hH
  refine cV hS ?_
  refine bI (az (b8 i we eW F F (bU 0) (by omega) (by rw[ag,kj (by omega)];omega)) (bF (dR XP F F (bU 0) (HJ (by omega) (Nat.lt_succ_self i))) (T.cond F (fun hc=>?_) (fun hc=>?_))))
  ·have Cv:dO nv i=true:=hc
   refine aJ (aQ (az (nm (a:=(rN (dO nv) ts.length i)) (b:=i) F F) (ai (aJ (ad (bK (b:=1) i F F (by omega)) (aS ?_))))))
   refine⟨i+1,by omega,([aU re n9 4 1 (bv (ij nv (i+1))),ak nb nc 64 2 (gW qs),oI z2 66 [(.slice nb n9 nc)],oI gO 136 [(.slice (aD iF) n9 n9)],aU iF n9 59 1 (oy cs),oI z12 137 [(.func (.func 73) #[] #[(.pointer (aD z2)),(.pointer (aD gO))])]]++(f_ 164 qs++f_ 164 cs)),(by exact Sub.rf),F,by omega,⟨F,F,F,F,F,?_,?_,F,F,F,F,F,F,F,trivial⟩⟩
   ·rw[NW Cv];rfl
   ·rw[Jc (NX (.inl Cv))];rfl
  have Cv:dO nv i=false:=by simpa using hc
  refine ba ?_
  refine e6 [(0,0),(1,0),(2,0),(3,0),(4,0),(5,0),(6,0),(7,0),(8,0),(9,2)] ?_
  refine am F (bp 3 q_) (am F aC (am F (b8 i q_ ki F F (bU 4) (by omega) (by rw[ag];omega)) (am F (dR ue F F (bU 4) (Cq (by omega))) (am F (bp 2 gr) (am F aC (am F (fO (i:=i) gr fT F F (bU 1) (by omega) (by first|(rw[dP];omega)|(simp[dP];omega)|(simp_all[dP];omega))) (am F (ez kX F ki F F (bU 1) (by first|(rw[dP];omega)|(simp[dP];omega)|(simp_all[dP];omega))) (am F (dR ue F F (bU 1) (og gf 1 (by decide))) ?_))))))))
  have Vf:=fun(w1:World) (hI:Inv w ([aU re n9 4 1 (bv (ij nv (i+1))),ak nb nc 64 2 (gW qs),oI z2 66 [(.slice nb n9 nc)],oI gO 136 [(.slice (aD iF) n9 n9)],aU iF n9 59 1 (oy cs),oI z12 137 [(.func (.func 73) #[] #[(.pointer (aD z2)),(.pointer (aD gO))])]]++(f_ 164 qs++f_ 164 cs)) w1)=>(haveI:=j6 hI;ND w1 cs[i].b qs[i].b (sR cs[i].m).length (sR qs[i].m).length cs[i].m qs[i].m (hI.vr (w_ (X:=[aU re n9 4 1 (bv (ij nv (i+1))),ak nb nc 64 2 (gW qs),oI z2 66 [(.slice nb n9 nc)],oI gO 136 [(.slice (aD iF) n9 n9)],aU iF n9 59 1 (oy cs),oI z12 137 [(.func (.func 73) #[] #[(.pointer (aD z2)),(.pointer (aD gO))])]]) (by omega))) (Ri.w.at (by omega)) (hI.vr (vo (X:=[aU re n9 4 1 (bv (ij nv (i+1))),ak nb nc 64 2 (gW qs),oI z2 66 [(.slice nb n9 nc)],oI gO 136 [(.slice (aD iF) n9 n9)],aU iF n9 59 1 (oy cs),oI z12 137 [(.func (.func 73) #[] #[(.pointer (aD z2)),(.pointer (aD gO))])]]) gf)) (GO.w.at gf))
  refine cG F F (dV Ve (aK Vf) ?_)
  clear Vf
  rintro vr O' ⟨N,rfl,rfl,rfl⟩
  refine cl ?_
  refine aH F (fun hc=>?_) (fun hc=>?_)
  ·have hce:iW nv i=(nv.getD i ju).gV:=(XN i (by omega)).symm.trans ((by simpa using hc:(cs[i]'(by omega)).m=qs[i].m).trans XO.symm)
   refine aJ (aQ (az (nm (a:=(rN (rh nv) ts.length i)) (b:=i) F F) (ai (aJ (ad (bK (b:=1) i F F (by omega)) (aS ?_))))))
   refine⟨i+1,by omega,([aU re n9 4 1 (bv (ij nv (i+1))),ak nb nc 64 2 (gW qs),oI z2 66 [(.slice nb n9 nc)],oI gO 136 [(.slice (aD iF) n9 n9)],aU iF n9 59 1 (oy cs),oI z12 137 [(.func (.func 73) #[] #[(.pointer (aD z2)),(.pointer (aD gO))])]]++(f_ 164 qs++f_ 164 cs)),(by exact Sub.rf),F,by omega,⟨F,F,F,F,F,?_,?_,F,F,F,F,F,F,F,trivial⟩⟩
   ·rw[Jc Cv];rfl
   ·rw[NW (Sp Cv hce)];rfl
  have hce:iW nv i≠(nv.getD i ju).gV:=fun e9=>absurd ((XN i (by omega)).trans (e9.trans XO)) (by simpa using hc: ¬(cs[i]'(by omega)).m=qs[i].m)
  refine aE (aJ (ad (bK (b:=1) i F F (by omega)) (aS ?_)))
  refine⟨i+1,by omega,([aU re n9 4 1 (bv (ij nv (i+1))),ak nb nc 64 2 (gW qs),oI z2 66 [(.slice nb n9 nc)],oI gO 136 [(.slice (aD iF) n9 n9)],aU iF n9 59 1 (oy cs),oI z12 137 [(.func (.func 73) #[] #[(.pointer (aD z2)),(.pointer (aD gO))])]]++(f_ 164 qs++f_ 164 cs)),(by exact Sub.rf),F,by omega,⟨F,F,F,F,F,?_,?_,F,F,F,F,F,F,F,trivial⟩⟩
  ·rw[Jc Cv];rfl
  ·rw[Jc (NX (.inr hce))];rfl
 have aaz: ¬i<n9:=by omega
 refine bA ?_
 refine ba ?_
 have NY:i=n9:=by omega
 refine cV (O':=([aU re n9 4 1 (bv (fa nv)),ak nb nc 64 2 (gW qs),oI z2 66 [(.slice nb n9 nc)]]++f_ 164 qs)) (by rw[show ij nv i=fa nv by rw[NY,←KL,E0]];exact(HH (f_ 164 cs)).trans (by exact Sub.k (.k (.k (.d (.d (.d .rf))))))) ?_
 refine aJ (ad (bp 2 gr) (ad (bV gr) (au (cq n9 ew bt F F (by omega) (by omega) (fun Af=>?_)))))
 refine ai (a8 (bh (bJ (ad (bp 3 gr) (ad (bV gr) (aS (aw (T.dH 64 2 ?_))))))))
 refine cS (fun(k:Nat) ρ O=> ∃(ys:List Nat) (ob:Option Addr) (oc:Nat),O=([ak ob oc 64 2 (gW (kD qs (fa nv) k)),aU Af n9 3 1 (bn ys),aU re n9 4 1 (bv (fa nv)),ak nb nc 64 2 (gW qs),oI z2 66 [(.slice nb n9 nc)]]++(f_ 164 qs))∧k≤n9∧Q0 ys nv k∧cL [(0,(.agg #[(vI b.vars),(vI b.ae),(.slice sb b.start.length sc),(.slice eb b.ao.length ec),(.slice tb b.aP.length tc),(.slice fb ((sR aa).length) ((sR aa).length))])),(1,(.slice rb ts.length rc)),(2,v8 x),(3,(.pointer (aD z1))),(6,(.pointer (aD z2))),(7,vN (rN (dO nv) ts.length i)),(8,vN (rN (rh nv) ts.length i)),(9,vI (ts.length:Int)),(14,(.pointer (aD gO))),(15,(.pointer (aD z12))),(18,(.slice (aD re) n9 n9)),(21,(.slice (aD Af) n9 n9)),(22,(.slice ob ((kD qs (fa nv) k).length) oc)),(150,(.slice nb n9 nc)),(151,vI (n9:Int)),(152,vN k)] ρ) (fun k=>n9-k) 0 ?_ ?_
 ·exact⟨List.replicate n9 0,none,0,(by first|(simp only[List.map_replicate];done)|(simp only[List.map_replicate];rfl)),aG _,by rw[←KL];exact Q0.start nv,(.of F)⟩
 rintro k ρ O ⟨ys,ob,oc,rfl,hi,GG,hH⟩
 obtain⟨fy,rfl⟩:=hH.elim
 clear hH
 have hol:=NZ pO (k:=k) (by omega)
 have yp:=HK (fa nv) k
 have Up:=GG.len
 refine aB cH (TO.ns (aH F (fun hc=>?_) (fun hc=>?_)))
 ·have ag_:k<n9:=by omega
  have gf:k<qs.length:=by omega
  have tG:k<nv.length:=by omega
  obtain⟨hpq,NH⟩:=KM k gf
  have DI:nv[k]? =some ⟨qs[k].par,qs[k].m⟩:=by rw[←pO];exact pQ gf
  refine aE (ba (aw (bP (fO (i:=k) gr fT F F (bU 3) (by omega) (by first|(rw[dP];omega)|(simp[dP];omega)|(simp_all[dP];omega))) (ad (mM [vN (qs[k].par),(.slice qs[k].b ((sR qs[k].m).length) ((sR qs[k].m).length))] kX F fT F F (eo _) (bU 3) (yy gf)) (au (bO fT (fun z17=>?_)))))))
  refine bh (au (cE [vN (qs[k].par),(.slice qs[k].b ((sR qs[k].m).length) ((sR qs[k].m).length))] 0 fT ?_))
  refine bJ (aQ (az (b8 k we eW F F (bU 3) (by omega) (by rw[ag,kY];omega)) (bF (dR XP F F (bU 3) (XQ tG)) (T.cond F (fun hc=>?_) (fun hc=>?_)))))
  ·have Cv:dO nv k=true:=hc
   have Mh:kD qs (fa nv) (k+1)=kD qs (fa nv) k:=E1 Cv
   refine bA ?_
   refine cV (O':=([ak ob oc 64 2 (gW (kD qs (fa nv) k)),aU Af n9 3 1 (bn ys),aU re n9 4 1 (bv (fa nv)),ak nb nc 64 2 (gW qs),oI z2 66 [(.slice nb n9 nc)]]++(f_ 164 qs))) (by exact Sub.d (.k (.k (.k (.k (.k .rf)))))) ?_
   refine aJ (ad (bK (b:=1) k F F (by omega)) (aS ?_))
   exact⟨k+1,by omega,([ak ob oc 64 2 (gW (kD qs (fa nv) k)),aU Af n9 3 1 (bn ys),aU re n9 4 1 (bv (fa nv)),ak nb nc 64 2 (gW qs),oI z2 66 [(.slice nb n9 nc)]]++(f_ 164 qs)),(by exact Sub.rf),ys,ob,oc,by rw[Mh],by omega,GG.no Cv,⟨F,F,F,F,F,F,F,F,F,F,F,F,(by rw[Mh];rfl),F,F,F,trivial⟩⟩
  have Cv:dO nv k=false:=by simpa using hc
  have Mh:kD qs (fa nv) (k+1)=kD qs (fa nv) k++[⟨lk (fa nv) qs[k].par,qs[k].m,qs[k].b,qs[k].k⟩]:=Jd Cv gf
  refine aE (bI (aQ (az (bH (bV gr) (v':=vN (lk (fa nv) k)) (av (fun z:Nat=>Value.int .i64 (z:Int)) hol)) (ad (b8 k ew bt F F (bU 2) (by omega) (by rw[ag];omega)) (au (gw (v:=vN (lk (fa nv) k)) (vs:=[(vN (lk (fa nv) k))]) (cs:=bn ys) k 2 bt F F F F F (by simp) F (by rw[ag];show _+1≤_;omega) ?_))))))
  refine cY (O':=([oI z17 64 [vN (qs[k].par),(.slice qs[k].b ((sR qs[k].m).length) ((sR qs[k].m).length))],ak ob oc 64 2 (gW (kD qs (fa nv) k)),aU Af n9 3 1 (bn (ys.set k (lk (fa nv) k))),aU re n9 4 1 (bv (fa nv)),ak nb nc 64 2 (gW qs),oI z2 66 [(.slice nb n9 nc)]]++(f_ 164 qs))) (by rw[show dq (bn ys) k [(vN (lk (fa nv) k))]=bn (ys.set k (lk (fa nv) k))from(by simp[dq])];exact bj (ay _)) ?_
  refine bJ (aQ (bF fg (aH F (fun hc=>?_) (fun hc=>?_))))
  ·have ahb:k>0:=by omega
   have hgp:dO nv qs[k].par=false:=ny hPv DI (by omega) Cv
   have hyp:(bn (ys.set k (lk (fa nv) k)))[qs[k].par]? =some (vN (lk (fa nv) qs[k].par)):=by
    have h9:=(GG.UE tG).at_ qs[k].par (Nat.lt_succ_of_lt (NH (by omega))) hgp
    rw[aj,ah (by rw[fR];omega)]at h9
    rw[bc,ah (by rw[fR];omega)]
    have h8:(ys.set k (lk (fa nv) k))[qs[k].par]'(by rw[fR];omega)=lk (fa nv) qs[k].par:=h9
    rw[h8];rfl
   refine aJ (az (bY kX bt) (ad (bp 0 nw) (ad (b8 (qs[k].par) ew bt F F (bU 2) (by omega) (by rw[ag,fR];omega)) (ad (dR nw F F (bU 2) hyp) (ad (bY kX bt) (au (cE [(vN (lk (fa nv) qs[k].par))] 0 bt ?_)))))))
   refine TO.nl (aJ (az (eg 0 kX fT) (au (cW (m:=1) (parts:=[(0,_)]) (cs:=[(vN (lk (fa nv) qs[k].par)),(.slice qs[k].b ((sR qs[k].m).length) ((sR qs[k].m).length))]) gr fT (by decide) (by kernel_rfl) F (fun z18=>?_)))))
   refine au (dp 2 gr gr fT F F F F (dP _) (by decide) (Src.row (j:=0) F (by simp)) (by simp[fL]) (by omega) (by decide) (by decide) (fun z19 XR=>?_))
   refine ai ?_
   refine cV (O':=([ak z19 XR 64 2 (gW (kD qs (fa nv) (k+1))),aU Af n9 3 1 (bn (ys.set k (lk (fa nv) k))),aU re n9 4 1 (bv (fa nv)),ak nb nc 64 2 (gW qs),oI z2 66 [(.slice nb n9 nc)]]++(f_ 164 qs))) (by rw[Mh,xe];exact Sub.d (.d (.k (.k (.k (.k (.k .rf))))))) ?_
   refine aJ (ad (bK (b:=1) k F F (by omega)) (aS ?_))
   exact⟨k+1,by omega,([ak z19 XR 64 2 (gW (kD qs (fa nv) (k+1))),aU Af n9 3 1 (bn (ys.set k (lk (fa nv) k))),aU re n9 4 1 (bv (fa nv)),ak nb nc 64 2 (gW qs),oI z2 66 [(.slice nb n9 nc)]]++(f_ 164 qs)),(by exact Sub.rf),ys.set k (lk (fa nv) k),z19,XR,F,by omega,GG.UE (by omega),⟨F,F,F,F,F,F,F,F,F,F,F,F,(by rw[Mh,aI];rfl),F,F,F,trivial⟩⟩
  have ahd: ¬k>0:=by omega
  have NC:k=0:=by omega
  have hpz:qs[k].par=0:=by subst NC;exact ZD gf
  have hpa:lk (fa nv) qs[k].par=qs[k].par:=by rw[hpz];rfl
  refine aE (aJ (az (eg 0 kX fT) (au (cW (m:=1) (parts:=[(0,_)]) (cs:=[vN (qs[k].par),(.slice qs[k].b ((sR qs[k].m).length) ((sR qs[k].m).length))]) gr fT (by decide) (by kernel_rfl) F (fun z21=>?_)))))
  refine au (dp 2 gr gr fT F F F F (dP _) (by decide) (Src.row (j:=0) F (by simp)) (by simp[fL]) (by omega) (by decide) (by decide) (fun z22 XS=>?_))
  refine ai ?_
  refine cV (O':=([ak z22 XS 64 2 (gW (kD qs (fa nv) (k+1))),aU Af n9 3 1 (bn (ys.set k (lk (fa nv) k))),aU re n9 4 1 (bv (fa nv)),ak nb nc 64 2 (gW qs),oI z2 66 [(.slice nb n9 nc)]]++(f_ 164 qs))) (by rw[Mh,xe,hpa];exact Sub.d (.d (.k (.k (.k (.k (.k .rf))))))) ?_
  refine aJ (ad (bK (b:=1) k F F (by omega)) (aS ?_))
  exact⟨k+1,by omega,([ak z22 XS 64 2 (gW (kD qs (fa nv) (k+1))),aU Af n9 3 1 (bn (ys.set k (lk (fa nv) k))),aU re n9 4 1 (bv (fa nv)),ak nb nc 64 2 (gW qs),oI z2 66 [(.slice nb n9 nc)]]++(f_ 164 qs)),(by exact Sub.rf),ys.set k (lk (fa nv) k),z22,XS,F,by omega,GG.UE (by omega),⟨F,F,F,F,F,F,F,F,F,F,F,F,(by rw[Mh,aI];rfl),F,F,F,trivial⟩⟩
 have ahe: ¬k<n9:=by omega
 refine bA ?_
 refine ba ?_
 have r_:k=qs.length:=by omega
 refine aJ (aQ (dr (au (cE [(.slice ob ((kD qs (fa nv) k).length) oc)] 4 qg ?_))))
 refine bh (bm ?_)
 refine Cw (i:=4) (vN (rN (dO nv) ts.length i)) (vN (rN (rh nv) ts.length i)) results27 gr F F F F F ?_
 have hnV:iw b.ao aa x (iV ts)=nv:=by unfold iw;rw[XK,ZC]
 have hrm:rN (dO nv) ts.length i=kM b.ao aa x (iV ts):=by unfold kM;rw[hnV,gU,NY,KL]
 have Je:rN (rh nv) ts.length i=mU b.ao aa x (iV ts):=by unfold mU;rw[hnV,gU,NY,KL]
 have Zz:iV (kD qs (fa nv) k)=Lx.stepT b.ao aa x (iV ts):=by rw[Cx pO _ (by omega)];unfold Lx.stepT;rw[hnV,r_,tD,←KL]
 have nK:=Sq 164 qs (fa nv) (ak ob oc 64 2 (gW (kD qs (fa nv) k)))
 rw[←r_]at nK
 rw[hrm,Je]
 exact⟨_,nK.trans (by exact Sub.k (.d (.d (.d (.d .rf))))),⟨ob,oc,kD qs (fa nv) k⟩,F,F,Zz⟩
end Go.Proofs.YtjcophmajgcehaaGreatDoor
