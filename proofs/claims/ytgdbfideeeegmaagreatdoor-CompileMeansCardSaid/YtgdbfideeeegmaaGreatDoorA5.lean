/- Contracts of functions; conditions: those each theorem names. -/
import Derived.Test.YtgdbfideeeegmaaGreatDoorA4
set_option linter.unusedSectionVars false
set_option linter.unusedSimpArgs false
set_option linter.unusedVariables false
set_option linter.unnecessarySimpa false
set_option maxHeartbeats 8000000
set_option maxRecDepth 20000
namespace Go.Proofs.YtgdbfideeeegmaaGreatDoor
open Go.Lx Go.RowKit _root_.Go.Proofs.Tryz
def q9 (base:World) (f:FuncId) (args:List Value) (zs:Nat) (bb:Option Addr) (bc mJ:Nat) (bh:List Nat) (ls:List Lf) (r:OB) (E:List Cf):Prop:= ∀(cb:Option Addr) (cc:Nat) (l:List CR) (p:List OB),lO ls l p→mA p r→
 cj prog base f args ([dY zs (.cells (List.toArray [(.slice bb bh.length bc),(.slice cb l.length cc)]) 122 (0,0)),av cb cc 169 3 (dz l),av bb mJ 3 1 (bW bh)]++gl 173 p) (fun v O'=> ∃vj vk l' p',v=.tuple #[]∧O'=[dY zs (.cells (List.toArray [(.slice bb bh.length bc),(.slice vj l'.length vk)]) 122 (0,0)),av vj vk 169 3 (dz l'),av bb mJ 3 1 (bW bh)]++gl 173 p'∧l'.map CR.cf=E.foldl add (l.map CR.cf)∧lO ls l' p'∧(∀x∈p,x∈p'))
theorem Vn (base:World) [dA prog base] {ls:List Lf} {vs:Nat} (hG:iB ls vs) {K:Nat} (hK:qR ls K) (yt:K<1099511627776) (ov:Value) (zs:Nat) (bb:Option Addr) (bc:Nat) (bh:List Nat) (B:List Lx.Item) (cb:Option Addr) (cc:Nat) (l:List CR) (p:List OB) (x:CR) (hS:lO ls l p) (hx:jt ls x.cf) (OZ:mA p x.r) {O:List Lx.Item} (hs:Sub ([dY zs (.cells (List.toArray [(.slice bb bh.length bc),(.slice cb l.length cc)]) 122 (0,0)),av cb cc 169 3 (dz l)]++B) O):
  cj prog base 114 [ov,.pointer (aD zs),(.agg #[vI x.k,vI ((x.s:Nat):Int),(.slice x.r.b x.r.o.length x.r.c)])] (O++gl 173 p) (fun v O'=> ∃vj vk l',v=.tuple #[]∧O'=([dY zs (.cells (List.toArray [(.slice bb bh.length bc),(.slice vj l'.length vk)]) 122 (0,0)),av vj vk 169 3 (dz l')]++B)++gl 173 p∧l'.map CR.cf=[x.cf].foldl add (l.map CR.cf)∧lO ls l' p):=by
 have h:=adb base hG ov zs (.slice bb bh.length bc) cb cc l p x hS.sZ hS.M4 hx OZ (jW (hS.len hK) yt)
 refine((h.under (B:=B) (q_ _ _ _ _ hs))).post ?_
 rintro v O' ⟨A',rfl,vj,vk,rfl,rfl⟩
 exact⟨_,ra _ _ _,vj,vk,zV l x,F,F,Hz l x,hS.add hx OZ⟩
theorem Vo (base:World) [dA prog base] (ob:Nat) (lb:Option Addr) (lc:Nat) (cv fv:Value) (ls:List Lf) (ks:List LK) (ho:lF base ob lb lc cv fv ls ks) (vs:Nat) (hG:iB ls vs) {K:Nat} (hK:qR ls K) (yt:K<1099511627776) (zs:Nat) (bb:Option Addr) (bc mJ:Nat) (bh:List Nat) (hb:qe ls bh) (k:Nat) (hk:k<ls.length) (r:OB) (w_:gd ls ls.length r.o) (f:Nat) (hE: ∀j∈(lf ls k).fo,q9 base 109 [(dJ (aD ob) 0),(.pointer (aD zs)),vI ((j:Nat):Int),(.slice r.b r.o.length r.c)] zs bb bc mJ bh ls r (fw ls f bh j r.o)) (cb:Option Addr) (cc:Nat) (l:List CR) (p:List OB) (hS:lO ls l p) (Fe:mA p r):
  cj prog base 115 [(dJ (aD ob) 0),(.pointer (aD zs)),vI ((k:Nat):Int),(.slice r.b r.o.length r.c)] ([oI zs 122 [(.slice bb bh.length bc),(.slice cb l.length cc)],av cb cc 169 3 (dz l),av bb mJ 3 1 (bW bh)]++gl 173 p) (fun v O'=> ∃vj vk l' p',v=.tuple #[]∧O'=[oI zs 122 [(.slice bb bh.length bc),(.slice vj l'.length vk)],av vj vk 169 3 (dz l'),av bb mJ 3 1 (bW bh)]++gl 173 p'∧l'.map CR.cf=(fX ls (f+1) bh k r.o).foldl add (l.map CR.cf)∧lO ls l' p'∧(∀x∈p,x∈p')):=by
 refine aE func115 F ntmps115 F ?_
 have Kz:=hG.fol _ (kq hk)
 refine aR (aj (ai F (ae a_ (ae (cz gC F gE F F (aK ho.bx) (by first|omega|(simp;done)|(simp;omega)|(simp_all;done)|(simp_all;omega))) (ae (cS fH F F (aK ho.bx) F) (ai F (ae (eA (i:=k) fH fj F F (aK ho.rw) hk (by rw[eg ho.kl];omega)) (ae (cz iK F cZ F F (aK ho.rw) (by rw[eg ho.kl];omega)) (ae (cS cL F F (aK ho.rw) (q8 ho.kl hk 5 F F)) (ae (cQ cL) (ai F (ah (aV ?_)))))))))))))
 let eh:Lx.Item:=av bb mJ 3 1 (bW bh)
 refine dZ (fun(i:Nat) ρ O=> ∃(SH:Option Addr) (SI:Nat) (l2:List CR) (p2:List OB),O=([oI zs 122 [(.slice bb bh.length bc),(.slice SH l2.length SI)],av SH SI 169 3 (dz l2),eh]++(gl 173 p2))∧i≤(lf ls k).fo.length∧l2.map CR.cf=(((lf ls k).fo.take i).flatMap fun j=>fw ls f bh j r.o).foldl add (l.map CR.cf)∧lO ls l2 p2∧(∀x∈p,x∈p2)∧df [(0,(dJ (aD ob) 0)),(1,(.pointer (aD zs))),(2,vI ((k:Nat):Int)),(3,(.slice r.b r.o.length r.c)),(17,(.slice (lk ks k).b ((lf ls k).fo.length) ((lk ks k).c))),(18,vI ((lf ls k).fo.length:Int)),(19,vI ((i:Nat):Int))] ρ) (fun i=>(lf ls k).fo.length-i) 0 ?_ ?_
 ·exact⟨cb,cc,l,p,F,bl _,F,hS,fun x hx=>hx,(.of F)⟩
 rintro i ρ O ⟨SH,SI,l2,p2,rfl,hi,CK,XV,Ax,hH⟩
 obtain⟨gA,rfl⟩:=hH.elim
 clear hH
 refine aj (ae cU (ah (aR (aZ F (fun hc=>?_) (fun hc=>?_)))))
 ·have AN:i<(lf ls k).fo.length:=by omega
  refine aL (aR (aV (aj (ae (dX (i:=i) cL bF F F (aK (ho.fo _ hk)) AN (by rw[ar];exact AN)) (ae (cS ey F F (aK (ho.fo _ hk)) (iw AN)) (ak F (ah (bg (ai F (ai F (ai F (ai F ?_))))))))))))
  have uc:=hE (lf ls k).fo[i] (aN AN) SH SI l2 p2 XV (Fe.mono Ax)
  refine aq (bm M5 uc ?_)
  clear uc
  rintro vr O' ⟨QK,QL,l3,p3,rfl,rfl,QM,KA,Fa⟩
  refine ah (bg (ae (dr (a:=i) (b:=1) F F (by omega)) (ai F (ah ?_))))
  exact⟨i+1,by omega,_,ck (aY _),QK,QL,l3,p3,F,by omega,by rw[aH AN,List.flatMap_append,cO,←CK,QM];simp,KA,fun x hx=>Fa x (Ax x hx),(.of F)⟩
 have ZN: ¬i<(lf ls k).fo.length:=by omega
 refine cG ?_
 refine aj (ai F (ae a_ (ae (cz gC F gE F F (aK ho.bx) (by first|omega|(simp;done)|(simp;omega)|(simp_all;done)|(simp_all;omega))) (ae (cS fH F F (aK ho.bx) F) (ai F (ae (eA (i:=k) fH fj F F (aK ho.rw) hk (by rw[eg ho.kl];omega)) (ae (cz iK F fC F F (aK ho.rw) (by rw[eg ho.kl];omega)) (ae (cS BB F F (aK ho.rw) (q8 ho.kl hk 6 F F)) (ah (T.cond F (fun hc=>?_) (fun hc=>?_)))))))))))
 ·have Lp:(lf ls k).la=true:=hc
  refine bg (ai F (ai F (ai F (ae (cT (cs:=[vI (-1),vI 0,(.slice r.b r.o.length r.c)]) BY jz (by kernel_rfl)) ?_))))
  have MP:=Vn base hG hK yt (dJ (aD ob) 0) zs bb bc bh [eh] SH SI l2 p2 ⟨-1,0,r⟩ XV (.inl ⟨F,F,w_⟩) (Fe.mono Ax) (O:=[oI zs 122 [(.slice bb bh.length bc),(.slice SH l2.length SI)],av SH SI 169 3 (dz l2),eh]) (by exact Sub.rf)
  refine aq (bm Ga MP ?_)
  clear MP
  rintro vr O' ⟨DX,DY,l4,rfl,rfl,Vp,Vq⟩
  refine ah (aB ?_)
  refine rG.zero results115 ?_
  have xf:i=(lf ls k).fo.length:=by omega
  subst xf
  rw[List.take_length]at CK
  have e9:fX ls (f+1) bh k r.o=((lf ls k).fo.flatMap fun j=>fw ls f bh j r.o)++[⟨-1,0,r.o⟩]:=by unfold fX;rw[aJ Lp]
  exact⟨_,ck (aY _),DX,DY,l4,p2,F,F,by rw[e9,cO,←CK,Vp];rfl,Vq,Ax⟩
 have Lp: ¬(lf ls k).la=true:=by rw[hc];simp
 refine aL (aB ?_)
 refine rG.zero results115 ?_
 have xf:i=(lf ls k).fo.length:=by omega
 subst xf
 rw[List.take_length]at CK
 have e9:fX ls (f+1) bh k r.o=((lf ls k).fo.flatMap fun j=>fw ls f bh j r.o)++[]:=by unfold fX;rw[aA Lp]
 exact⟨_,ck (aY _),SH,SI,l2,p2,F,F,by rw[e9,c_,CK],XV,Ax⟩
def HA (l:Lf) (q:LK):List Value:=[v8 l.op,vI l.d.vars,vI ((l.d.start.toNat:Nat):Int),.slice q.k.nb l.d.next.length q.k.nc,.slice q.k.fb l.d.a7.length q.k.fc,.slice q.b l.fo.length q.c,.bool l.la]
theorem pe {ls:List Lf} {ks:List LK} {k:Nat} (hk:ks.length=ls.length) (h:k<ls.length) (h0:0≤(lf ls k).d.start): ∀j (hj:j<(HA (lf ls k) (lk ks k)).length),(dp ls ks)[k*7+j]? =some (HA (lf ls k) (lk ks k))[j]:=fun j hj=>by
 have e:HA (lf ls k) (lk ks k)=k_ (lf ls k) (lk ks k):=by unfold HA;rw[cM h0];rfl
 simp only[e]at hj⊢
 exact yr hk h j hj
theorem me {l:List Nat} {i:Nat} (h:i<l.length):(bW l)[i]? =some (vI ((l.getD i 0:Nat):Int)):=by
 rw[iw h,az,ap h];rfl
theorem Vr (base:World) [dA prog base] (ob:Nat) (lb:Option Addr) (lc:Nat) (cv fv:Value) (ls:List Lf) (ks:List LK) (ho:lF base ob lb lc cv fv ls ks) (vs:Nat) (hG:iB ls vs) {K:Nat} (hK:qR ls K) (yt:K<1099511627776) (zs:Nat) (bb:Option Addr) (bc mJ:Nat) (bh:List Nat) (hb:qe ls bh) (k:Nat) (hk:k<ls.length) (JD:(lf ls k).op=9) (r:OB) (w_:gd ls k r.o) (f:Nat) (hL: ∀r2:OB,gd ls (k+1) r2.o→q9 base 115 [(dJ (aD ob) 0),(.pointer (aD zs)),vI ((k:Nat):Int),(.slice r2.b r2.o.length r2.c)] zs bb bc mJ bh ls r2 (fX ls f bh k r2.o)) (cb:Option Addr) (cc:Nat) (l:List CR) (p:List OB) (hS:lO ls l p) (Fe:mA p r):
  cj prog base 109 [(dJ (aD ob) 0),(.pointer (aD zs)),vI ((k:Nat):Int),(.slice r.b r.o.length r.c)] ([oI zs 122 [(.slice bb bh.length bc),(.slice cb l.length cc)],av cb cc 169 3 (dz l),av bb mJ 3 1 (bW bh)]++gl 173 p) (fun v O'=> ∃vj vk l' p',v=.tuple #[]∧O'=[oI zs 122 [(.slice bb bh.length bc),(.slice vj l'.length vk)],av vj vk 169 3 (dz l'),av bb mJ 3 1 (bW bh)]++gl 173 p'∧l'.map CR.cf=(fw ls (f+1) bh k r.o).foldl add (l.map CR.cf)∧lO ls l' p'∧(∀x∈p,x∈p')):=by
 refine aE func109 F ntmps109 F ?_
 have hv:=hG.kp hk
 have Bm:=ei hv.toVal
 have SJ:k<bh.length:=by rw[hb.len];exact hk
 have ZO:=hb.lt k hk
 have QN:gd ls (k+1) r.o:=w_.mono (Nat.le_succ k)
 refine aj (ai F (ae a_ (ae (cz gC F gE F F (aK ho.bx) (by first|omega|(simp;done)|(simp;omega)|(simp_all;done)|(simp_all;omega))) (ae (cS fH F F (aK ho.bx) F) (ai F (ae (eA (i:=k) fH fj F F (aK ho.rw) hk (by rw[eg ho.kl];omega)) (ae (eW (vs:=[v8 ((lf ls k).op),vI (lf ls k).d.vars,vI (((lf ls k).d.start.toNat:Nat):Int),(.slice (lk ks k).k.nb ((lf ls k).d.next.length) ((lk ks k).k.nc)),(.slice (lk ks k).k.fb ((lf ls k).d.a7.length) ((lk ks k).k.fc)),(.slice (lk ks k).b ((lf ls k).fo.length) ((lk ks k).c)),.bool (lf ls k).la]) iK F fj F F (bu _) (aK ho.rw) (pe ho.kl hk hv.s0)) (aq (bs fj (fun z1=>?_))))))))))
 refine aq (cq (vs:=[v8 ((lf ls k).op),vI (lf ls k).d.vars,vI (((lf ls k).d.start.toNat:Nat):Int),(.slice (lk ks k).k.nb ((lf ls k).d.next.length) ((lk ks k).k.nc)),(.slice (lk ks k).k.fb ((lf ls k).d.a7.length) ((lk ks k).k.fc)),(.slice (lk ks k).b ((lf ls k).fo.length) ((lk ks k).c)),.bool (lf ls k).la]) 0 fj ?_)
 refine ah (aV (aj (ae (bt iK eD) (ae (bq 0 gH) (ae (aC bK (ax (by omega))) (ak F (ah ?_)))))))
 refine b_ ?_
 refine bg (ai F (ai F (ai F (ai F (ai F (ai F (ae (bt iK bN) (ae (bt dj bF) (ae (bq 0 ey) (ae (tS (cs:=[vI ((k:Nat):Int),vI (((lf ls k).d.start.toNat:Nat):Int)]) kD bF gO (by kernel_rfl)) ?_))))))))))
 have yg:=fun(w1:World) (hI:Inv base ([oI z1 118 [v8 ((lf ls k).op),vI (lf ls k).d.vars,vI (((lf ls k).d.start.toNat:Nat):Int),(.slice (lk ks k).k.nb ((lf ls k).d.next.length) ((lk ks k).k.nc)),(.slice (lk ks k).k.fb ((lf ls k).d.a7.length) ((lk ks k).k.fc)),(.slice (lk ks k).b ((lf ls k).fo.length) ((lk ks k).c)),.bool (lf ls k).la],oI zs 122 [(.slice bb bh.length bc),(.slice cb l.length cc)],av cb cc 169 3 (dz l),av bb mJ 3 1 (bW bh)]++(gl 173 p)) w1)=>(haveI:=ef hI;ZM w1 ob lb lc cv fv ls ks (hI.out ho) vs hG r (mA.sl hI (fun it fO=>ao _ fO) Fe) (k,(lf ls k).d.start.toNat) k w_ (aS _) hk Bm)
 refine aq (bm M6 (aX yg) ?_)
 clear yg
 rintro vr O' ⟨N,rfl,pl,r2,rfl,rfl,M7,DZ⟩
 have hg2:gd ls (k+1) r2.o:=by rw[M7];exact vl (x:=(k,_)) w_ (aS _) Bm
 have ade:mA (pl++p) r2:=by
  rcases DZ with⟨rfl,rfl⟩|rfl
  ·exact Fe.mono fun x hx=>by simpa using hx
  ·exact .inl (by simp)
 refine dM (O':=([oI z1 118 [v8 ((lf ls k).op),vI (lf ls k).d.vars,vI (((lf ls k).d.start.toNat:Nat):Int),(.slice (lk ks k).k.nb ((lf ls k).d.next.length) ((lk ks k).k.nc)),(.slice (lk ks k).k.fb ((lf ls k).d.a7.length) ((lk ks k).k.fc)),(.slice (lk ks k).b ((lf ls k).fo.length) ((lk ks k).c)),.bool (lf ls k).la],oI zs 122 [(.slice bb bh.length bc),(.slice cb l.length cc)],av cb cc 169 3 (dz l),av bb mJ 3 1 (bW bh)]++((gl 173 pl)++(gl 173 p)))) (by exact fK [] _ (gl 173 pl) (gl 173 p)) ?_
 have ZP:=cj.sub (O':=[oI zs 122 [(.slice bb bh.length bc),(.slice cb l.length cc)],av cb cc 169 3 (dz l),av bb mJ 3 1 (bW bh)]++gl 173 (pl++p)) (O:=([oI z1 118 [v8 ((lf ls k).op),vI (lf ls k).d.vars,vI (((lf ls k).d.start.toNat:Nat):Int),(.slice (lk ks k).k.nb ((lf ls k).d.next.length) ((lk ks k).k.nc)),(.slice (lk ks k).k.fb ((lf ls k).d.a7.length) ((lk ks k).k.fc)),(.slice (lk ks k).b ((lf ls k).fo.length) ((lk ks k).c)),.bool (lf ls k).la],oI zs 122 [(.slice bb bh.length bc),(.slice cb l.length cc)],av cb cc 169 3 (dz l),av bb mJ 3 1 (bW bh)]++((gl 173 pl)++(gl 173 p)))) (by rw[D0];exact(by exact Sub.d (.k (.k (.k .rf))))) (hL r2 hg2 cb cc l (pl++p) (hS.mono fun x hx=>ao _ hx) ade)
 refine aq (bm BZ ZP ?_)
 clear ZP
 rintro vr O' ⟨QK,QL,l3,p3,rfl,rfl,QM,KA,Fa⟩
 refine ah (aB ?_)
 refine rG.zero results109 ?_
 exact⟨_,ck (aY _),QK,QL,l3,p3,F,F,by rw[QM,M7];unfold fw;rw[aJ JD],KA,fun x hx=>Fa x (ao _ hx)⟩
theorem Vs (base:World) [dA prog base] (ob:Nat) (lb:Option Addr) (lc:Nat) (cv fv:Value) (ls:List Lf) (ks:List LK) (ho:lF base ob lb lc cv fv ls ks) (vs:Nat) (hG:iB ls vs) {K:Nat} (hK:qR ls K) (yt:K<1099511627776) (zs:Nat) (bb:Option Addr) (bc mJ:Nat) (bh:List Nat) (hb:qe ls bh) (k:Nat) (hk:k<ls.length) (JD:(lf ls k).op=10) (r:OB) (w_:gd ls k r.o) (f:Nat) (hL: ∀r2:OB,gd ls (k+1) r2.o→q9 base 115 [(dJ (aD ob) 0),(.pointer (aD zs)),vI ((k:Nat):Int),(.slice r2.b r2.o.length r2.c)] zs bb bc mJ bh ls r2 (fX ls f bh k r2.o)) (cb:Option Addr) (cc:Nat) (l:List CR) (p:List OB) (hS:lO ls l p) (Fe:mA p r):
  cj prog base 109 [(dJ (aD ob) 0),(.pointer (aD zs)),vI ((k:Nat):Int),(.slice r.b r.o.length r.c)] ([oI zs 122 [(.slice bb bh.length bc),(.slice cb l.length cc)],av cb cc 169 3 (dz l),av bb mJ 3 1 (bW bh)]++gl 173 p) (fun v O'=> ∃vj vk l' p',v=.tuple #[]∧O'=[oI zs 122 [(.slice bb bh.length bc),(.slice vj l'.length vk)],av vj vk 169 3 (dz l'),av bb mJ 3 1 (bW bh)]++gl 173 p'∧l'.map CR.cf=(fw ls (f+1) bh k r.o).foldl add (l.map CR.cf)∧lO ls l' p'∧(∀x∈p,x∈p')):=by
 refine aE func109 F ntmps109 F ?_
 have hv:=hG.kp hk
 have Bm:=ei hv.toVal
 have SJ:k<bh.length:=by rw[hb.len];exact hk
 have ZO:=hb.lt k hk
 have QN:gd ls (k+1) r.o:=w_.mono (Nat.le_succ k)
 refine aj (ai F (ae a_ (ae (cz gC F gE F F (aK ho.bx) (by first|omega|(simp;done)|(simp;omega)|(simp_all;done)|(simp_all;omega))) (ae (cS fH F F (aK ho.bx) F) (ai F (ae (eA (i:=k) fH fj F F (aK ho.rw) hk (by rw[eg ho.kl];omega)) (ae (eW (vs:=[v8 ((lf ls k).op),vI (lf ls k).d.vars,vI (((lf ls k).d.start.toNat:Nat):Int),(.slice (lk ks k).k.nb ((lf ls k).d.next.length) ((lk ks k).k.nc)),(.slice (lk ks k).k.fb ((lf ls k).d.a7.length) ((lk ks k).k.fc)),(.slice (lk ks k).b ((lf ls k).fo.length) ((lk ks k).c)),.bool (lf ls k).la]) iK F fj F F (bu _) (aK ho.rw) (pe ho.kl hk hv.s0)) (aq (bs fj (fun z1=>?_))))))))))
 refine aq (cq (vs:=[v8 ((lf ls k).op),vI (lf ls k).d.vars,vI (((lf ls k).d.start.toNat:Nat):Int),(.slice (lk ks k).k.nb ((lf ls k).d.next.length) ((lk ks k).k.nc)),(.slice (lk ks k).k.fb ((lf ls k).d.a7.length) ((lk ks k).k.fc)),(.slice (lk ks k).b ((lf ls k).fo.length) ((lk ks k).c)),.bool (lf ls k).la]) 0 fj ?_)
 refine ah (aV (aj (ae (bt iK eD) (ae (bq 0 gH) (ae (aC bK (am (by omega))) (ak F (ah (a8 (aR ?_)))))))))
 refine fS [(0,0),(1,0),(2,0),(3,0),(4,0),(5,0),(6,0),(7,0),(8,0),(9,0),(10,0),(11,0),(12,0),(13,0),(14,0),(15,0),(16,0),(17,0)] ?_
 refine aw F (bt iK eD) (aw F (bq 0 gH) (aw F (aC bK (ax (by omega))) (aw F aI ?_)))
 refine bn F F F (bt iK bN) ?_
 refine bn F F F (bt dj dH) ?_
 refine bn F F F (bq 0 eI) ?_
 refine bn F F F aI ?_
 refine bn F F F a_ ?_
 refine bn F F F (bt my cZ) ?_
 refine bn F F F (bq 1 cL) ?_
 refine bn F F F aI ?_
 refine bn F F F (dX (i:=k) cL bF F F (dT (mG 3)) SJ (by rw[ar];exact SJ)) ?_
 refine bn F F F (cS ey F F (dT (mG 3)) (me SJ)) ?_
 refine bn F F F (dX (i:=(bh.getD k 0)) eI fC F F (aK (ho.dk _ hk).a7) (by rw[hv.fin];exact ZO) (by rw[ar,hv.fin];exact ZO)) ?_
 refine bn F F F (cS BB F F (aK (ho.dk _ hk).a7) (pC hv ZO)) ?_
 refine aw F cm (aw F cx ?_)
 refine cA ?_
 refine T.cond F (fun hc=>?_) (fun hc=>?_)
 ·have qf:dF (lf ls k).d (bh.getD k 0)=true:=hc
  refine bg (ai F (ai F (ai F (ai F ?_))))
  have KZ:=cj.sub (O':=[oI zs 122 [(.slice bb bh.length bc),(.slice cb l.length cc)],av cb cc 169 3 (dz l),av bb mJ 3 1 (bW bh)]++gl 173 p) (O:=([oI z1 118 [v8 ((lf ls k).op),vI (lf ls k).d.vars,vI (((lf ls k).d.start.toNat:Nat):Int),(.slice (lk ks k).k.nb ((lf ls k).d.next.length) ((lk ks k).k.nc)),(.slice (lk ks k).k.fb ((lf ls k).d.a7.length) ((lk ks k).k.fc)),(.slice (lk ks k).b ((lf ls k).fo.length) ((lk ks k).c)),.bool (lf ls k).la],oI zs 122 [(.slice bb bh.length bc),(.slice cb l.length cc)],av cb cc 169 3 (dz l),av bb mJ 3 1 (bW bh)]++(gl 173 p))) (by exact(by exact Sub.d (.k (.k (.k .rf))))) (hL r QN cb cc l p hS Fe)
  refine aq (bm BZ KZ ?_)
  clear KZ
  rintro vr O' ⟨QK,QL,l3,p3,rfl,rfl,QM,KA,Fa⟩
  refine ah (aB ?_)
  refine rG.zero results109 ?_
  exact⟨_,ck (aY _),QK,QL,l3,p3,F,F,by rw[QM];unfold fw;rw[aA (by omega),aJ JD,aJ qf],KA,Fa⟩
 have qf: ¬dF (lf ls k).d (bh.getD k 0)=true:=by rw[hc];simp
 refine aj (ae (bt iK eD) (ae (bq 0 gH) (ae (aC bK (am (by omega))) (ak F (ah (a8 (aL (aB ?_))))))))
 refine rG.zero results109 ?_
 exact⟨[oI zs 122 [(.slice bb bh.length bc),(.slice cb l.length cc)],av cb cc 169 3 (dz l),av bb mJ 3 1 (bW bh)]++gl 173 p,(by exact Sub.d (.k (.k (.k .rf)))),cb,cc,l,p,F,F,by unfold fw;rw[aA (by omega),aJ JD,aA qf];rfl,hS,fun x hx=>hx⟩
theorem QO (base:World) [dA prog base] (ob:Nat) (lb:Option Addr) (lc:Nat) (cv fv:Value) (ls:List Lf) (ks:List LK) (ho:lF base ob lb lc cv fv ls ks) (vs:Nat) (hG:iB ls vs) {K:Nat} (hK:qR ls K) (yt:K<1099511627776) (zs:Nat) (bb:Option Addr) (bc mJ:Nat) (bh:List Nat) (hb:qe ls bh) (k:Nat) (hk:k<ls.length) (JD:(lf ls k).op=0) (r:OB) (w_:gd ls k r.o) (f:Nat) (hL: ∀r2:OB,gd ls (k+1) r2.o→q9 base 115 [(dJ (aD ob) 0),(.pointer (aD zs)),vI ((k:Nat):Int),(.slice r2.b r2.o.length r2.c)] zs bb bc mJ bh ls r2 (fX ls f bh k r2.o)) (cb:Option Addr) (cc:Nat) (l:List CR) (p:List OB) (hS:lO ls l p) (Fe:mA p r):
  cj prog base 109 [(dJ (aD ob) 0),(.pointer (aD zs)),vI ((k:Nat):Int),(.slice r.b r.o.length r.c)] ([oI zs 122 [(.slice bb bh.length bc),(.slice cb l.length cc)],av cb cc 169 3 (dz l),av bb mJ 3 1 (bW bh)]++gl 173 p) (fun v O'=> ∃vj vk l' p',v=.tuple #[]∧O'=[oI zs 122 [(.slice bb bh.length bc),(.slice vj l'.length vk)],av vj vk 169 3 (dz l'),av bb mJ 3 1 (bW bh)]++gl 173 p'∧l'.map CR.cf=(fw ls (f+1) bh k r.o).foldl add (l.map CR.cf)∧lO ls l' p'∧(∀x∈p,x∈p')):=by
 refine aE func109 F ntmps109 F ?_
 have hv:=hG.kp hk
 have Bm:=ei hv.toVal
 have SJ:k<bh.length:=by rw[hb.len];exact hk
 have ZO:=hb.lt k hk
 have QN:gd ls (k+1) r.o:=w_.mono (Nat.le_succ k)
 refine aj (ai F (ae a_ (ae (cz gC F gE F F (aK ho.bx) (by first|omega|(simp;done)|(simp;omega)|(simp_all;done)|(simp_all;omega))) (ae (cS fH F F (aK ho.bx) F) (ai F (ae (eA (i:=k) fH fj F F (aK ho.rw) hk (by rw[eg ho.kl];omega)) (ae (eW (vs:=[v8 ((lf ls k).op),vI (lf ls k).d.vars,vI (((lf ls k).d.start.toNat:Nat):Int),(.slice (lk ks k).k.nb ((lf ls k).d.next.length) ((lk ks k).k.nc)),(.slice (lk ks k).k.fb ((lf ls k).d.a7.length) ((lk ks k).k.fc)),(.slice (lk ks k).b ((lf ls k).fo.length) ((lk ks k).c)),.bool (lf ls k).la]) iK F fj F F (bu _) (aK ho.rw) (pe ho.kl hk hv.s0)) (aq (bs fj (fun z1=>?_))))))))))
 refine aq (cq (vs:=[v8 ((lf ls k).op),vI (lf ls k).d.vars,vI (((lf ls k).d.start.toNat:Nat):Int),(.slice (lk ks k).k.nb ((lf ls k).d.next.length) ((lk ks k).k.nc)),(.slice (lk ks k).k.fb ((lf ls k).d.a7.length) ((lk ks k).k.fc)),(.slice (lk ks k).b ((lf ls k).fo.length) ((lk ks k).c)),.bool (lf ls k).la]) 0 fj ?_)
 refine ah (aV (aj (ae (bt iK eD) (ae (bq 0 gH) (ae (aC bK (am (by omega))) (ak F (ah (a8 (aR ?_)))))))))
 refine fS [(0,0),(1,0),(2,0),(3,0),(4,0),(5,0),(6,0),(7,0),(8,0),(9,0),(10,0),(11,0),(12,0),(13,0),(14,0),(15,0),(16,0),(17,0)] ?_
 refine aw F (bt iK eD) (aw F (bq 0 gH) (aw F (aC bK (am (by omega))) (aw F aI (bH F F F (bH F F F (bH F F F (bH F F F (bH F F F (bH F F F (bH F F F ?_))))))))))
 refine bH F F F (bH F F F (bH F F F (bH F F F (bH F F F (aw F bX (aw F cx ?_))))))
 refine cA ?_
 refine a8 (aj (ae (bt iK eD) (ae (bq 0 gH) (ae (aC bK (ax (by omega))) (ak F (ah ?_))))))
 refine b_ ?_
 refine aj (ai F (ai F (ai F (ae (bt iK bN) (ae (bt dj bF) (ae (bq 0 ey) (ai F (ae (cT (cs:=[vI ((k:Nat):Int),vI (((lf ls k).d.start.toNat:Nat):Int),(.slice r.b r.o.length r.c)]) BY jz (by kernel_rfl)) ?_))))))))
 have MU:=Vn base hG hK yt (dJ (aD ob) 0) zs bb bc bh [oI z1 118 [v8 ((lf ls k).op),vI (lf ls k).d.vars,vI (((lf ls k).d.start.toNat:Nat):Int),(.slice (lk ks k).k.nb ((lf ls k).d.next.length) ((lk ks k).k.nc)),(.slice (lk ks k).k.fb ((lf ls k).d.a7.length) ((lk ks k).k.fc)),(.slice (lk ks k).b ((lf ls k).fo.length) ((lk ks k).c)),.bool (lf ls k).la],av bb mJ 3 1 (bW bh)] cb cc l p ⟨(k:Int),(lf ls k).d.start.toNat,r⟩ hS (.inr ⟨k,F,hk,Bm,w_⟩) Fe (O:=[oI z1 118 [v8 ((lf ls k).op),vI (lf ls k).d.vars,vI (((lf ls k).d.start.toNat:Nat):Int),(.slice (lk ks k).k.nb ((lf ls k).d.next.length) ((lk ks k).k.nc)),(.slice (lk ks k).k.fb ((lf ls k).d.a7.length) ((lk ks k).k.fc)),(.slice (lk ks k).b ((lf ls k).fo.length) ((lk ks k).c)),.bool (lf ls k).la],oI zs 122 [(.slice bb bh.length bc),(.slice cb l.length cc)],av cb cc 169 3 (dz l),av bb mJ 3 1 (bW bh)]) (by exact Sub.dP [oI z1 118 [v8 ((lf ls k).op),vI (lf ls k).d.vars,vI (((lf ls k).d.start.toNat:Nat):Int),(.slice (lk ks k).k.nb ((lf ls k).d.next.length) ((lk ks k).k.nc)),(.slice (lk ks k).k.fb ((lf ls k).d.a7.length) ((lk ks k).k.fc)),(.slice (lk ks k).b ((lf ls k).fo.length) ((lk ks k).c)),.bool (lf ls k).la]] _ (.dP [oI z1 118 [v8 ((lf ls k).op),vI (lf ls k).d.vars,vI (((lf ls k).d.start.toNat:Nat):Int),(.slice (lk ks k).k.nb ((lf ls k).d.next.length) ((lk ks k).k.nc)),(.slice (lk ks k).k.fb ((lf ls k).d.a7.length) ((lk ks k).k.fc)),(.slice (lk ks k).b ((lf ls k).fo.length) ((lk ks k).c)),.bool (lf ls k).la]] _ (.k (.k .z))))
 refine aq (bm Ga MU ?_)
 clear MU
 rintro vr O' ⟨DX,DY,l4,rfl,rfl,Vp,Vq⟩
 refine ah (aj (ae (bt iK bN) (ae (bt dj dH) (ae (bq 2 eI) (ae (bt iK bN) (ae (bt dj bF) (ae (bq 2 ey) (ae (dX (i:=((lf ls k).d.start.toNat)) eI fC F F (aK (ho.dk _ hk).a7) (by rw[hv.fin];exact Bm) (by rw[ar,hv.fin];exact Bm)) (ae (cS BB F F (aK (ho.dk _ hk).a7) (pC hv Bm)) (ah (T.cond F (fun hc=>?_) (fun hc=>?_))))))))))))
 ·have qf:dF (lf ls k).d (lf ls k).d.start.toNat=true:=hc
  refine bg (ai F (ai F (ai F (ai F ?_))))
  have ZQ:=cj.sub (O':=[oI zs 122 [(.slice bb bh.length bc),(.slice DX l4.length DY)],av DX DY 169 3 (dz l4),av bb mJ 3 1 (bW bh)]++gl 173 p) (O:=([oI zs 122 [(.slice bb bh.length bc),(.slice DX l4.length DY)],av DX DY 169 3 (dz l4),oI z1 118 [v8 ((lf ls k).op),vI (lf ls k).d.vars,vI (((lf ls k).d.start.toNat:Nat):Int),(.slice (lk ks k).k.nb ((lf ls k).d.next.length) ((lk ks k).k.nc)),(.slice (lk ks k).k.fb ((lf ls k).d.a7.length) ((lk ks k).k.fc)),(.slice (lk ks k).b ((lf ls k).fo.length) ((lk ks k).c)),.bool (lf ls k).la],av bb mJ 3 1 (bW bh)]++(gl 173 p))) (by exact(by exact Sub.k (.k (.d (.k .rf))))) (hL r QN DX DY l4 p Vq Fe)
  refine aq (bm BZ ZQ ?_)
  clear ZQ
  rintro vr O' ⟨QK,QL,l3,p3,rfl,rfl,QM,KA,Fa⟩
  refine ah (aB ?_)
  refine rG.zero results109 ?_
  exact⟨_,ck (aY _),QK,QL,l3,p3,F,F,by rw[QM,Vp];unfold fw;rw[aA (by omega),aA (by omega),aJ qf];rfl,KA,Fa⟩
 have qf: ¬dF (lf ls k).d (lf ls k).d.start.toNat=true:=by rw[hc];simp
 refine aL (aB ?_)
 refine rG.zero results109 ?_
 exact⟨[oI zs 122 [(.slice bb bh.length bc),(.slice DX l4.length DY)],av DX DY 169 3 (dz l4),av bb mJ 3 1 (bW bh)]++gl 173 p,(by exact Sub.k (.k (.d (.k .rf)))),DX,DY,l4,p,F,F,by rw[Vp];unfold fw;rw[aA (by omega),aA (by omega),aA qf];rfl,Vq,fun x hx=>hx⟩
theorem Gb (base:World) [dA prog base] (ob:Nat) (lb:Option Addr) (lc:Nat) (cv fv:Value) (ls:List Lf) (ks:List LK) (ho:lF base ob lb lc cv fv ls ks) (vs:Nat) (hG:iB ls vs) {K:Nat} (hK:qR ls K) (yt:K<1099511627776) (zs:Nat) (bb:Option Addr) (bc mJ:Nat) (bh:List Nat) (hb:qe ls bh): ∀f:Nat,
  (∀(k:Nat) (r:OB),k<ls.length→2*(ls.length-k)≤f→gd ls k r.o→q9 base 109 [(dJ (aD ob) 0),(.pointer (aD zs)),vI ((k:Nat):Int),(.slice r.b r.o.length r.c)] zs bb bc mJ bh ls r (fw ls f bh k r.o))∧
  (∀(k:Nat) (r:OB),k<ls.length→2*(ls.length-k)≤f+1→gd ls (k+1) r.o→q9 base 115 [(dJ (aD ob) 0),(.pointer (aD zs)),vI ((k:Nat):Int),(.slice r.b r.o.length r.c)] zs bb bc mJ bh ls r (fX ls f bh k r.o))
 |0=>⟨fun k r hk hf=>absurd hf (by omega),fun k r hk hf=>absurd hf (by omega)⟩
 |f+1=>by
  obtain⟨h1,h2⟩:=Gb base ob lb lc cv fv ls ks ho vs hG hK yt zs bb bc mJ bh hb f
  refine⟨fun k r hk hf w_=>?_,fun k r hk hf w_=>?_⟩
  ·have hL: ∀r2:OB,gd ls (k+1) r2.o→q9 base 115 [(dJ (aD ob) 0),(.pointer (aD zs)),vI ((k:Nat):Int),(.slice r2.b r2.o.length r2.c)] zs bb bc mJ bh ls r2 (fX ls f bh k r2.o):=fun r2 M7=>h2 k r2 hk (by omega) M7
   intro cb cc l p hS Fe
   rcases hG.op _ (kq hk)with h|h|h
   ·exact QO base ob lb lc cv fv ls ks ho vs hG hK yt zs bb bc mJ bh hb k hk h r w_ f hL cb cc l p hS Fe
   ·exact Vr base ob lb lc cv fv ls ks ho vs hG hK yt zs bb bc mJ bh hb k hk h r w_ f hL cb cc l p hS Fe
   ·exact Vs base ob lb lc cv fv ls ks ho vs hG hK yt zs bb bc mJ bh hb k hk h r w_ f hL cb cc l p hS Fe
  ·intro cb cc l p hS Fe
   exact Vo base ob lb lc cv fv ls ks ho vs hG hK yt zs bb bc mJ bh hb k hk r (w_.mono hk) f (fun j hj=>h1 j r (hG.fo k hk j hj).2 (by have:=hG.fo k hk j hj;omega) (w_.mono (hG.fo k hk j hj).1)) cb cc l p hS Fe
theorem Zo (w:World) [dA prog w] (p n x:Nat) (hp:p<256) (hn:n<256) (hx:x<256):
  cn prog 140 [.agg #[v8 p,v8 n],v8 x] w fun v N=>v=.bool (fY p n x)∧N=[]:=by
 refine aE func140 F ntmps140 F ?_
 refine aj (aq (dE (cs:=[v8 p,v8 n]) (fun n5=>?_)))
 refine ak F (ah (aj (ai F (ae (bt lA eD) (ae (bq 0 gH) (ae (G5 (a:=x) (b:=p) .u8 F F (by show _<256;omega) (by show _<256;omega)) (ae (bt lA eD) (ae (bq 0 gH) (ae bK ?_)))))))))
 by_cases Zp:((x&&&p:Nat):Int)=((p:Nat):Int)
 ·refine ae (aC aI (ax Zp)) ?_
  refine aF aI (aF (bt lA eD) (aF (bq 0 gH) (aF (G5 (a:=x) (b:=n) .u8 F F (by show _<256;omega) (by show _<256;omega)) (aF bK (ae cm (ak F (ah (aM (aB ?_)))))))))
  refine aT (.bool (decide (((x&&&n:Nat):Int)=0))) results140 F ?_
  exact⟨[],ck (cr _),au Value.bool (Eq.symm (decide_eq_decide.2 (by omega))),F⟩
 refine ae (aC aI (am Zp)) (aQ (aQ (aQ (aQ (aQ (ae bX (ak F (ah (aM (aB ?_))))))))))
 refine aT (.bool false) results140 F ?_
 exact⟨[],ck (cr _),au Value.bool (Eq.symm (am (fun hm=>by omega))),F⟩
theorem DP (A B X:List Lx.Item) (c:Lx.Item) (h:Sub (A++[c]) B):Sub (A++(X++[c])) (B++X):=by
 have:=qX A B X [] c h
 simpa using this
theorem ac7 (w:World) [dA prog w] (cb:Nat) (eb:Option Addr) (en ec vs B:Nat) (e7:Sl w (aD cb) [.slice eb en ec,vI (vs:Int),vI (B:Int)]) (gz:vs≤6):
  cn prog 103 [(dJ (aD cb) 0)] w fun v N=> ∃nb nc fb fc qs,v=.agg (fE (fP (vs:Int) true) nb nc fb fc).toArray∧N=[av nb nc 56 1 (dG qs),av fb fc 4 1 (cI (fP (vs:Int) true).a7)]++cg 3 qs∧nums qs=(fP (vs:Int) true).next:=by
 refine aE func103 F ntmps103 F ?_
 obtain⟨L,hL⟩: ∃L,2^vs=L:=⟨_,F⟩
 have UF:L≤64:=by rw[←hL];exact bV (by decide) gz
 refine aj (aq (bs bN (fun n5=>?_)))
 refine ah ?_
 refine fg (fun ρ O=> ∃(zA zB zC:Nat),O=[av (aD zA) L 3 1 (List.replicate L (vI 0)),av (aD zB) 1 56 1 [(.slice (aD zA) L L)],av (aD zC) 1 4 1 [.bool true],oI n5 25 [vI ((vs:Nat):Int),(vI 0),(.slice (aD zB) 1 1),(.slice (aD zC) 1 1)]]∧df [(0,(dJ (aD cb) 0)),(2,(.pointer (aD n5)))] ρ) ?_ ?_
 ·refine oP [] 14 mixed F (by exact Sub.z) (fun _ _ _ _ h=>h) ?_
  refine cE 0 F (by kernel_rfl) aI ?_
  refine cE 1 F (by kernel_rfl) a_ ?_
  refine cE 2 F (by kernel_rfl) (cz lM F bF F F (aK e7) (by first|omega|(simp;done)|(simp;omega)|(simp_all;done)|(simp_all;omega))) ?_
  refine cE 3 F (by kernel_rfl) (cS ey F F (aK e7) F) ?_
  refine cE 4 F (by kernel_rfl) aI ?_
  refine cE 5 F (by kernel_rfl) a_ ?_
  refine cE 6 F (by kernel_rfl) (cz lM F bF F F (aK e7) (by first|omega|(simp;done)|(simp;omega)|(simp_all;done)|(simp_all;omega))) ?_
  refine cE 7 F (by kernel_rfl) (cS ey F F (aK e7) F) ?_
  refine cE 8 F (by kernel_rfl) (bL (nA (v:=vs) F F (by omega)) (v':=vI ((L:Nat):Int)) (by rw[hL])) ?_
  refine bf [9,11] (by kernel_rfl) F ⟨⟨_,F,F,cX (m:=L) cL bF F F (by omega) (by omega) (fun zA=>⟨by exact Sub.z,?_⟩)⟩,⟨_,F,F,cR (v:=.bool true) eI fC F F F (fun zC=>⟨by exact Sub.z,?_⟩)⟩,trivial⟩
  ·refine bf [10,11] (by kernel_rfl) F ⟨⟨_,F,F,cR (v:=(.slice (aD zA) L L)) fp cZ F F F (fun zB=>⟨by exact Sub.z,?_⟩)⟩,⟨_,F,F,cR (v:=.bool true) eI fC F F F (fun zC=>⟨by exact Sub.z,?_⟩)⟩,trivial⟩
   ·refine bf [11] (by kernel_rfl) F ⟨⟨_,F,F,cR (v:=.bool true) eI fC F F F (fun zC=>⟨by exact Sub.z,?_⟩)⟩,trivial⟩
    refine cE 12 F (by kernel_rfl) (cT (cs:=[vI ((vs:Nat):Int),(vI 0),(.slice (aD zB) 1 1),(.slice (aD zC) 1 1)]) jG bN (by kernel_rfl)) ?_
    refine bf [13] (by kernel_rfl) F ⟨⟨_,F,F,cq (vs:=[vI ((vs:Nat):Int),(vI 0),(.slice (aD zB) 1 1),(.slice (aD zC) 1 1)]) 3 bN ⟨by exact Sub.z,?_⟩ F F F F⟩,trivial⟩
    exact dD (by kernel_rfl) ⟨zA,zB,zC,F,⟨F,F,trivial⟩⟩ (by exact Sub.dP [av (aD zC) 1 4 1 [.bool true],av (aD zB) 1 56 1 [(.slice (aD zA) L L)]] _ (.dP [av (aD zC) 1 4 1 [.bool true]] _ (.k (.k .z))))
   refine bf [10] (by kernel_rfl) F ⟨⟨_,F,F,cR (v:=(.slice (aD zA) L L)) fp cZ F F F (fun zB=>⟨by exact Sub.z,?_⟩)⟩,trivial⟩
   refine cE 12 F (by kernel_rfl) (cT (cs:=[vI ((vs:Nat):Int),(vI 0),(.slice (aD zB) 1 1),(.slice (aD zC) 1 1)]) jG bN (by kernel_rfl)) ?_
   refine bf [13] (by kernel_rfl) F ⟨⟨_,F,F,cq (vs:=[vI ((vs:Nat):Int),(vI 0),(.slice (aD zB) 1 1),(.slice (aD zC) 1 1)]) 3 bN ⟨by exact Sub.z,?_⟩ F F F F⟩,trivial⟩
   exact dD (by kernel_rfl) ⟨zA,zB,zC,F,⟨F,F,trivial⟩⟩ (by exact Sub.dP [av (aD zB) 1 56 1 [(.slice (aD zA) L L)],av (aD zC) 1 4 1 [.bool true]] _ (.k (.k (.k .z))))
  refine bf [9] (by kernel_rfl) F ⟨⟨_,F,F,cX (m:=L) cL bF F F (by omega) (by omega) (fun zA=>⟨by exact Sub.z,?_⟩)⟩,trivial⟩
  refine bf [10] (by kernel_rfl) F ⟨⟨_,F,F,cR (v:=(.slice (aD zA) L L)) fp cZ F F F (fun zB=>⟨by exact Sub.z,?_⟩)⟩,trivial⟩
  refine cE 12 F (by kernel_rfl) (cT (cs:=[vI ((vs:Nat):Int),(vI 0),(.slice (aD zB) 1 1),(.slice (aD zC) 1 1)]) jG bN (by kernel_rfl)) ?_
  refine bf [13] (by kernel_rfl) F ⟨⟨_,F,F,cq (vs:=[vI ((vs:Nat):Int),(vI 0),(.slice (aD zB) 1 1),(.slice (aD zC) 1 1)]) 3 bN ⟨by exact Sub.z,?_⟩ F F F F⟩,trivial⟩
  exact dD (by kernel_rfl) ⟨zA,zB,zC,F,⟨F,F,trivial⟩⟩ (by exact Sub.dP [av (aD zB) 1 56 1 [(.slice (aD zA) L L)]] _ (.k (.k (.k .z))))
 rintro ρ O ⟨zA,zB,zC,rfl,hH⟩
 obtain⟨gA,rfl⟩:=hH.elim
 clear hH
 refine aM (aB ?_)
 refine cN (i:=3) results103 dj F bN F F F ?_
 exact⟨[av (aD zB) 1 56 1 (dG [⟨(aD zA),L,List.replicate L 0⟩]),av (aD zC) 1 4 1 (cI [true])]++cg 3 [⟨(aD zA),L,List.replicate L 0⟩],by rw[show cg 3 [(⟨(aD zA),L,List.replicate L 0⟩:Rec)]=[av (aD zA) L 3 1 (List.replicate L (vI 0))] by simp[cg,Rec.qt],show dG [(⟨(aD zA),L,List.replicate L 0⟩:Rec)]=[(.slice (aD zA) L L)] by simp[Rec.val]];exact(by exact Sub.dP [av (aD zA) L 3 1 (List.replicate L (vI 0))] _ (.dP [av (aD zA) L 3 1 (List.replicate L (vI 0))] _ (.k .z))),(aD zB),1,(aD zC),1,[⟨(aD zA),L,List.replicate L 0⟩],F,F,by rw[←hL];rfl⟩
theorem Pq (w:World) [dA prog w] (cb:Nat) (eb:Option Addr) (en ec vs B:Nat) (e7:Sl w (aD cb) [.slice eb en ec,vI (vs:Int),vI (B:Int)]) (gz:vs≤6):
  cn prog 103 [(dJ (aD cb) 0)] w fun v N=> ∃k,v=dV (fP (vs:Int) true) k∧N=[dI 56 4 3 (fP (vs:Int) true) k]:=
 cj.dk (g:=id) (ac7 w cb eb en ec vs B e7 gz)
theorem ME (w:World) [dA prog w] (cb:Nat) (eb:Option Addr) (en ec vs B:Nat) (e7:Sl w (aD cb) [.slice eb en ec,vI (vs:Int),vI (B:Int)]) (gz:vs≤6) (iY:1≤B) (hB:B≤4096) (n op pp pn:Nat) (pa pb:Int) (hn:n≤1) (PU:pp<256) (mw:pn<256):
  dK prog w (.iface 163 (.agg #[])) 104 [(dJ (aD cb) 0),vI ((n:Nat):Int),(.agg #[v8 op,v8 pp,v8 pn,vI pa,vI pb])] [] (fun v N=> ∃M k',v=dV M k'∧N=[dI 56 4 3 M k']∧fQ (vs:Int) B M (Ju n (fY pp pn))∧(jm (FZ vs n (fY pp pn))).next.length≤B) (¬(jm (FZ vs n (fY pp pn))).next.length≤B):=by
 refine dS func104 F ntmps104 F ?_
 obtain⟨L,hL⟩: ∃L,2^vs=L:=⟨_,F⟩
 have UF:L≤64:=by rw[←hL];exact bV (by decide) gz
 refine aj (aq (dE (cs:=[v8 op,v8 pp,v8 pn,vI pa,vI pb]) (fun z1=>?_)))
 refine aq (bs bN (fun z2=>?_))
 refine ah (aj (ai F (ae (dr (a:=n) (b:=1) F F (by omega)) (ak F (ah ?_)))))
 refine fg (fun ρ O=> ∃(zF zd:Nat),O=[av (aD zF) (n+2) 4 1 (List.replicate (n+2) (.bool false)),oI zd 25 [vI ((vs:Nat):Int),(vI 0),nS,(.slice (aD zF) (n+2) (n+2))],oI z2 25 [(vI 0),(vI 0),nS,nS],oI z1 72 [v8 op,v8 pp,v8 pn,vI pa,vI pb]]∧df [(0,(dJ (aD cb) 0)),(1,vI ((n:Nat):Int)),(2,(.agg #[v8 op,v8 pp,v8 pn,vI pa,vI pb])),(5,(.pointer (aD z1))),(6,(.pointer (aD z2))),(7,vI ((n+1:Nat):Int)),(8,(.pointer (aD zd)))] ρ) ?_ ?_
 ·refine oP [] 10 mixed F (by exact Sub.z) (fun _ _ _ _ h=>h) ?_
  refine cE 0 F (by kernel_rfl) aI ?_
  refine cE 1 F (by kernel_rfl) a_ ?_
  refine cE 2 F (by kernel_rfl) (cz lM F bF F F (aK e7) (by first|omega|(simp;done)|(simp;omega)|(simp_all;done)|(simp_all;omega))) ?_
  refine cE 3 F (by kernel_rfl) (cS ey F F (aK e7) F) ?_
  refine cE 4 F (by kernel_rfl) aI ?_
  refine cE 5 F (by kernel_rfl) (dr (a:=n) (b:=2) F F (by omega)) ?_
  refine bf [6,8] (by kernel_rfl) F ⟨⟨_,F,F,cX (m:=n+2) eI fC F F (by omega) (by omega) (fun zF=>⟨by exact Sub.z,?_⟩)⟩,⟨_,F,F,bs bN (fun zd=>⟨by exact Sub.z,?_⟩)⟩,trivial⟩
  ·refine cE 7 F (by kernel_rfl) (cT (cs:=[vI ((vs:Nat):Int),(vI 0),nS,(.slice (aD zF) (n+2) (n+2))]) jG bN (by kernel_rfl)) ?_
   refine bf [8] (by kernel_rfl) F ⟨⟨_,F,F,bs bN (fun zd=>⟨by exact Sub.z,?_⟩)⟩,trivial⟩
   refine bf [9] (by kernel_rfl) F ⟨⟨_,F,F,cq (vs:=[vI ((vs:Nat):Int),(vI 0),nS,(.slice (aD zF) (n+2) (n+2))]) 0 bN ⟨by exact Sub.z,?_⟩ F F F F⟩,trivial⟩
   exact dD (by kernel_rfl) ⟨zF,zd,F,(.of F)⟩ (by exact Sub.dP [oI zd 25 [vI ((vs:Nat):Int),(vI 0),nS,(.slice (aD zF) (n+2) (n+2))]] _ (.k (.k (.k .z))))
  refine bf [6] (by kernel_rfl) F ⟨⟨_,F,F,cX (m:=n+2) eI fC F F (by omega) (by omega) (fun zF=>⟨by exact Sub.z,?_⟩)⟩,trivial⟩
  refine cE 7 F (by kernel_rfl) (cT (cs:=[vI ((vs:Nat):Int),(vI 0),nS,(.slice (aD zF) (n+2) (n+2))]) jG bN (by kernel_rfl)) ?_
  refine bf [9] (by kernel_rfl) F ⟨⟨_,F,F,cq (vs:=[vI ((vs:Nat):Int),(vI 0),nS,(.slice (aD zF) (n+2) (n+2))]) 1 bN ⟨by exact Sub.z,?_⟩ F F F F⟩,trivial⟩
  exact dD (by kernel_rfl) ⟨zF,zd,F,(.of F)⟩ (by exact Sub.rf)
 rintro ρ O ⟨zF,zd,rfl,hH⟩
 obtain⟨gA,rfl⟩:=hH.elim
 clear hH
 refine aj (ae (bt dj dH) (ae (bq 1 eI) (ai F (ae (dX (i:=n) eI fC F F (dT (mG 0)) (by omega) (by simp)) (aq (n7 (j:=n) (v:=.bool true) (vs:=[(.bool true)]) (cs:=List.replicate (n+2) (.bool false)) 0 fC F F F F F (by simp) F (by simp;try omega) ?_))))))
 refine dM (O':=[av (aD zF) (n+2) 4 1 ((List.replicate (n+2) (.bool false)).set n (.bool true)),oI zd 25 [vI ((vs:Nat):Int),(vI 0),nS,(.slice (aD zF) (n+2) (n+2))],oI z2 25 [(vI 0),(vI 0),nS,nS],oI z1 72 [v8 op,v8 pp,v8 pn,vI pa,vI pb]]) (by rw[show eZ (List.replicate (n+2) (.bool false)) n [(.bool true)]=(List.replicate (n+2) (.bool false)).set n (.bool true)from(by simp[eZ])];exact ck (aY _)) ?_
 refine ah (aR (aj (ai F (ae (dr (a:=n) (b:=2) F F (by omega)) (ai F (ah (aV (T.fq 56 1 ?_))))))))
 refine dc (O':=[av none 0 56 1 [],av (aD zF) (n+2) 4 1 ((List.replicate (n+2) (.bool false)).set n (.bool true)),oI zd 25 [vI ((vs:Nat):Int),(vI 0),nS,(.slice (aD zF) (n+2) (n+2))],oI z2 25 [(vI 0),(vI 0),nS,nS],oI z1 72 [v8 op,v8 pp,v8 pn,vI pa,vI pb]]++cg 3 []) ((aG [0,0,0,0,0])) ?_
 refine dZ (fun(s:Nat) ρ O=> ∃(rq:List Rec) (ob:Option Addr) (oc:Nat),O=([av ob oc 56 1 (dG rq),av (aD zF) (n+2) 4 1 ((List.replicate (n+2) (.bool false)).set n (.bool true)),oI zd 25 [vI ((vs:Nat):Int),(vI 0),(.slice ob s oc),(.slice (aD zF) (n+2) (n+2))],oI z2 25 [(vI 0),(vI 0),nS,nS],oI z1 72 [v8 op,v8 pp,v8 pn,vI pa,vI pb]]++(cg 3 rq))∧s≤n+2∧nums rq=(List.range s).map (wm L n (fY pp pn))∧df [(0,(dJ (aD cb) 0)),(1,vI ((n:Nat):Int)),(2,(.agg #[v8 op,v8 pp,v8 pn,vI pa,vI pb])),(5,(.pointer (aD z1))),(6,(.pointer (aD z2))),(7,vI ((n+1:Nat):Int)),(8,(.pointer (aD zd))),(27,vI ((n+2:Nat):Int)),(28,vI ((s:Nat):Int))] ρ) (fun s=>n+2-s) 0 ?_ ?_
 ·exact⟨[],none,0,F,by omega,F,(.of F)⟩
 rintro s ρ O ⟨rq,ob,oc,rfl,hs,hrq,hH⟩
 obtain⟨gA,rfl⟩:=hH.elim
 clear hH
 have OS:rq.length=s:=by have:=au List.length hrq;simpa using this
 refine aj (ae cU (ah (aR (aZ F (fun hc=>?_) (fun hc=>?_)))))
 ·have Zq:s<n+2:=by omega
  refine aL (aR (aV (aj (ai F (ak F (ah (aj (ai F (ae a_ (ae (cz lM F bF F F (aK e7) (by first|omega|(simp;done)|(simp;omega)|(simp_all;done)|(simp_all;omega))) (ae (cS ey F F (aK e7) F) (ae (bL (nA (v:=vs) F F (by omega)) (v':=vI ((L:Nat):Int)) (by rw[hL])) (aq (cX (m:=L) cL bF F F (by omega) (by omega) (fun z3=>?_)))))))))))))))
  refine ak F (ah (aR (aj (ai F (ae (cQ cL) (ai F (ah (aV ?_))))))))
  refine dZ (fun(x:Nat) ρ O=> ∃(ys:List Int),O=([av (aD z3) L 3 1 (ints ys),av ob oc 56 1 (dG rq),av (aD zF) (n+2) 4 1 ((List.replicate (n+2) (.bool false)).set n (.bool true)),oI zd 25 [vI ((vs:Nat):Int),(vI 0),(.slice ob s oc),(.slice (aD zF) (n+2) (n+2))],oI z2 25 [(vI 0),(vI 0),nS,nS],oI z1 72 [v8 op,v8 pp,v8 pn,vI pa,vI pb]]++(cg 3 rq))∧x≤L∧ys.length=L∧(∀i,i<x→ys[i]? =some (SD n (fY pp pn) s i))∧df [(0,(dJ (aD cb) 0)),(1,vI ((n:Nat):Int)),(2,(.agg #[v8 op,v8 pp,v8 pn,vI pa,vI pb])),(5,(.pointer (aD z1))),(6,(.pointer (aD z2))),(7,vI ((n+1:Nat):Int)),(8,(.pointer (aD zd))),(9,vI ((s:Nat):Int)),(10,(.slice (aD z3) L L)),(27,vI ((n+2:Nat):Int)),(28,vI ((s:Nat):Int)),(38,vI (L:Int)),(39,vI ((x:Nat):Int))] ρ) (fun x=>L-x) 0 ?_ ?_
  ·exact⟨List.replicate L 0,by simp,bl _,by simp,fun i hi=>absurd hi (by omega),(.of F)⟩
  rintro x ρ O ⟨ys,rfl,hx,DC,zS,hH⟩
  obtain⟨gA,rfl⟩:=hH.elim
  clear hH
  refine aj (ae cU (ah (aR (aZ F (fun hc=>?_) (fun hc=>?_)))))
  ·have yo:x<L:=by omega
   refine aL (aR (aV (aj (ai F (ak F (ah (aj (ai F (ai F (ai F (ae (dX (i:=x) cL bF F F (dT (mG 0)) (by omega) (by rw[ar];omega)) (aq (n7 (j:=x) (v:=vI ((n+1:Nat):Int)) (vs:=[(vI ((n+1:Nat):Int))]) (cs:=ints ys) 0 bF F F F F F (by simp) F (by first|(simp;omega)|(simp_all;omega)) ?_)))))))))))))
   refine dM (O':=([av (aD z3) L 3 1 (ints (ys.set x ((n+1:Nat):Int))),av ob oc 56 1 (dG rq),av (aD zF) (n+2) 4 1 ((List.replicate (n+2) (.bool false)).set n (.bool true)),oI zd 25 [vI ((vs:Nat):Int),(vI 0),(.slice ob s oc),(.slice (aD zF) (n+2) (n+2))],oI z2 25 [(vI 0),(vI 0),nS,nS],oI z1 72 [v8 op,v8 pp,v8 pn,vI pa,vI pb]]++(cg 3 rq))) (by rw[show eZ (ints ys) x [(vI ((n+1:Nat):Int))]=ints (ys.set x ((n+1:Nat):Int))from(by simp[eZ])];exact ck (aY _)) ?_
   refine ah (aj (ai F (ai F ?_)))
   by_cases qT:((s:Nat):Int)<((n:Nat):Int)
   ·refine ae (aC cU (ax qT)) ?_
    refine ai F (aF (bt dt eD) (aF (bq 5 gH) (aF (bt dt eD) (aF (bq 5 gH) (aF (cT (cs:=[v8 pp,v8 pn]) rN ji (by kernel_rfl)) (aF aI (aF (fU ey gH F (qF (by omega))) ?_)))))))
    refine gk F F F (bm MF (aX fun w1 hI=>(haveI:=ef hI;Zo w1 pp pn x PU mw (by omega))) ?_)
    rintro vr O' ⟨N,rfl,rfl,rfl⟩
    refine ae cm (ah (T.cond F (fun hc=>?_) (fun hc=>?_)))
    ·refine bg ?_
     refine ai F (ai F (ai F (ae (dr (a:=s) (b:=1) F F (by omega)) (ae (dX (i:=x) cL bF F F (dT (mG 0)) (by omega) (by first|(simp;done)|(simp;omega))) (aq (n7 (j:=x) (v:=vI ((s+1:Nat):Int)) (vs:=[(vI ((s+1:Nat):Int))]) (cs:=ints (ys.set x ((n+1:Nat):Int))) 0 bF F F F F F (by simp) F (by first|(simp;omega)|(simp_all;omega)) ?_))))))
     refine dM (O':=([av (aD z3) L 3 1 (ints ((ys.set x ((n+1:Nat):Int)).set x ((s+1:Nat):Int))),av ob oc 56 1 (dG rq),av (aD zF) (n+2) 4 1 ((List.replicate (n+2) (.bool false)).set n (.bool true)),oI zd 25 [vI ((vs:Nat):Int),(vI 0),(.slice ob s oc),(.slice (aD zF) (n+2) (n+2))],oI z2 25 [(vI 0),(vI 0),nS,nS],oI z1 72 [v8 op,v8 pp,v8 pn,vI pa,vI pb]]++(cg 3 rq))) (by rw[show eZ (ints (ys.set x ((n+1:Nat):Int))) x [(vI ((s+1:Nat):Int))]=ints ((ys.set x ((n+1:Nat):Int)).set x ((s+1:Nat):Int))from(by simp[eZ])];exact ck (aY _)) ?_
     refine ah (bg (ae (dr (a:=x) (b:=1) F F (by omega)) (ai F (ah ?_))))
     have hv:SD n (fY pp pn) s x=((s+1:Nat):Int):=aJ ⟨by omega,by first|exact hc|simpa using hc⟩
     exact⟨x+1,by omega,([av (aD z3) L 3 1 (ints ((ys.set x ((n+1:Nat):Int)).set x ((s+1:Nat):Int))),av ob oc 56 1 (dG rq),av (aD zF) (n+2) 4 1 ((List.replicate (n+2) (.bool false)).set n (.bool true)),oI zd 25 [vI ((vs:Nat):Int),(vI 0),(.slice ob s oc),(.slice (aD zF) (n+2) (n+2))],oI z2 25 [(vI 0),(vI 0),nS,nS],oI z1 72 [v8 op,v8 pp,v8 pn,vI pa,vI pb]]++(cg 3 rq)),(by exact Sub.rf),((ys.set x ((n+1:Nat):Int)).set x ((s+1:Nat):Int)),F,by omega,by simp[DC],fun i hi=>by
      by_cases e:i=x
      ·subst e;rw[hv,List.getElem?_set_self (by first|omega|(simp;omega))]
      ·rw[List.getElem?_set_ne (fun h=>e h.symm)];first|exact zS i (by omega)|(rw[List.getElem?_set_ne (fun h=>e h.symm)];exact zS i (by omega)),(.of F)⟩
    refine aL (bg (ae (dr (a:=x) (b:=1) F F (by omega)) (ai F (ah ?_))))
    have hv:SD n (fY pp pn) s x=((n+1:Nat):Int):=aA (fun h9=>by first|omega|(have h8:=h9.2;simp_all;done))
    exact⟨x+1,by omega,([av (aD z3) L 3 1 (ints (ys.set x ((n+1:Nat):Int))),av ob oc 56 1 (dG rq),av (aD zF) (n+2) 4 1 ((List.replicate (n+2) (.bool false)).set n (.bool true)),oI zd 25 [vI ((vs:Nat):Int),(vI 0),(.slice ob s oc),(.slice (aD zF) (n+2) (n+2))],oI z2 25 [(vI 0),(vI 0),nS,nS],oI z1 72 [v8 op,v8 pp,v8 pn,vI pa,vI pb]]++(cg 3 rq)),(by exact Sub.rf),(ys.set x ((n+1:Nat):Int)),F,by omega,by simp[DC],fun i hi=>by
     by_cases e:i=x
     ·subst e;rw[hv,List.getElem?_set_self (by first|omega|(simp;omega))]
     ·rw[List.getElem?_set_ne (fun h=>e h.symm)];first|exact zS i (by omega)|(rw[List.getElem?_set_ne (fun h=>e h.symm)];exact zS i (by omega)),(.of F)⟩
   refine ae (aC cU (am qT)) (ai F (aQ (aQ (aQ (aQ (aQ (aQ (aQ ?_))))))))
   refine aQ (ae bX (ah (a8 (aL (bg (ae (dr (a:=x) (b:=1) F F (by omega)) (ai F (ah ?_))))))))
   have hv:SD n (fY pp pn) s x=((n+1:Nat):Int):=aA (fun h9=>by first|omega|(have h8:=h9.2;simp_all;done))
   exact⟨x+1,by omega,([av (aD z3) L 3 1 (ints (ys.set x ((n+1:Nat):Int))),av ob oc 56 1 (dG rq),av (aD zF) (n+2) 4 1 ((List.replicate (n+2) (.bool false)).set n (.bool true)),oI zd 25 [vI ((vs:Nat):Int),(vI 0),(.slice ob s oc),(.slice (aD zF) (n+2) (n+2))],oI z2 25 [(vI 0),(vI 0),nS,nS],oI z1 72 [v8 op,v8 pp,v8 pn,vI pa,vI pb]]++(cg 3 rq)),(by exact Sub.rf),(ys.set x ((n+1:Nat):Int)),F,by omega,by simp[DC],fun i hi=>by
    by_cases e:i=x
    ·subst e;rw[hv,List.getElem?_set_self (by first|omega|(simp;omega))]
    ·rw[List.getElem?_set_ne (fun h=>e h.symm)];first|exact zS i (by omega)|(rw[List.getElem?_set_ne (fun h=>e h.symm)];exact zS i (by omega)),(.of F)⟩
  have SE: ¬x<L:=by omega
  refine cG ?_
  refine bg (ae (bt dj fR) (ae (bq 3 fp) (ai F (aq (cR (v:=(.slice (aD z3) L L)) fp cZ F F F (fun z4=>?_))))))
  refine aq (dq 2 fp fp cZ F F F F (by simp;omega) (by decide) (Src.row (j:=0) F (by simp)) (by simp[fF]) (by omega) (by decide) (by decide) (fun z5 Jv=>?_))
  refine ae (bt dj fR) (aq (cq (vs:=[(.slice z5 (s+1) Jv)]) 4 fR ?_))
  refine ah ?_
  refine dc (O':=[av z5 Jv 56 1 (dG (rq++[⟨(aD z3),L,ys⟩])),av (aD zF) (n+2) 4 1 ((List.replicate (n+2) (.bool false)).set n (.bool true)),oI zd 25 [vI ((vs:Nat):Int),(vI 0),(.slice z5 (s+1) Jv),(.slice (aD zF) (n+2) (n+2))],oI z2 25 [(vI 0),(vI 0),nS,nS],oI z1 72 [v8 op,v8 pp,v8 pn,vI pa,vI pb]]++cg 3 (rq++[⟨(aD z3),L,ys⟩])) (by
   rw[show dG (rq++[⟨(aD z3),L,ys⟩])=(dG rq)++[(.slice (aD z3) L L)] by simp[Rec.val,DC],show cg 3 (rq++[⟨(aD z3),L,ys⟩])=cg 3 rq++[av (aD z3) L 3 1 (ints ys)] by simp[cg,Rec.qt]]
   exact DP [av z5 Jv 56 1 ((dG rq)++[(.slice (aD z3) L L)]),av (aD zF) (n+2) 4 1 ((List.replicate (n+2) (.bool false)).set n (.bool true)),oI zd 25 [vI ((vs:Nat):Int),(vI 0),(.slice z5 (s+1) Jv),(.slice (aD zF) (n+2) (n+2))],oI z2 25 [(vI 0),(vI 0),nS,nS],oI z1 72 [v8 op,v8 pp,v8 pn,vI pa,vI pb]] [av (aD z4) 1 56 1 [(.slice (aD z3) L L)],av (aD z3) L 3 1 (ints ys),av z5 Jv 56 1 ((dG rq)++[(.slice (aD z3) L L)]),av (aD zF) (n+2) 4 1 ((List.replicate (n+2) (.bool false)).set n (.bool true)),oI zd 25 [vI ((vs:Nat):Int),(vI 0),(.slice z5 (s+1) Jv),(.slice (aD zF) (n+2) (n+2))],oI z2 25 [(vI 0),(vI 0),nS,nS],oI z1 72 [v8 op,v8 pp,v8 pn,vI pa,vI pb]] (cg 3 rq) (av (aD z3) L 3 1 (ints ys)) (by exact Sub.d (.dP [av (aD z3) L 3 1 (ints ys)] _ (.dP [av (aD z3) L 3 1 (ints ys)] _ (.dP [av (aD z3) L 3 1 (ints ys)] _ (.dP [av (aD z3) L 3 1 (ints ys)] _ (.dP [av (aD z3) L 3 1 (ints ys)] _ (.k .z)))))))) ?_
  refine bg (ae (dr (a:=s) (b:=1) F F (by omega)) (ai F (ah ?_)))
  have BN:x=L:=by omega
  have UI:ys=wm L n (fY pp pn) s:=by
   apply List.ext_getElem?
   intro i
   by_cases hi:i<L
   ·rw[zS i (by omega)];simp only[wm];simp[hi]
   ·rw[bY (by omega),bY (by simp[wm];omega)]
  exact⟨s+1,by omega,_,ck (aY _),rq++[⟨(aD z3),L,ys⟩],z5,Jv,F,by omega,by rw[List.range_succ,bj,←hrq];simp[nums,UI],(.of F)⟩
 have Zr: ¬s<n+2:=by omega
 refine cG ?_
 refine aR ?_
 have Qz:s=n+2:=by omega
 obtain⟨W,hW⟩: ∃W,W=FZ vs n (fY pp pn):=⟨_,F⟩
 have Hr:HasL (vs:Int) 3 W (Ju n (fY pp pn)):=hW▸ot _ gz hn
 have e1:nums rq=W.next:=by rw[hW,hrq,Qz,←hL];rfl
 have e2:(List.replicate (n+2) (.bool false)).set n (.bool true)=cI W.a7:=by rw[hW];show _=cI ((List.replicate (n+2) false).set n true);simp
 have e3:(vs:Int)=W.vars:=by rw[hW];rfl
 have e4:(0:Int)=W.start:=by rw[hW];rfl
 have e5:s=W.next.length:=by rw[←e1,←OS];simp
 have e6:n+2=W.a7.length:=by rw[Hr.valid.fin,←e5,Qz]
 obtain⟨M,hM⟩: ∃m,jm W=m:=⟨_,F⟩
 have O6:fQ (vs:Int) 3 M (Ju n (fY pp pn)):=hM▸Hr.p9
 obtain⟨z9,Jq⟩: ∃z:DK,z=⟨ob,oc,(aD zF),n+2,rq⟩:=⟨_,F⟩
 refine dc (O':=([av ob oc 56 1 (dG rq),av (aD zF) (n+2) 4 1 ((List.replicate (n+2) (.bool false)).set n (.bool true)),oI zd 25 [vI ((vs:Nat):Int),(vI 0),(.slice ob s oc),(.slice (aD zF) (n+2) (n+2))],oI z2 25 [(vI 0),(vI 0),nS,nS],oI z1 72 [v8 op,v8 pp,v8 pn,vI pa,vI pb]]++cg 3 rq)) Sub.rf ?_
 refine dc (O':=(([av ob oc 56 1 (dG rq),av (aD zF) (n+2) 4 1 (cI W.a7)]++cg 3 rq)++[oI zd 25 [(vI W.vars),(vI W.start),(.slice ob W.next.length oc),(.slice (aD zF) W.a7.length (n+2))],oI z2 25 [(vI 0),(vI 0),nS,nS],oI z1 72 [v8 op,v8 pp,v8 pn,vI pa,vI pb]])) (by rw[←e5,←e6,←e2,←e3,←e4];exact gy [av ob oc 56 1 (dG rq),av (aD zF) (n+2) 4 1 ((List.replicate (n+2) (.bool false)).set n (.bool true))] (cg 3 rq) [oI zd 25 [vI ((vs:Nat):Int),(vI 0),(.slice ob s oc),(.slice (aD zF) (n+2) (n+2))],oI z2 25 [(vI 0),(vI 0),nS,nS],oI z1 72 [v8 op,v8 pp,v8 pn,vI pa,vI pb]]) ?_
 refine tU (φ:=nums rq=W.next) e1 ?_
 refine dc (O':=[dI 56 4 3 W z9,oI zd 25 (dC W z9),oI z2 25 [(vI 0),(vI 0),nS,nS],oI z1 72 [v8 op,v8 pp,v8 pn,vI pa,vI pb]]) (by subst Jq;exact Sub.rf) ?_
 refine bg (ai F (ae (eN 1 dj bN) (aq (bm Df (aX fun w1 hI=>(haveI:=ef hI;Dg w1 W z9 (hI.at (k:=z9) (mG 0)) Hr.valid (by have:=Hr.valid.n4;omega) (M:=M) hM)) ?_))))
 rintro vr O' ⟨N,rfl,k9,rfl,rfl⟩
 refine ae (bI (vs:=_)) (ae (bI (vs:=_)) ?_)
 have Zs:=fun(w1:World) (hI:Inv w [dI 56 4 3 M k9,dI 56 4 3 W z9,oI zd 25 (dC W z9),oI z2 25 [(vI 0),(vI 0),nS,nS],oI z1 72 [v8 op,v8 pp,v8 pn,vI pa,vI pb]] w1)=>(haveI:=ef hI;nN w1 cb eb en ec vs B (hI.sl e7) M k9 0)
 refine eJ F (e8 sT (dK.pure Zs) F (fun z _=>⟨F,fun h9=>z ⟨F,hM▸hW▸h9⟩⟩) ?_)
 clear Zs
 rintro vr O' ⟨N,rfl,rfl,rfl,_,zT⟩
 refine aq (cq (vs:=(dC M k9)) 3 bN ?_)
 refine ah (aM (aB ?_))
 refine cN (i:=3) results104 dj F bN F F F ?_
 exact⟨[dI 56 4 3 M k9],(by exact Sub.k .z),M,k9,F,F,⟨O6.toHasL.le zT,O6.min⟩,by rw[←hW,hM];exact zT⟩
theorem FU (w:World) [dA prog w] (cb:Nat) (eb:Option Addr) (en ec vs B L:Nat) (e7:Sl w (aD cb) [.slice eb en ec,vI (vs:Int),vI (B:Int)]) (gz:vs≤6) (hL:2^vs=L) (iY:1≤B) (hB:B≤4096)
  (tr:Key→Nat→Key) (fin:Key→Bool) (start:Key) (Rp:Key→SR→Prop) (r0:SR) (fk fn ff:Value) (FP:Rp start r0) (Xl:r0.lx=[]) (wL: ∀k r,Rp k r→fF r.a=true∧fF r.b=true)
  (DA: ∀w1 k r,Inv w [] w1→Rp k r→(∀it∈r.lx,it.P w1)→eH prog w1 fk [r.a] [] (fun v O'=>v=str k∧O'=[]))
  (fy: ∀w1 k r x,Inv w [] w1→Rp k r→(∀it∈r.lx,it.P w1)→x<L→eH prog w1 fn [r.a,.int .u8 (x:Int)] [] (fun v N=> ∃r',v=r'.a∧N=r'.lx∧Rp (tr k x) r'))
  (BL: ∀w1 k r,Inv w [] w1→Rp k r→(∀it∈r.lx,it.P w1)→eH prog w1 ff [r.a] [] (fun v O'=>v=.bool (fin k)∧O'=[])):
  dK prog w (.iface 163 (.agg #[])) 141 [(dJ (aD cb) 0),r0.a,fk,fn,ff] [] (fun v N=> ∃M k',v=dV M k'∧N=[dI 56 4 3 M k']∧fQ (vs:Int) B M (fun u=>fin (u.foldl tr start))∧Ho tr L start B) (¬Ho tr L start B):=by
 refine dS func141 F ntmps141 F ?_
 have UF:L≤64:=by rw[←hL];exact bV (by decide) gz
 obtain⟨ha0,G8⟩:=wL _ _ FP
 refine aj (aq (bs bN (fun z1=>?_)))
 refine ah (aj (ai F (aq (cR (v:=r0.a) fp cZ F F ha0 (fun z2=>?_)))))
 refine ak F (ah (aj (aq (l7 str (fun n:Nat=>Value.int .i64 (n:Int)) (fun m3=>?_)))))
 refine ai F (ai F ?_)
 have qV:=(cW (O:=[dO str (fun n:Nat=>Value.int .i64 (n:Int)) m3 [],av (aD z2) 1 56 1 [r0.a],oI z1 25 [(vI 0),(vI 0),nS,nS]]) fun w1 hI=>haveI:=ef hI;DA w1 start r0 hI.lK FP (by rw[Xl];simp))
 refine aq (eu qV F F ?_)
 clear qV
 rintro vr O' ⟨N,rfl,rfl,rfl⟩
 refine aq (gg (a:=start) (v:=(0:Nat)) 0 iO (gG.string wh) F F F F (by simp) ?_)
 refine ai F (ak F (ah (aj (ai F (ae a_ (ae (cz lM F bF F F (aK e7) (by first|omega|(simp;done)|(simp;omega)|(simp_all;done)|(simp_all;omega))) (ae (cS ey F F (aK e7) F) (ae (cT (cs:=[vN vs,(vI 0),nS,nS]) jG bN (by kernel_rfl)) (aq (bs bN (fun z4=>?_)))))))))))
 refine aq (cq (vs:=[vN vs,(vI 0),nS,nS]) 0 bN ?_)
 refine ah (aR (aj (ak F (ah (aV (T.fq 4 1 ?_))))))
 refine T.fq 56 1 ?_
 refine dc (O':=[av (aD z2) 1 56 1 (eT c1 [r0]),dO str (fun n:Nat=>Value.int .i64 (n:Int)) m3 [start].zipIdx,av none 0 56 1 (dG []),av none 0 4 1 (cI []),oI z4 25 [vN vs,(vI 0),nS,nS],oI z1 25 [(vI 0),(vI 0),nS,nS]]++(cg 3 []++jC [r0])) (by rw[show jC [r0]=[] by simp[jC,Xl]];exact(aG [4,3,0,0,0,0])) ?_
 refine dZ (fun(s:Nat) ρ O=> ∃(ks:List Key) (qs:List SR) (rq:List Rec) (sb ob fb:Option Addr) (sc oc fc:Nat),O=([av sb sc 56 1 (eT c1 qs),dO str (fun n:Nat=>Value.int .i64 (n:Int)) m3 ks.zipIdx,av ob oc 56 1 (dG rq),av fb fc 4 1 (cI ((ks.take s).map fin)),oI z4 25 [vN vs,(vI 0),(.slice ob s oc),(.slice fb s fc)],oI z1 25 [(vI 0),(vI 0),nS,nS]]++(cg 3 rq++jC qs))∧yi tr L start s=ks∧DB tr L start ks∧Mg Rp ks qs∧ks.length≤B∧qW tr L ks s (nums rq)∧df [(0,(dJ (aD cb) 0)),(1,r0.a),(2,fk),(3,fn),(4,ff),(10,(.pointer (aD z1))),(11,(.slice sb qs.length sc)),(12,(.map (some m3))),(13,(.pointer (aD z4))),(14,vN s)] ρ) (fun s=>B-s) 0 ?_ ?_
 ·exact⟨[start],[r0],[],(aD z2),none,none,1,0,0,F,F,DB.one _ _ _,Mg.one FP,by simpa using iY,⟨F,bl _,fun i hi=>absurd hi (by omega),fun i hi=>absurd hi (by omega)⟩,(.of F)⟩
 rintro s ρ O ⟨ks,qs,rq,sb,ob,fb,sc,oc,fc,rfl,oQ,hF,hR,Qw,hE,hH⟩
 obtain⟨gA,rfl⟩:=hH.elim
 clear hH
 have Jh:=hR.1
 have OS:rq.length=s:=by have:=hE.len;simpa using this
 have OW:=hE.le
 refine aR (aj (ai F (ai F (ae (cQ fp) (ae cU (ah (aZ F (fun hc=>?_) (fun hc=>?_))))))))
 ·have C7:s<qs.length:=by omega
  have UG:s<ks.length:=by omega
  refine aL (aR (aV (aj (ai F (ae a_ (ae (cz lM F bF F F (aK e7) (by first|omega|(simp;done)|(simp;omega)|(simp_all;done)|(simp_all;omega))) (ae (cS ey F F (aK e7) F) (ae (bL (nA (v:=vs) F F (by omega)) (v':=vN L) (by rw[hL])) (aq (cX (m:=L) cL bF F F (by omega) (by omega) (fun z5=>?_)))))))))))
  refine ak F (ah (aR (aj (ai F (ae (cQ cL) (ai F (ah (aV ?_))))))))
  refine dZ (fun(x:Nat) ρ O=> ∃(ft:List Key) (iC:List SR) (ys:List Int) (tb:Option Addr) (tc:Nat),O=([av (aD z5) L 3 1 (ints ys),av tb tc 56 1 (eT c1 iC),dO str (fun n:Nat=>Value.int .i64 (n:Int)) m3 ft.zipIdx,av ob oc 56 1 (dG rq),av fb fc 4 1 (cI ((ks.take s).map fin)),oI z4 25 [vN vs,(vI 0),(.slice ob s oc),(.slice fb s fc)],oI z1 25 [(vI 0),(vI 0),nS,nS]]++(cg 3 rq++jC iC))∧x≤L∧ys.length=L∧DB tr L start ft∧Mg Rp ft iC∧ft.length≤B∧ft=((List.range x).map (tr (ks.getD s []))).foldl add ks∧(∀i,i<x→ys[i]? =some ((ix (tr (ks.getD s []) i) ft:Nat):Int))∧df [(0,(dJ (aD cb) 0)),(1,r0.a),(2,fk),(3,fn),(4,ff),(10,(.pointer (aD z1))),(11,(.slice tb iC.length tc)),(12,(.map (some m3))),(13,(.pointer (aD z4))),(14,vN s),(15,(.slice (aD z5) L L)),(45,vI (L:Int)),(46,vN x)] ρ) (fun x=>L-x) 0 ?_ ?_
  ·exact⟨ks,qs,List.replicate L 0,sb,sc,by simp,bl _,by simp,hF,hR,Qw,F,fun i hi=>absurd hi (by omega),(.of F)⟩
  rintro x ρ O ⟨ft,iC,ys,tb,tc,rfl,hx,DC,Qy,zu,Mh,qi,zS,hH⟩
  obtain⟨gA,rfl⟩:=hH.elim
  clear hH
  have vh:ks<+:ft:=qi▸gI _ _
  have sS:ft.getD s []=ks.getD s []:=mz vh UG
  have Y_:=vh.length_le
  have Mi:=zu.1
  have wO:s<iC.length:=by omega
  have UH:=zu.2 s wO
  rw[sS]at UH
  refine aj (ae cU (ah (aR (aZ F (fun hc=>?_) (fun hc=>?_)))))
  ·have LB:x<L:=by omega
   have Mj:x<L:=by omega
   have O5:ks.getD s []∈ft:=by rw[←sS,az,ap (by omega),Option.getD_some];exact aN _
   refine aL (aR (aV (aj (ai F (ak F (ah (aj (ai F (ai F (ai F (ae (dX (i:=s) fp cZ F F (dT (mG 1)) wO (by rw[kT (f:=c1) (n:=1) (fun _=>rfl)];omega)) (ae (cS cL F F (dT (mG 1)) (SB wO)) (ai F (ae (fU ey gH F (qF (by omega))) ?_))))))))))))))
   have Ml:=(cW (O:=([av (aD z5) L 3 1 (ints ys),av tb tc 56 1 (eT c1 iC),dO str (fun n:Nat=>Value.int .i64 (n:Int)) m3 ft.zipIdx,av ob oc 56 1 (dG rq),av fb fc 4 1 (cI ((ks.take s).map fin)),oI z4 25 [vN vs,(vI 0),(.slice ob s oc),(.slice fb s fc)],oI z1 25 [(vI 0),(vI 0),nS,nS]]++(cg 3 rq++jC iC))) fun w1 hI=>haveI:=ef hI;fy w1 (ks.getD s []) iC[s] x hI.lK UH (fun it fO=>hI.holds it (ao _ (ao _ (uq wO fO)))) Mj)
   refine aq (eu Ml F F ?_)
   clear Ml
   rintro vr O' ⟨N9,rfl,r9,rfl,rfl,Mm⟩
   obtain⟨Za,hb9⟩:=wL _ _ Mm
   refine dM (O':=([av (aD z5) L 3 1 (ints ys),av tb tc 56 1 (eT c1 iC),dO str (fun n:Nat=>Value.int .i64 (n:Int)) m3 ft.zipIdx,av ob oc 56 1 (dG rq),av fb fc 4 1 (cI ((ks.take s).map fin)),oI z4 25 [vN vs,(vI 0),(.slice ob s oc),(.slice fb s fc)],oI z1 25 [(vI 0),(vI 0),nS,nS]]++(r9.lx++(cg 3 rq++jC iC)))) (by exact fK [] _ r9.lx (cg 3 rq++jC iC)) ?_
   refine ak F (ah (aj (ai F (ai F (ai F ?_)))))
   have Dq:=(cW (O:=([av (aD z5) L 3 1 (ints ys),av tb tc 56 1 (eT c1 iC),dO str (fun n:Nat=>Value.int .i64 (n:Int)) m3 ft.zipIdx,av ob oc 56 1 (dG rq),av fb fc 4 1 (cI ((ks.take s).map fin)),oI z4 25 [vN vs,(vI 0),(.slice ob s oc),(.slice fb s fc)],oI z1 25 [(vI 0),(vI 0),nS,nS]]++(r9.lx++(cg 3 rq++jC iC)))) fun w1 hI=>haveI:=ef hI;DA w1 (tr (ks.getD s []) x) r9 hI.lK Mm (fun it fO=>hI.holds it (ao _ (aO _ fO))))
   refine aq (eu Dq F F ?_)
   clear Dq
   rintro vr O' ⟨N,rfl,rfl,rfl⟩
   refine ae (bL (jT (a:=tr (ks.getD s []) x) iO bF (gG.string wh) F F (mG 2)) (v':=(.tuple #[vN (if tr (ks.getD s []) x∈ft then ix (tr (ks.getD s []) x) ft else 0),.bool (decide (tr (ks.getD s []) x∈ft))])) (by rw[lD];generalize tr (ks.getD s []) x=k9;by_cases h9:k9∈ft<;>simp[h9])) (ai F (ae (bI (vs:=_)) (ae (bI (vs:=_)) (ak F (ak F (ah (aR (aj (ai F (ae iV (ah (T.cond F (fun hc=>?_) (fun hc=>?_)))))))))))))
   ·have Jp:tr (ks.getD s []) x∉ft:=by simpa using hc
    have mL:=Hp Jp
    refine aj (ai F (ae (cQ fp) (ak F (ah (aj (ai F (ai F (ai F ?_))))))))
    have DD:=(cW (O:=([av (aD z5) L 3 1 (ints ys),av tb tc 56 1 (eT c1 iC),dO str (fun n:Nat=>Value.int .i64 (n:Int)) m3 ft.zipIdx,av ob oc 56 1 (dG rq),av fb fc 4 1 (cI ((ks.take s).map fin)),oI z4 25 [vN vs,(vI 0),(.slice ob s oc),(.slice fb s fc)],oI z1 25 [(vI 0),(vI 0),nS,nS]]++(r9.lx++(cg 3 rq++jC iC)))) fun w1 hI=>haveI:=ef hI;DA w1 (tr (ks.getD s []) x) r9 hI.lK Mm (fun it fO=>hI.holds it (ao _ (aO _ fO))))
    refine aq (eu DD F F ?_)
    clear DD
    rintro vr O' ⟨N,rfl,rfl,rfl⟩
    refine ai F (aq (qE (a:=tr (ks.getD s []) x) (v:=iC.length) 2 iO (gG.string wh) F F F F (by rw[nz];exact Jp) ?_))
    refine ah (aj (ai F (ai F (aq (cR (v:=r9.a) fp cZ F F Za (fun z6=>?_))))))
    refine aq (dq 2 fp fp cZ F F F F (by rw[kT (f:=c1) (n:=1) (fun _=>rfl)]) (by decide) (Src.row (j:=0) F (by simp)) (by simp[Za]) (by omega) (by decide) (by decide) (fun z7 Dk=>?_))
    refine ak F (ah (aj (ai F (ai F (ae a_ (ae (cz lM F bF F F (aK e7) (by first|omega|(simp;done)|(simp;omega)|(simp_all;done)|(simp_all;omega))) (ae (cS ey F F (aK e7) F) (ae kV (ah (aZ F (fun hc=>?_) (fun hc=>?_)))))))))))
    ·have Zb:iC.length≥B:=by omega
     refine bg (ae (cT xg BJ F) (ae (rP Hl F) ?_))
     exact eJ F (xh F (fun _=>⟨F,(Qy.add O5 Mj).Zc (by rw[mL];simp;omega)⟩))
    have Zd: ¬iC.length≥B:=by omega
    refine aL (bg (ai F (ai F (ai F (ae (dX (i:=x) cL bF F F (dT (mG 1)) (by omega) (by rw[ar];omega)) (aq (n7 (j:=x) (v:=vI (iC.length:Int)) (vs:=[(vI (iC.length:Int))]) (cs:=ints ys) 1 bF F F F F F (by simp) F (by first|(simp;omega)|(simp_all;omega)) ?_)))))))
    refine dM (O':=([av (aD z6) 1 56 1 [r9.a],av (aD z5) L 3 1 (ints (ys.set x ((ix (tr (ks.getD s []) x) (add ft (tr (ks.getD s []) x)):Nat):Int))),av z7 Dk 56 1 ((eT c1 iC)++[r9.a]),dO str (fun n:Nat=>Value.int .i64 (n:Int)) m3 (ft.zipIdx++[(tr (ks.getD s []) x,iC.length)]),av ob oc 56 1 (dG rq),av fb fc 4 1 (cI ((ks.take s).map fin)),oI z4 25 [vN vs,(vI 0),(.slice ob s oc),(.slice fb s fc)],oI z1 25 [(vI 0),(vI 0),nS,nS]]++(r9.lx++(cg 3 rq++jC iC)))) (by rw[show eZ (ints ys) x [(vI (iC.length:Int))]=ints (ys.set x ((ix (tr (ks.getD s []) x) (add ft (tr (ks.getD s []) x)):Nat):Int))from(by rw[mL,fZ Jp,show ix (tr (ks.getD s []) x) [tr (ks.getD s []) x]=0 by simp[ix],Nat.add_zero,←Mi];simp[eZ])];exact ck (aY _)) ?_
    refine ah (bg (ae (dr (a:=x) (b:=1) F F (by omega)) (ai F (ah ?_))))
    have FR: ∀y,y<x→tr (ks.getD s []) y∈ft:=fun y hy=>by rw[qi,d_];exact .inr (List.mem_map_of_mem (List.mem_range.2 hy))
    have FT: ∀i,i<x+1→(ys.set x ((ix (tr (ks.getD s []) x) (add ft (tr (ks.getD s []) x)):Nat):Int))[i]? =some ((ix (tr (ks.getD s []) i) (add ft (tr (ks.getD s []) x)):Nat):Int):=fun i hi=>by
     by_cases e:i=x
     ·subst e;rw[List.getElem?_set_self (by omega)]
     ·rw[List.getElem?_set_ne (fun h=>e h.symm),zS i (by omega),ir (jY _ _) (FR i (by omega))]
    have AG:=zu.snoc Mm
    rw[←mL]at AG
    have hF3:=Qy.add O5 Mj
    exact⟨x+1,by omega,[av (aD z5) L 3 1 (ints (ys.set x ((ix (tr (ks.getD s []) x) (add ft (tr (ks.getD s []) x)):Nat):Int))),av z7 Dk 56 1 (eT c1 (iC++[r9])),dO str (fun n:Nat=>Value.int .i64 (n:Int)) m3 ((add ft (tr (ks.getD s []) x)).zipIdx),av ob oc 56 1 (dG rq),av fb fc 4 1 (cI ((ks.take s).map fin)),oI z4 25 [vN vs,(vI 0),(.slice ob s oc),(.slice fb s fc)],oI z1 25 [(vI 0),(vI 0),nS,nS]]++(cg 3 rq++jC (iC++[r9])),(by rw[AJ,wj,mL,show(ft++[tr (ks.getD s []) x]).zipIdx=ft.zipIdx++[(tr (ks.getD s []) x,iC.length)] by rw[List.zipIdx_append,Mi];simp];exact yj _ _ _ _ _ (by exact Sub.d (.k (.k (.k (.k (.k (.k (.k .z))))))))),add ft (tr (ks.getD s []) x),iC++[r9],_,z7,Dk,F,by omega,by simp[DC],hF3,AG,by rw[mL];simp;omega,by rw[jk,←qi],FT,⟨F,F,F,F,F,F,(show Value.slice z7 (iC.length+1) Dk=_ by rw[aP];rfl),F,F,F,F,F,F,trivial⟩⟩
   have Jp:tr (ks.getD s []) x∈ft:=by simpa using hc
   have mL:=Hq Jp
   refine aL (bg (ai F (ai F (ai F (ae (dX (i:=x) cL bF F F (dT (mG 0)) (by omega) (by rw[ar];omega)) (aq (n7 (j:=x) (v:=vN (if tr (ks.getD s []) x∈ft then ix (tr (ks.getD s []) x) ft else 0)) (vs:=[(vN (if tr (ks.getD s []) x∈ft then ix (tr (ks.getD s []) x) ft else 0))]) (cs:=ints ys) 0 bF F F F F F (by simp) F (by first|(simp;omega)|(simp_all;omega)) ?_)))))))
   refine dM (O':=([av (aD z5) L 3 1 (ints (ys.set x ((ix (tr (ks.getD s []) x) (add ft (tr (ks.getD s []) x)):Nat):Int))),av tb tc 56 1 (eT c1 iC),dO str (fun n:Nat=>Value.int .i64 (n:Int)) m3 ft.zipIdx,av ob oc 56 1 (dG rq),av fb fc 4 1 (cI ((ks.take s).map fin)),oI z4 25 [vN vs,(vI 0),(.slice ob s oc),(.slice fb s fc)],oI z1 25 [(vI 0),(vI 0),nS,nS]]++(r9.lx++(cg 3 rq++jC iC)))) (by rw[show eZ (ints ys) x [(vN (if tr (ks.getD s []) x∈ft then ix (tr (ks.getD s []) x) ft else 0))]=ints (ys.set x ((ix (tr (ks.getD s []) x) (add ft (tr (ks.getD s []) x)):Nat):Int))from(by rw[mL,aJ Jp];simp[eZ])];exact ck (aY _)) ?_
   refine ah (bg (ae (dr (a:=x) (b:=1) F F (by omega)) (ai F (ah ?_))))
   have FR: ∀y,y<x→tr (ks.getD s []) y∈ft:=fun y hy=>by rw[qi,d_];exact .inr (List.mem_map_of_mem (List.mem_range.2 hy))
   have FT: ∀i,i<x+1→(ys.set x ((ix (tr (ks.getD s []) x) (add ft (tr (ks.getD s []) x)):Nat):Int))[i]? =some ((ix (tr (ks.getD s []) i) (add ft (tr (ks.getD s []) x)):Nat):Int):=fun i hi=>by
    by_cases e:i=x
    ·subst e;rw[List.getElem?_set_self (by omega)]
    ·rw[List.getElem?_set_ne (fun h=>e h.symm),zS i (by omega),ir (jY _ _) (FR i (by omega))]
   have AG:=zu
   rw[←mL]at AG
   exact⟨x+1,by omega,[av (aD z5) L 3 1 (ints (ys.set x ((ix (tr (ks.getD s []) x) (add ft (tr (ks.getD s []) x)):Nat):Int))),av tb tc 56 1 (eT c1 iC),dO str (fun n:Nat=>Value.int .i64 (n:Int)) m3 ((add ft (tr (ks.getD s []) x)).zipIdx),av ob oc 56 1 (dG rq),av fb fc 4 1 (cI ((ks.take s).map fin)),oI z4 25 [vN vs,(vI 0),(.slice ob s oc),(.slice fb s fc)],oI z1 25 [(vI 0),(vI 0),nS,nS]]++(cg 3 rq++jC iC),(by rw[mL];exact fB _ _ _ _ (by exact Sub.rf)),add ft (tr (ks.getD s []) x),iC,_,tb,tc,F,by omega,by simp[DC],Qy.add O5 Mj,AG,by rw[mL];exact Mh,by rw[jk,←qi],FT,(.of F)⟩
  have LG: ¬x<L:=by omega
  refine cG ?_
  refine T.ds [av tb tc 56 1 (eT c1 iC),oI z4 25 [vN vs,(vI 0),(.slice ob s oc),(.slice fb s fc)]] [(0,0),(1,0),(2,0),(5,0),(6,0),(7,0),(8,0),(9,0),(10,0),(11,0),(3,1),(4,1),(15,0),(12,1),(13,1),(14,1),(16,2),(17,2),(18,2)] (by exact Sub.d (.k (.d (.d (.d (.k .z)))))) ?_
  refine aw F (bt dj fR) (aw F (bq 1 fp) (aw F aI (aw F (bt dj dH) (aw F (bq 1 eI) (aw F aI (aw F aI (aw F aI (aw F (dX (i:=s) fp cZ F F (dT (mG 0)) wO (by rw[kT (f:=c1) (n:=1) (fun _=>rfl)];omega)) (aw F (cS cL F F (dT (mG 0)) (SB wO)) ?_)))))))))
  refine cH F F (cR (v:=(.slice (aD z5) L L)) fp cZ F F F (fun z9=>⟨by exact Sub.d (.d (.k (.d (.d (.d (.k .z)))))),?_⟩))
  refine cH F F (dq 4 fp fp cZ F F F F (by simp;omega) (by decide) (Src.row (j:=0) F (by simp)) (by simp[fF]) (by omega) (by decide) (by decide) (fun xa qY=>⟨by exact Sub.d (.d (.k (.d (.d (.d (.k .z)))))),?_⟩))
  refine aw F (bt dj fR) ?_
  have DE:=(cW (O:=([av (aD z9) 1 56 1 [(.slice (aD z5) L L)],av (aD z5) L 3 1 (ints ys),av tb tc 56 1 (eT c1 iC),dO str (fun n:Nat=>Value.int .i64 (n:Int)) m3 ft.zipIdx,av xa qY 56 1 ((dG rq)++[(.slice (aD z5) L L)]),av fb fc 4 1 (cI ((ks.take s).map fin)),oI z4 25 [vN vs,(vI 0),(.slice ob s oc),(.slice fb s fc)],oI z1 25 [(vI 0),(vI 0),nS,nS]]++(cg 3 rq++jC iC))) fun w1 hI=>haveI:=ef hI;BL w1 (ks.getD s []) iC[s] hI.lK UH (fun it fO=>hI.holds it (ao _ (ao _ (uq wO fO)))))
  refine cH F F (eu DE F F ?_)
  clear DE
  rintro vr O' ⟨N,rfl,rfl,rfl⟩
  refine⟨by exact Sub.d (.d (.k (.d (.d (.d (.k .z)))))),?_⟩
  refine cH F F (cR (v:=.bool (fin (ks.getD s []))) eI fC F F F (fun z12=>⟨by exact Sub.d (.d (.d (.k (.d (.d (.d (.k .z))))))),?_⟩))
  refine cH F F (dq 6 eI eI fC F F F F (by simp;omega) (by decide) (Src.row (j:=0) F (by simp)) (by simp[fF]) (by omega) (by decide) (by decide) (fun rL sf=>⟨by exact Sub.d (.d (.d (.k (.d (.d (.d (.k .z))))))),?_⟩))
  refine cy F F (cq (vs:=[(.slice xa (s+1) qY)]) 7 fR ?_)
  refine cy F F (eK F F (bt dj dH) ?_)
  refine cy F F (cq (vs:=[(.slice rL (s+1) sf)]) 7 dH ?_)
  refine cA ?_
  have oJ:cI ((ft.take (s+1)).map fin)=cI ((ks.take s).map fin)++[.bool (fin (ks.getD s []))]:=by
   rw[aH (by omega:s<ft.length),bj,show ft.take s=ks.take s by obtain⟨t9,rfl⟩:=vh;rw[List.take_append_of_le_length (by omega)],←sS,show ft.getD s []=ft[s] by rw[az,ap (by omega),Option.getD_some]]
   simp
  refine dc (O':=[av tb tc 56 1 (eT c1 iC),dO str (fun n:Nat=>Value.int .i64 (n:Int)) m3 ft.zipIdx,av xa qY 56 1 (dG (rq++[⟨(aD z5),L,ys⟩])),av rL sf 4 1 (cI ((ft.take (s+1)).map fin)),oI z4 25 [vN vs,(vI 0),(.slice xa (s+1) qY),(.slice rL (s+1) sf)],oI z1 25 [(vI 0),(vI 0),nS,nS]]++(cg 3 (rq++[⟨(aD z5),L,ys⟩])++jC iC)) (by
   rw[oJ,show dG (rq++[⟨(aD z5),L,ys⟩])=(dG rq)++[(.slice (aD z5) L L)] by simp[Rec.val,DC],show cg 3 (rq++[⟨(aD z5),L,ys⟩])=cg 3 rq++[av (aD z5) L 3 1 (ints ys)] by simp[cg,Rec.qt]]
   exact qX [av tb tc 56 1 (eT c1 iC),dO str (fun n:Nat=>Value.int .i64 (n:Int)) m3 ft.zipIdx,av xa qY 56 1 ((dG rq)++[(.slice (aD z5) L L)]),av rL sf 4 1 ((cI ((ks.take s).map fin))++[.bool (fin (ks.getD s []))]),oI z4 25 [vN vs,(vI 0),(.slice xa (s+1) qY),(.slice rL (s+1) sf)],oI z1 25 [(vI 0),(vI 0),nS,nS]] [av (aD z12) 1 4 1 [.bool (fin (ks.getD s []))],av (aD z9) 1 56 1 [(.slice (aD z5) L L)],av (aD z5) L 3 1 (ints ys),av tb tc 56 1 (eT c1 iC),dO str (fun n:Nat=>Value.int .i64 (n:Int)) m3 ft.zipIdx,av xa qY 56 1 ((dG rq)++[(.slice (aD z5) L L)]),av rL sf 4 1 ((cI ((ks.take s).map fin))++[.bool (fin (ks.getD s []))]),oI z4 25 [vN vs,(vI 0),(.slice xa (s+1) qY),(.slice rL (s+1) sf)],oI z1 25 [(vI 0),(vI 0),nS,nS]] (cg 3 rq) (jC iC) (av (aD z5) L 3 1 (ints ys)) (by exact Sub.d (.d (.dP [av (aD z5) L 3 1 (ints ys)] _ (.dP [av (aD z5) L 3 1 (ints ys)] _ (.dP [av (aD z5) L 3 1 (ints ys)] _ (.dP [av (aD z5) L 3 1 (ints ys)] _ (.dP [av (aD z5) L 3 1 (ints ys)] _ (.dP [av (aD z5) L 3 1 (ints ys)] _ (.k .z)))))))))) ?_
  refine bg (ai F (ae (dr (a:=s) (b:=1) F F (by omega)) (ak F (ah ?_))))
  have BN:x=L:=by omega
  have UI:ys=lE tr L ft s:=by
   apply List.ext_getElem?
   intro i
   by_cases hi:i<L
   ·rw[zS i (by omega)];simp only[lE,sS];simp[hi]
   ·rw[bY (by omega),bY (by simp[lE];omega)]
  have FR: ∀y,y<L→tr (ks.getD s []) y∈ft:=fun y hy=>by rw[qi,d_];exact .inr (List.mem_map_of_mem (List.mem_range.2 (by omega)))
  have Uj:qW tr L ft (s+1) (nums (rq++[⟨(aD z5),L,ys⟩])):=by
   have:=hE.snoc vh UG UI (by rw[sS];exact FR)
   simpa[nums]using this
  exact⟨s+1,by omega,_,ck (aY _),ft,iC,rq++[⟨(aD z5),L,ys⟩],tb,xa,rL,tc,qY,sf,F,by rw[yi,oQ,qi,BN],Qy,zu,Mh,Uj,(.of F)⟩
 have C8: ¬s<qs.length:=by omega
 refine cG ?_
 refine aR ?_
 have Qz:s=ks.length:=by omega
 have qT:rq.length=(nums rq).length:=by simp
 obtain⟨W,hW⟩: ∃W,W=Kx vs (nums rq) (ks.map fin):=⟨_,F⟩
 have Hr:HasL (vs:Int) ks.length W (fun u=>fin (u.foldl tr start)):=by rw[hW];exact Hs gz (by rw[hL];exact hF) (by rw[hL,←Qz];exact hE) (by omega)
 have e1:nums rq=W.next:=by rw[hW];rfl
 have e2:(ks.take s).map fin=W.a7:=by rw[hW,br (by omega)];rfl
 have e3:(vs:Int)=W.vars:=by rw[hW];rfl
 have e4:(0:Int)=W.start:=by rw[hW];rfl
 have e5:s=W.next.length:=by rw[←e1,←qT];omega
 have e6:s=W.a7.length:=by rw[Hr.valid.fin,←e5]
 obtain⟨M,hM⟩: ∃m,jm W=m:=⟨_,F⟩
 have O6:fQ (vs:Int) ks.length M (fun u=>fin (u.foldl tr start)):=hM▸Hr.p9
 obtain⟨z9,Jq⟩: ∃z:DK,z=⟨ob,oc,fb,fc,rq⟩:=⟨_,F⟩
 refine dc (O':=([av ob oc 56 1 (dG rq),av fb fc 4 1 (cI ((ks.take s).map fin)),oI z4 25 [vN vs,(vI 0),(.slice ob s oc),(.slice fb s fc)],oI z1 25 [(vI 0),(vI 0),nS,nS]]++cg 3 rq)) (wk _ _ _ _ (by exact Sub.d (.d (.k (.k (.k (.k .z))))))) ?_
 refine dc (O':=(([av ob oc 56 1 (dG rq),av fb fc 4 1 (cI W.a7)]++cg 3 rq)++[oI z4 25 [(vI W.vars),(vI W.start),(.slice ob W.next.length oc),(.slice fb W.a7.length fc)],oI z1 25 [(vI 0),(vI 0),nS,nS]])) (by rw[←e5,←e6,←e2,←e3,←e4];exact gy [av ob oc 56 1 (dG rq),av fb fc 4 1 (cI ((ks.take s).map fin))] (cg 3 rq) [oI z4 25 [vN vs,(vI 0),(.slice ob s oc),(.slice fb s fc)],oI z1 25 [(vI 0),(vI 0),nS,nS]]) ?_
 refine tU (φ:=nums rq=W.next) e1 ?_
 refine dc (O':=[dI 56 4 3 W z9,oI z4 25 (dC W z9),oI z1 25 [(vI 0),(vI 0),nS,nS]]) (by subst Jq;exact Sub.rf) ?_
 refine bg (ai F (ae (eN 1 dj bN) (aq (bm Df (aX fun w1 hI=>(haveI:=ef hI;Dg w1 W z9 (hI.at (k:=z9) (mG 0)) Hr.valid (by have:=Hr.valid.n4;omega) (M:=M) hM)) ?_))))
 rintro vr O' ⟨N,rfl,k9,rfl,rfl⟩
 refine ae (bI (vs:=_)) (ae (bI (vs:=_)) ?_)
 have DG:=fun(w1:World) (hI:Inv w [dI 56 4 3 M k9,dI 56 4 3 W z9,oI z4 25 (dC W z9),oI z1 25 [(vI 0),(vI 0),nS,nS]] w1)=>(haveI:=ef hI;nN w1 cb eb en ec vs B (hI.sl e7) M k9 0)
 refine eJ F (e8 sT (dK.pure DG) F (fun z _=>⟨F,fun _=>z ⟨F,by have:=O6.len;omega⟩⟩) ?_)
 clear DG
 rintro vr O' ⟨N,rfl,rfl,rfl,_,zT⟩
 refine aq (cq (vs:=(dC M k9)) 3 bN ?_)
 refine ah (aM (aB ?_))
 refine cN (i:=3) results141 dj F bN F F F ?_
 exact⟨[dI 56 4 3 M k9],(by exact Sub.k .z),M,k9,F,F,⟨O6.toHasL.le zT,O6.min⟩,DH hF (Qz▸hE) Qw⟩
theorem UT (base:World) [dA prog base] (x:Int):cj prog base 147 [vI x] [] (fun v O'=>v=.bool (decide (x<0))∧O'=[]):=by
 refine aE func147 F ntmps147 F ?_
 refine aj (ak F (ah (aj (ai F (ae cU (ak F (ah (aM ?_))))))))
 refine aT (.bool (decide (x<0))) results147 F ?_
 exact⟨F,F⟩
theorem QD (base:World) [dA prog base] (b:Option Addr) (c:Nat) (z:List Int) (hz: ∀x∈z,0≤x) (hb:z.length≤1000000):
  cj prog base 145 [.slice b z.length c,(.func (.func 147) #[] #[])] [av b c 3 1 (ints z)] (fun v O'=>v=.slice b z.length c∧O'=[av b c 3 1 (ints z)]):=by
 refine aE func145 F ntmps145 F ?_
 refine aj (ak F (ah (aj (ai F (ai F ?_)))))
 refine aq (bm FO (aX fun w1 hI=>(haveI:=ef hI;(show cn _ _ _ _ _ from by
   have h9:=sR w1 b c z (hI.gV (mG 0)) (by omega) (.func (.func 147) #[] #[]) (fun x=>decide (x<0)) [] (fun x hx=>bU (first:=[]) (args:=[vI x]) (fG:=[]) FW (UT w1 x))
   exact h9))) ?_)
 rintro vr O' ⟨N,rfl,i9,rfl,hi,rfl⟩
 have K3:i9= -1:=by
  rcases hi with⟨_,h⟩|⟨k,_,h1,_,h2⟩
  ·exact h
  ·have:=hz _ (aN h1)
   rw[az,ap h1]at h2
   simp at h2;omega
 refine ak F (ah (aR (aj (ai F (ae bK (ah ?_))))))
 refine b_ ?_ (by rw[K3];rfl)
 refine aj (ai F (ak F (ah (aM ?_))))
 refine aT (.slice b z.length c) results145 F ?_
 exact⟨F,F⟩
def XS (z:List Int) (k:Nat):List Int:=z.take k++((-1)::z).drop k
theorem ym {z:List Int} {k:Nat} (h:k≤z.length):(XS z k).length=z.length+1:=by simp[XS];omega
theorem Zk {z:List Int} {k:Nat} (h:k<z.length):(XS z k)[k+1]? =some z[k]:=by
 unfold XS
 rw[bM (by simp;omega),List.getElem?_drop]
 simp[Nat.min_eq_left (Nat.le_of_lt h),show k+(k+1-k)=k+1 by omega,h]
theorem UU {z:List Int} {k:Nat} (h:k<z.length):eZ (ints (XS z k)) k [vI z[k]]=ints (XS z (k+1)):=by
 simp only[eZ]
 apply List.ext_getElem?
 intro j
 have hl:(ints (XS z k)).length=z.length+1:=by rw[ar,ym (Nat.le_of_lt h)]
 by_cases c1:j=k
 ·subst c1
  rw[List.getElem?_set_self (by omega),bi]
  unfold XS
  rw[bE (by simp;omega),List.getElem?_take,aJ (by omega),ap h];rfl
 ·rw[List.getElem?_set_ne (fun e=>c1 e.symm),bi,bi]
  congr 1
  unfold XS
  by_cases c2:j<k
  ·rw[bE (by simp;omega),bE (by simp;omega),List.getElem?_take,List.getElem?_take,aJ c2,aJ (by omega)]
  ·rw[bM (by simp;omega),bM (by simp;omega),List.getElem?_drop,List.getElem?_drop]
   simp only[cw,Nat.min_eq_left (Nat.le_of_lt h),Nat.min_eq_left h]
   congr 1;omega
theorem QE (base:World) [dA prog base] (bk o c:Nat) (z:List Int) (hz: ∀x∈z,0≤x) (hb:z.length≤1000000) (Fb:z.length+1≤c):
  cj prog base 145 [.slice (some ⟨bk,o,none⟩) (z.length+1) c,(.func (.func 147) #[] #[])] [av (some ⟨bk,o,none⟩) c 3 1 (ints (-1::z))] (fun v O'=>v=.slice (some ⟨bk,o,none⟩) z.length c∧O'=[av (some ⟨bk,o,none⟩) c 3 1 (ints z)]):=by
 refine aE func145 F ntmps145 F ?_
 have hcz:z.length+1≤c:=Fb
 refine aj (ak F (ah (aj (ai F (ai F ?_)))))
 refine aq (bm FO (aX fun w1 hI=>(haveI:=ef hI;(show cn _ _ _ _ _ from by
   have h9:=sR w1 (some ⟨bk,o,none⟩) c (-1::z) (hI.gV (mG 0)) (by simp;omega) (.func (.func 147) #[] #[]) (fun x=>decide (x<0)) [] (fun x hx=>bU (first:=[]) (args:=[vI x]) (fG:=[]) FW (UT w1 x))
   exact h9))) ?_)
 rintro vr O' ⟨N,rfl,i9,rfl,hi,rfl⟩
 have K3:i9=((0:Nat):Int):=by
  rcases hi with⟨h,_⟩|⟨k,h,_,h1,_⟩
  ·simp at h
  ·cases k with
   |zero=>exact h
   |succ k=>simp at h1
 refine ae (bL cx (v':=vN 0) (show Value.int .i64 i9=_ by rw[K3])) (ah (aR (aj (ai F (ae bK (ah (a8 (aL (aR (aj (ai F (ae (dr (a:=0) (b:=1) F F (by omega)) (ak F (ah (aV ?_)))))))))))))))
 refine ek (fun(k:Nat) ρ O=>O=[av (some ⟨bk,o,none⟩) c 3 1 (ints (XS z k))]∧k≤z.length∧df [(0,(.slice (some ⟨bk,o,none⟩) (z.length+1) c)),(1,(.func (.func 147) #[] #[])),(4,nS),(5,vN k),(6,vN (k+1))] ρ) (fun k=>z.length-k) 0 ?_ ?_
 ·exact⟨F,bl _,(.of F)⟩
 rintro k ρ O ⟨rfl,hk,hH⟩
 obtain⟨gA,rfl⟩:=hH.elim
 clear hH
 have Ft:=ym hk
 refine aR (aj (ai F (ai F (ae (cQ cL) (ae cU (ah (aZ F (fun hc=>?_) (fun hc=>?_))))))))
 ·have Zl:k+1<z.length+1:=by omega
  have hkz:k<z.length:=by omega
  refine aL (aR (aV (aj ?_)))
  refine ai F (ai F (ae (dX (i:=(k+1)) cL bF F F (dT (mG 0)) (by omega) (by rw[ar,ym hk];omega)) (ae (cS ey F F (dT (mG 0)) (show(ints (XS z k))[k+1]? =some (vI z[k]) by rw[bi,Zk hkz];rfl)) ?_)))
  refine ak F (ah (aj (ai F (ai F ?_))))
  let eh:Lx.Item:=av (some ⟨bk,o,none⟩) c 3 1 (ints (XS z k))
  have DM:=(eH.under (A:=[]) (B:=[eh]) (O:=[eh]) (bU (first:=[]) (args:=[vI z[k]]) (fG:=[]) FW (UT base z[k])) (ck (aY _)))
  refine aq (eu DM F F ?_)
  clear DM
  rintro vr O' ⟨A1,rfl,rfl,rfl⟩
  refine ae iV (ah ?_)
  refine b_ ?_ (show Value.bool (!decide (z[k]<0))=_ by rw[am (by have:=hz _ (aN hkz);omega)];rfl)
  refine aj (ai F (ai F (ai F (ae (dX (i:=k) cL bF F F (dT (mG 0)) (by omega) (by rw[ar,ym hk];omega)) (aq (n7 (j:=k) (v:=vI z[k]) (vs:=[(vI z[k])]) (cs:=ints (XS z k)) 0 bF F F F F F (by simp) F (by rw[ar,ym hk];simp;omega) ?_))))))
  refine dM (O':=[av (some ⟨bk,o,none⟩) c 3 1 (ints (XS z (k+1)))]) (by rw[show eZ (ints (XS z k)) k [(vI z[k])]=ints (XS z (k+1))from(UU hkz)];exact ck (aY _)) ?_
  refine ah (bg (ai F (ae (dr (a:=k) (b:=1) F F (by omega)) (ak F (ah (bg (ai F (ae (dr (a:=(k+1)) (b:=1) F F (by omega)) (ak F (ah ?_))))))))))
  exact⟨k+1,by omega,F,by omega,(.of F)⟩
 have Zm: ¬k+1<z.length+1:=by omega
 refine cG ?_
 refine aj (ai F (ai F (ae (CY (lo:=k) cL bF F F (by omega) (by omega)) (aq (Mv (m:=z.length+1) (lo:=k) 0 cL bF F F F (by omega) (by omega) F ?_)))))
 refine ah (aj (ai F (ai F (ae (I7 (hi:=k) cL bF F F (by omega)) (ak F (ah (aM ?_)))))))
 refine aT (.slice (some ⟨bk,o,none⟩) k c) results145 F ?_
 have Xn:k=z.length:=by omega
 have hxt:(ints (XS z k)).take k=ints z:=by
  rw[Xn,←List.map_take];unfold XS;rw[List.take_length,List.take_append_of_le_length (aS _),List.take_length]
 rw[hxt]
 exact⟨au (fun n9:Nat=>Value.slice (some ⟨bk,o,none⟩) n9 c) Xn,F⟩
theorem QF (base:World) [dA prog base] (b:Option Addr) (c:Nat) (q:Bool×List Nat) (hb:q.2.length≤1000000):
  cj prog base 145 [.slice b (jH q).length c,(.func (.func 147) #[] #[])] [av b c 3 1 (ints (jH q))] (fun v O'=>v=.slice b q.2.length c∧O'=[av b c 3 1 (bW q.2)]):=by
 obtain⟨g,l⟩:=q
 have hz: ∀x∈l.map (fun y:Nat=>(y:Int)),0≤x:=fun x hx=>by obtain⟨y,_,rfl⟩:=List.mem_map.1 hx;omega
 cases g with
 |false=>
  have h9:=QD base b c (l.map fun y:Nat=>(y:Int)) hz (by rw[ar];exact hb)
  rw[ar,gr]at h9
  rw[show jH (false,l)=l.map (fun y:Nat=>(y:Int))from F,ar,gr]
  exact h9
 |true=>
  rw[show jH (true,l)= -1::l.map (fun y:Nat=>(y:Int))from F,bG,ar]
  intro w M hI
  have hO:(([av b c 3 1 (ints (-1::l.map fun y:Nat=>(y:Int)))]++M:List Lx.Item))[0]? =some (av b c 3 1 (ints (-1::l.map fun y:Nat=>(y:Int)))):=rfl
  cases b with
  |none=>exact absurd (hI.row hO).1 (by simp)
  |some a=>
   obtain⟨bk,o,sp⟩:=a
   have zI:sp=none:=(hI.row hO).1
   subst zI
   obtain⟨_,full,_,h1,_⟩:=hI.row hO
   have h9:=QE base bk o c (l.map fun y:Nat=>(y:Int)) hz (by rw[ar];exact hb) (by simpa using h1)
   rw[ar,gr]at h9
   exact h9 w M hI
theorem Mw (w:World) [dA prog w] (a:cV) (va:Valid a) (g:Bool) (l:List Nat) (sb:Option Addr) (c:Nat) (hS:Sl w sb (ints (jH (g,l)))) (hG:GS a (g,l)):
  cn prog 142 [(.slice sb ((jH (g,l)).length) c)] w fun v N=>v=str (Cy (g,l))∧N=[]:=by
 refine aE func142 F ntmps142 F ?_
 have hl4:l.length≤4096:=bo (eX (hG.UO.imp fun h=>Nat.ne_of_lt h) hG.lt) va.n4
 have hil:(jH (g,l)).length≤4097:=by unfold jH;split<;>simp<;>omega
 refine aj (ak F (ah (aj (ai F (aq (bm vi (aX fun w1 hI=>(haveI:=ef hI;Ht w1 sb c (jH (g,l)) (hI.sl hS) (yn va.n4 hG) (by omega))) ?_))))))
 rintro vr O' ⟨N,rfl,jb,jc,rfl,rfl⟩
 refine ae (CV (l:=Cy (g,l)) kC wh gH F (mG 0) F) (ak F (ah (aM (aB ?_))))
 refine aT (str (Cy (g,l))) results142 F ?_
 exact⟨[],Sub.z,F,F⟩
theorem Jt (w:World) [dA prog w] (a:cV) (ka:DK) (ha:At w a ka) (va:Valid a) (za:Nat) (mM:Sl w (aD za) (dC a ka)) (g:Bool) (l:List Nat) (sb:Option Addr) (c:Nat) (hS:Sl w sb (ints (jH (g,l)))) (hG:GS a (g,l)) (x:Nat) (hx:x<ez a):
  cn prog 143 [(.slice sb ((jH (g,l)).length) c),v8 x,(dJ (aD za) 0)] w fun v N=> ∃b' c' c2,v=.slice b' (ur a (g,l) x).2.length c'∧N=[av b' c2 3 1 (bW (ur a (g,l) x).2)]:=by
 refine aE func143 F ntmps143 F ?_
 have hl4:l.length≤4096:=bo (eX (hG.UO.imp fun h=>Nat.ne_of_lt h) hG.lt) va.n4
 have hil:(jH (g,l)).length≤4097:=by unfold jH;split<;>simp<;>omega
 have O7:=nP a l x
 have OW:(ga a l x).length≤4096:=bo (Mx _ _) va.n4
 refine aj (ak F (ah (aR ?_)))
 refine T.ds [] [(0,0),(1,0),(4,0),(2,1),(3,1),(5,2),(6,2)] (ck (cr _)) ?_
 refine aw F (eW (vs:=(dC a ka)) dj F bN F F (bu _) (aK mM) (fun j hj=>by rw[Nat.zero_add];exact ap hj)) (aw F aI (aw F aI ?_))
 refine cH F F (bm Me (aX fun w1 hI=>(haveI:=ef hI;Mf w1 sb c (jH (g,l)) (hI.sl hS) (by omega))) ?_)
 rintro vr O' ⟨N,rfl,nb,nc,rfl,rfl,hnc⟩
 refine⟨by exact Sub.z,?_⟩
 refine cH F F (bm UV (nG [0] (QF w nb nc (g,l) (by show l.length≤_;omega))) ?_)
 rintro vr O' ⟨A1,rfl,rfl,rfl⟩
 refine⟨by exact Sub.z,?_⟩
 refine cy F F (bm Mq (aX fun w1 hI=>(haveI:=ef hI;Sw w1 a ka (hI.rI ha) va nb nc l (hI.gV (mG 0)) hG.lt (by omega) x hx)) ?_)
 rintro vr O' ⟨N,rfl,tb,tc,rfl,rfl⟩
 refine cy F F (eK F F cx ?_)
 refine cA ?_
 refine aR (aj ?_)
 refine ae (eW (vs:=(dC a ka)) dj F bN F F (bu _) (aK mM) (fun j hj=>by rw[Nat.zero_add];exact ap hj)) (ai F ?_)
 refine aq (bm BO (aX fun w1 hI=>(haveI:=ef hI;xi w1 a ka (hI.rI ha) va tb tc (ga a l x) (hI.gV (mG 0)) O7.2 (by omega))) ?_)
 rintro vr O' ⟨N,rfl,rfl,rfl⟩
 refine ah (T.cond F (fun hc=>?_) (fun hc=>?_))
 ·refine bg ?_
  refine ai F (ae (cz dj F bF F F (aK mM) (by show _<4;decide)) (ae (cS ey F F (aK mM) (show _=some (Value.int .i64 ((a.start.toNat:Nat):Int)) by rw[cM va.s0];rfl)) (aq (bm Mo (nG [0] (Sy w a.next.length tb tc tc (ga a l x) a.start.toNat O7.1 O7.2 (ei va.toVal) (by omega))) ?_))))
  rintro vr O' ⟨A1,rfl,wb,wc,RX,rfl,rfl⟩
  refine ak F (ah (aj (ai F (ak F (ah (aM (aB ?_)))))))
  refine aT (.slice wb ((BK a.next.length (ga a l x) a.start.toNat).length) wc) results143 F ?_
  have e9:(ur a (g,l) x).2=BK a.next.length (ga a l x) a.start.toNat:=by show(if _ then _ else _)=_;rw[aJ hc]
  rw[e9]
  exact⟨[av wb RX 3 1 (bW (BK a.next.length (ga a l x) a.start.toNat))],(by exact Sub.k .z),wb,wc,RX,F,F⟩
 refine aL (aj (ai F (ak F (ah (aM (aB ?_))))))
 refine aT (.slice tb ((ga a l x).length) tc) results143 F ?_
 have e9:(ur a (g,l) x).2=ga a l x:=by show(if _ then _ else _)=_;rw[aA (by rw[hc];simp)]
 rw[e9]
 exact⟨[av tb tc 3 1 (bW (ga a l x))],(by exact Sub.k .z),tb,tc,tc,F,F⟩
theorem My (w:World) [dA prog w] (a:cV) (ka:DK) (ha:At w a ka) (va:Valid a) (za:Nat) (mM:Sl w (aD za) (dC a ka)) (l:List Nat) (sb:Option Addr) (c:Nat) (hS:Sl w sb (ints (jH (true,l)))) (hG:GS a (true,l)):
  cn prog 150 [(.slice sb (l.length+1) c),(dJ (aD za) 0)] w fun v N=>v=.bool (QG a (true,l))∧N=[]:=by
 refine aE func150 F ntmps150 F ?_
 have hl4:l.length≤4096:=bo (eX (hG.UO.imp fun h=>Nat.ne_of_lt h) hG.lt) va.n4
 rw[show jH (true,l)= -1::l.map (fun y:Nat=>(y:Int))from F]at hS
 refine aj (ak F (ah (aj (ai F (ae (cQ cL) (ae (aC ij (ax (by omega))) (ai F (aF aI (aF (dX (i:=0) cL bF F F (aK hS) (by omega) (by simp)) (aF (cS ey F F (aK hS) F) (aF (aC cU (ax (by decide))) ?_)))))))))))
 refine ae cm (ai F (aQ (aQ (aQ (ae cm (ak F (ah (aM (aB ?_)))))))))
 refine aT (.bool true) results150 F ?_
 exact⟨[],Sub.z,F,F⟩
theorem Mz (w:World) [dA prog w] (a:cV) (ka:DK) (ha:At w a ka) (va:Valid a) (za:Nat) (mM:Sl w (aD za) (dC a ka)) (l:List Nat) (sb:Option Addr) (c:Nat) (hS:Sl w sb (ints (jH (false,l)))) (hG:GS a (false,l)):
  cn prog 150 [(.slice sb l.length c),(dJ (aD za) 0)] w fun v N=>v=.bool (QG a (false,l))∧N=[]:=by
 refine aE func150 F ntmps150 F ?_
 have hl4:l.length≤4096:=bo (eX (hG.UO.imp fun h=>Nat.ne_of_lt h) hG.lt) va.n4
 rw[show ints (jH (false,l))=bW l by rw[←gr];rfl]at hS
 refine aj (ak F (ah (aj (ai F (ae (cQ cL) ?_)))))
 by_cases Kw:((l.length:Nat):Int)>0
 ·refine ae (aC ij (ax Kw)) ?_
  refine ai F (aF aI (aF (dX (i:=0) cL bF F F (aK hS) (by omega) (by rw[ar];omega)) (aF (cS ey F F (aK hS) (iw (show 0<l.length by omega))) (aF (aC cU (am (by omega))) (ae cm (ai F ?_))))))
  refine aF (eW (vs:=(dC a ka)) dj F bN F F (bu _) (aK mM) (fun j hj=>by rw[Nat.zero_add];exact ap hj)) ?_
  refine aF aI ?_
  refine gk F F F (bm BO (aX fun w1 hI=>(haveI:=ef hI;xi w1 a ka (hI.rI ha) va sb c l (hI.sl hS) hG.lt (by omega))) ?_)
  rintro vr O' ⟨N,rfl,rfl,rfl⟩
  refine ae bX (ak F (ah (aM (aB ?_))))
  refine aT (.bool (l.any (dF a))) results150 F ?_
  exact⟨[],Sub.z,F,F⟩
 refine ae (aC ij (am Kw)) (ai F (aQ (aQ (aQ (aQ (ae bX (ai F ?_)))))))
 refine aF (eW (vs:=(dC a ka)) dj F bN F F (bu _) (aK mM) (fun j hj=>by rw[Nat.zero_add];exact ap hj)) ?_
 refine aF aI ?_
 refine gk F F F (bm BO (aX fun w1 hI=>(haveI:=ef hI;xi w1 a ka (hI.rI ha) va sb c l (hI.sl hS) hG.lt (by omega))) ?_)
 rintro vr O' ⟨N,rfl,rfl,rfl⟩
 refine ae bX (ak F (ah (aM (aB ?_))))
 refine aT (.bool (l.any (dF a))) results150 F ?_
 exact⟨[],Sub.z,F,F⟩
theorem MC (w:World) [dA prog w] (a:cV) (ka:DK) (ha:At w a ka) (va:Valid a) (za:Nat) (mM:Sl w (aD za) (dC a ka)) (g:Bool) (l:List Nat) (sb:Option Addr) (c:Nat) (hS:Sl w sb (ints (jH (g,l)))) (hG:GS a (g,l)):
  cn prog 150 [(.slice sb ((jH (g,l)).length) c),(dJ (aD za) 0)] w fun v N=>v=.bool (QG a (g,l))∧N=[]:=by
 cases g with
 |true=>
  rw[show(jH (true,l)).length=l.length+1 by rw[show jH (true,l)= -1::l.map (fun y:Nat=>(y:Int))from F];simp]
  exact My w a ka ha va za mM l sb c hS hG
 |false=>
  rw[show(jH (false,l)).length=l.length by rw[show jH (false,l)=l.map (fun y:Nat=>(y:Int))from F];simp]
  exact Mz w a ka ha va za mM l sb c hS hG
def MD (a:cV) (w:World) (k:Key) (r:SR):Prop:= ∃g l sb cc,GS a (g,l)∧k=Cy (g,l)∧r.a=.slice sb (jH (g,l)).length cc∧r.b=.bool false∧((∃c2,r.lx=[av sb c2 3 1 (ints (jH (g,l)))])∨(r.lx=[]∧Sl w sb (ints (jH (g,l)))))
theorem MD.sl {w w1:World} {sb:Option Addr} {cs:List Value} {lx:List Lx.Item} (hI:Inv w [] w1) (h:(∃c2,lx=[av sb c2 3 1 cs])∨(lx=[]∧Sl w sb cs)) (fO: ∀it∈lx,it.P w1):Sl w1 sb cs:=by
 rcases h with⟨c2,he⟩|⟨_,h⟩
 ·exact rowP.sl (fO (av sb c2 3 1 cs) (by rw[he];simp))
 ·exact hI.sl h
theorem MD.one {a:cV} {w:World} {k:Key} {r:SR} (h:MD a w k r):fF r.a=true∧fF r.b=true:=by
 obtain⟨g,l,sb,cc,_,_,h1,h2,_⟩:=h
 rw[h1,h2];exact⟨F,F⟩
set_option maxRecDepth 20000 in
theorem UW (w:World) [dA prog w] (a:cV) (ka:DK) (ha:At w a ka) (va:Valid a) (za:Nat) (mM:Sl w (aD za) (dC a ka)) (w1:World) [dA prog w1] (hI:Inv w [] w1) (k:Key) (r:SR) (hR:MD a w k r) (fO: ∀it∈r.lx,it.P w1):eH prog w1 (.func (.func 142) #[] #[]) [r.a] [] (fun v O'=>v=str k∧O'=[]):=by
 obtain⟨g,l,sb,cc,hG,rfl,e1,e2,hm⟩:=hR
 have hS:=MD.sl hI hm fO
 rw[e1]
 exact bU (first:=[]) (args:=[.slice sb (jH (g,l)).length cc]) (fG:=[]) UX (Mw w1 a va g l sb cc hS hG)
set_option maxRecDepth 20000 in
theorem UY (w:World) [dA prog w] (a:cV) (ka:DK) (ha:At w a ka) (va:Valid a) (za:Nat) (mM:Sl w (aD za) (dC a ka)) (w1:World) [dA prog w1] (hI:Inv w [] w1) (k:Key) (r:SR) (hR:MD a w k r) (fO: ∀it∈r.lx,it.P w1) (x:Nat) (hx:x<ez a):eH prog w1 (.func (.func 143) #[] #[(dJ (aD za) 0)]) [r.a,.int .u8 (x:Int)] [] (fun v N=> ∃r',v=r'.a∧N=r'.lx∧MD a w (BP (GS a) Cy (ur a) k x) r'):=by
 obtain⟨g,l,sb,cc,hG,rfl,e1,e2,hm⟩:=hR
 have hS:=MD.sl hI hm fO
 rw[e1]
 refine(bU (first:=[]) (args:=[.slice sb (jH (g,l)).length cc,.int .u8 (x:Int)]) (fG:=[(dJ (aD za) 0)]) UZ (Jt w1 a ka (hI.rI ha) va za (hI.sl mM) g l sb cc hS hG x hx)).mono ?_
 rintro v O' ⟨b',c',c2,rfl,rfl⟩
 have e3:jH (ur a (g,l) x)=(ur a (g,l) x).2.map fun y:Nat=>(y:Int):=rfl
 exact⟨⟨.slice b' (ur a (g,l) x).2.length c',.bool false,[av b' c2 3 1 (bW (ur a (g,l) x).2)]⟩,F,F,false,(ur a (g,l) x).2,b',c',GS.next x,sV (BT va) hG hx,by show _=Value.slice b' (jH (ur a (g,l) x)).length c';rw[e3,ar],F,.inl ⟨c2,by show _=[av b' c2 3 1 (ints (jH (ur a (g,l) x)))];rw[e3,gr]⟩⟩
set_option maxRecDepth 20000 in
theorem U0 (w:World) [dA prog w] (a:cV) (ka:DK) (ha:At w a ka) (va:Valid a) (za:Nat) (mM:Sl w (aD za) (dC a ka)) (w1:World) [dA prog w1] (hI:Inv w [] w1) (k:Key) (r:SR) (hR:MD a w k r) (fO: ∀it∈r.lx,it.P w1):eH prog w1 (.func (.func 150) #[] #[(dJ (aD za) 0)]) [r.a] [] (fun v O'=>v=.bool (Js (GS a) Cy (QG a) k)∧O'=[]):=by
 obtain⟨g,l,sb,cc,hG,rfl,e1,e2,hm⟩:=hR
 have hS:=MD.sl hI hm fO
 rw[e1]
 rw[BQ (BT va) hG]
 exact bU (first:=[]) (args:=[.slice sb (jH (g,l)).length cc]) (fG:=[(dJ (aD za) 0)]) U1 (MC w1 a ka (hI.rI ha) va za (hI.sl mM) g l sb cc hS hG)
theorem Zn (w:World) [dA prog w] (cb:Nat) (eb:Option Addr) (en ec vs B:Nat) (e7:Sl w (aD cb) [.slice eb en ec,vI (vs:Int),vI (B:Int)]) (gz:vs≤6) (iY:1≤B) (hB:B≤4096) (a:cV) (ka:DK) (ha:At w a ka) (va:Valid a) (Zi:a.vars=(vs:Int)):
  dK prog w (.iface 163 (.agg #[])) 105 [(dJ (aD cb) 0),dV a ka] [] (fun v N=> ∃M k',v=dV M k'∧N=[dI 56 4 3 M k']∧fQ (vs:Int) B M (qQ (iH a))∧FX a (ez a) B) (¬FX a (ez a) B):=by
 refine dS func105 F ntmps105 F ?_
 refine aj (aq (dE (cs:=(dC a ka)) (fun z1=>?_)))
 refine aq (bs bN (fun z2=>?_))
 refine ah (aj (ai F (ae (bt dj bF) (ae (bL (bq 1 ey) (v':=vI ((a.start.toNat:Nat):Int)) (show Value.int .i64 a.start=_ by rw[cM va.s0])) (aq (cK (m:=2) (parts:=[(0,.const (vI (-1))),(1,.tmp 7)]) (cs:=[vI (-1),vI ((a.start.toNat:Nat):Int)]) cL bF (by decide) (by kernel_rfl) F (fun z3=>?_)))))))
 refine ae (dx) (ae (dx) ?_)
 have DN:=fun(w1:World) (hI:Inv w [av (aD z3) 2 3 1 [vI (-1),vI ((a.start.toNat:Nat):Int)],oI z2 25 [(vI 0),(vI 0),nS,nS],oI z1 25 (dC a ka)] w1)=>(haveI:=ef hI;FU w1 cb eb en ec vs B (ez a) (hI.sl e7) gz (by unfold ez;rw[Zi];rfl) iY hB (BP (GS a) Cy (ur a)) (Js (GS a) Cy (QG a)) (Cy (FY a)) (MD a w1) ⟨.slice (aD z3) 2 2,.bool false,[]⟩ (.func (.func 142) #[] #[]) (.func (.func 143) #[] #[(dJ (aD z1) 0)]) (.func (.func 150) #[] #[(dJ (aD z1) 0)]) ⟨true,[a.start.toNat],(aD z3),2,GS.start va.toVal,F,F,F,.inr ⟨F,hI.gV (mG 0)⟩⟩ F (fun k r h=>h.one) (fun w2 k r kY hR fO=>haveI:=ef kY;UW w1 a ka (hI.rI ha) va z1 (hI.gS (mG 2)) w2 kY k r hR fO) (fun w2 k r x kY hR fO hx=>haveI:=ef kY;UY w1 a ka (hI.rI ha) va z1 (hI.gS (mG 2)) w2 kY k r hR fO x hx) (fun w2 k r kY hR fO=>haveI:=ef kY;U0 w1 a ka (hI.rI ha) va z1 (hI.gS (mG 2)) w2 kY k r hR fO))
 refine eJ F (e8 U2 (dK.pure DN) F (fun z _=>⟨F,z⟩) ?_)
 clear DN
 rintro vr O' ⟨N,rfl,M,k9,rfl,rfl,hM,Mu⟩
 refine aq (cq (vs:=(dC M k9)) 2 bN ?_)
 refine ah (aM (aB ?_))
 refine cN (i:=2) results105 dj F bN F F F ?_
 exact⟨[dI 56 4 3 M k9],(by exact Sub.k .z),M,k9,F,F,⟨⟨hM.valid,hM.len,hM.vars,fun u hu=>by rw[hM.iH u hu];exact AL va (fun x hx=>by have:=hu x hx;unfold ez;rw[Zi];exact this)⟩,hM.min⟩,Mu⟩
def Ms (a b:cV) (w:World) (k:Key) (r:SR):Prop:= ∃s l sb cc,GC a b (s,l)∧k=AK (s,l)∧r.a=vI (s:Int)∧r.b=.slice sb l.length cc∧((∃c2,r.lx=[av sb c2 3 1 (bW l)])∨(r.lx=[]∧Sl w sb (bW l)))
theorem rowAt {w1:World} {b:Option Addr} {c:Nat} {T:TypeId} {cs:List Value} {lx:List Lx.Item} (he:lx=[av b c T 1 cs]) (h: ∀it∈lx,it.P w1):Sl w1 b cs:=rowP.sl (h (av b c T 1 cs) (by rw[he];simp))
theorem Ms.sl {a b:cV} {w w1:World} {sb:Option Addr} {l:List Nat} {lx:List Lx.Item} (hI:Inv w [] w1) (h:(∃c2,lx=[av sb c2 3 1 (bW l)])∨(lx=[]∧Sl w sb (bW l))) (fO: ∀it∈lx,it.P w1):Sl w1 sb (bW l):=by
 rcases h with⟨c2,he⟩|⟨_,h⟩
 ·exact rowAt he fO
 ·exact hI.sl h
theorem Ms.one {a b:cV} {w:World} {k:Key} {r:SR} (h:Ms a b w k r):fF r.a=true∧fF r.b=true:=by
 obtain⟨s,l,sb,cc,_,_,h1,h2,_⟩:=h
 rw[h1,h2];exact⟨F,F⟩
set_option maxRecDepth 20000 in
theorem Zf (w:World) [dA prog w] (a:cV) (ka:DK) (ha:At w a ka) (va:Valid a) (za:Nat) (mM:Sl w (aD za) (dC a ka)) (b:cV) (kb:DK) (hb:At w b kb) (vb:Valid b) (zb:Nat) (zy:Sl w (aD zb) (dC b kb)) (zU:a.vars=b.vars) (zf:Nat) (Ze:Sl w (aD zf) [(.func (.func 153) #[] #[(dJ (aD za) 0),(dJ (aD zb) 0)])]) (w1:World) [dA prog w1] (hI:Inv w [] w1) (k:Key) (r:SR) (hR:Ms a b w k r) (fO: ∀it∈r.lx,it.P w1):eH prog w1 (.func (.func 155) #[] #[]) [.agg #[r.a,r.b]] [] (fun v O'=>v=str k∧O'=[]):=by
 obtain⟨s,l,sb,cc,hG,rfl,e1,e2,hm⟩:=hR
 have hS:=Ms.sl (a:=a) (b:=b) hI hm fO
 have Jr:=hG.len vb.n4
 rw[e1,e2]
 exact bU (first:=[]) (args:=[.agg #[vI (s:Int),.slice sb l.length cc]]) (fG:=[]) UM (QA w1 s (by have:=hG.s;have:=va.n4;omega) sb cc l hS (fun t ht=>by have:=hG.lt t ht;have:=vb.n4;omega) Jr)
set_option maxRecDepth 20000 in
theorem Zg (w:World) [dA prog w] (a:cV) (ka:DK) (ha:At w a ka) (va:Valid a) (za:Nat) (mM:Sl w (aD za) (dC a ka)) (b:cV) (kb:DK) (hb:At w b kb) (vb:Valid b) (zb:Nat) (zy:Sl w (aD zb) (dC b kb)) (zU:a.vars=b.vars) (zf:Nat) (Ze:Sl w (aD zf) [(.func (.func 153) #[] #[(dJ (aD za) 0),(dJ (aD zb) 0)])]) (w1:World) [dA prog w1] (hI:Inv w [] w1) (k:Key) (r:SR) (hR:Ms a b w k r) (fO: ∀it∈r.lx,it.P w1) (x:Nat) (hx:x<ez a):eH prog w1 (.func (.func 156) #[] #[(dJ (aD zf) 0),(dJ (aD za) 0),(dJ (aD zb) 0)]) [.agg #[r.a,r.b],.int .u8 (x:Int)] [] (fun v N=> ∃r',v=.agg #[r'.a,r'.b]∧N=r'.lx∧Ms a b w (BP (GC a b) AK (Ky a b) k x) r'):=by
 obtain⟨s,l,sb,cc,hG,rfl,e1,e2,hm⟩:=hR
 have hS:=Ms.sl (a:=a) (b:=b) hI hm fO
 have Jr:=hG.len vb.n4
 rw[e1,e2]
 refine(bU (first:=[]) (args:=[.agg #[vI (s:Int),.slice sb l.length cc],.int .u8 (x:Int)]) (fG:=[(dJ (aD zf) 0),(dJ (aD za) 0),(dJ (aD zb) 0)]) UN (Mp w1 a ka (hI.rI ha) va za (hI.sl mM) b kb (hI.rI hb) vb zb (hI.sl zy) zU zf (hI.sl Ze) s hG.s sb cc l hS hG.UO hG.lt x hx)).mono ?_
 rintro v O' ⟨b',c',c2,rfl,rfl⟩
 exact⟨⟨vI ((eS a s x:Nat):Int),.slice b' (wl a b (eS a s x) (ga b l x)).length c',[av b' c2 3 1 (bW (wl a b (eS a s x) (ga b l x)))]⟩,F,F,eS a s x,_,b',c',hG.next va.toVal vb.toVal hx,sV (Hv va vb) hG hx,F,F,.inl ⟨c2,F⟩⟩
set_option maxRecDepth 20000 in
theorem Zh (w:World) [dA prog w] (a:cV) (ka:DK) (ha:At w a ka) (va:Valid a) (za:Nat) (mM:Sl w (aD za) (dC a ka)) (b:cV) (kb:DK) (hb:At w b kb) (vb:Valid b) (zb:Nat) (zy:Sl w (aD zb) (dC b kb)) (zU:a.vars=b.vars) (zf:Nat) (Ze:Sl w (aD zf) [(.func (.func 153) #[] #[(dJ (aD za) 0),(dJ (aD zb) 0)])]) (w1:World) [dA prog w1] (hI:Inv w [] w1) (k:Key) (r:SR) (hR:Ms a b w k r) (fO: ∀it∈r.lx,it.P w1):eH prog w1 (.func (.func 157) #[] #[(dJ (aD zb) 0)]) [.agg #[r.a,r.b]] [] (fun v O'=>v=.bool (Js (GC a b) AK (UL b) k)∧O'=[]):=by
 obtain⟨s,l,sb,cc,hG,rfl,e1,e2,hm⟩:=hR
 have hS:=Ms.sl (a:=a) (b:=b) hI hm fO
 have Jr:=hG.len vb.n4
 rw[e1,e2]
 rw[BQ (Hv va vb) hG]
 exact bU (first:=[]) (args:=[.agg #[vI (s:Int),.slice sb l.length cc]]) (fG:=[(dJ (aD zb) 0)]) UP (QB w1 b kb (hI.rI hb) vb zb (hI.sl zy) s sb cc l hS hG.lt Jr)
set_option maxRecDepth 20000 in
theorem UQ (w:World) [dA prog w] (a:cV) (ka:DK) (ha:At w a ka) (va:Valid a) (za:Nat) (mM:Sl w (aD za) (dC a ka)) (b:cV) (kb:DK) (hb:At w b kb) (vb:Valid b) (zb:Nat) (zy:Sl w (aD zb) (dC b kb)):eH prog w (.func (.func 153) #[] #[(dJ (aD za) 0),(dJ (aD zb) 0)]) [.agg #[vI a.start,nS]] [] (fun v N=> ∃sb sc O8,v=.agg #[vI a.start,.slice sb (wl a b a.start.toNat []).length sc]∧N=[av sb O8 3 1 (bW (wl a b a.start.toNat []))]):=by
 refine bU (first:=[]) (args:=[.agg #[vI a.start,nS]]) (fG:=[(dJ (aD za) 0),(dJ (aD zb) 0)]) Mr (cj.fq 3 1 ?_)
 have h9:=Mn w a ka ha va za mM b kb hb vb zb zy a.start.toNat (ei va.toVal) none 0 0 [] List.Pairwise.nil (by simp)
 rw[cM va.s0]at h9
 exact h9
theorem UR (w:World) [dA prog w] (cb:Nat) (eb:Option Addr) (en ec vs B:Nat) (e7:Sl w (aD cb) [.slice eb en ec,vI (vs:Int),vI (B:Int)]) (gz:vs≤6) (iY:1≤B) (hB:B≤4096) (a:cV) (ka:DK) (ha:At w a ka) (va:Valid a) (Zi:a.vars=(vs:Int)) (b:cV) (kb:DK) (hb:At w b kb) (vb:Valid b) (zU:a.vars=b.vars):
  dK prog w (.iface 163 (.agg #[])) 108 [(dJ (aD cb) 0),dV a ka,dV b kb] [] (fun v N=> ∃M k',v=dV M k'∧N=[dI 56 4 3 M k']∧fQ (vs:Int) B M (iA (iH a) (iH b))∧BS a b (ez a) B) (¬BS a b (ez a) B):=by
 refine dS func108 F ntmps108 F ?_
 refine aj (aq (dE (cs:=(dC a ka)) (fun z1=>?_)))
 refine aq (dE (cs:=(dC b kb)) (fun z2=>?_))
 refine aq (bs bN (fun z3=>?_))
 refine ah (aj (ae (dx) (aq (bs Mt (fun z4=>?_)))))
 let eh:Value:=(.func (.func 153) #[] #[(.pointer (aD z1)),(.pointer (aD z2))])
 refine aq (cq (vs:=[eh]) 0 Mt ?_)
 refine ah (aj (ai F (ae (bq 0 SC) (ae (bt dj bF) (ae (bq 3 ey) (ae (cT (cs:=[(vI a.start),nS]) Hu l_ (by kernel_rfl)) ?_))))))
 have DJ:=(cW (O:=[oI z4 209 [eh],oI z3 25 [(vI 0),(vI 0),nS,nS],oI z2 25 (dC b kb),oI z1 25 (dC a ka)]) fun w1 hI=>haveI:=ef hI;(haveI:=ef hI;UQ w1 a ka (hI.rI ha) va z1 (hI.gS (mG 3)) b kb (hI.rI hb) vb z2 (hI.gS (mG 2))))
 refine aq (eu DJ F F ?_)
 clear DJ
 rintro vr O' ⟨N,rfl,sb,sc,O8,rfl,rfl⟩
 refine ae (dx) (ae (dx) ?_)
 have Zj:=fun(w1:World) (hI:Inv w [av sb O8 3 1 (bW (wl a b a.start.toNat [])),oI z4 209 [eh],oI z3 25 [(vI 0),(vI 0),nS,nS],oI z2 25 (dC b kb),oI z1 25 (dC a ka)] w1)=>(haveI:=ef hI;DI w1 cb eb en ec vs B (ez a) (hI.sl e7) gz (by unfold ez;rw[Zi];rfl) iY hB (BP (GC a b) AK (Ky a b)) (Js (GC a b) AK (UL b)) (AK (QC a b)) (Ms a b w1) ⟨vI a.start,.slice sb (wl a b a.start.toNat []).length sc,[]⟩ (.func (.func 155) #[] #[]) (.func (.func 156) #[] #[(dJ (aD z4) 0),(dJ (aD z1) 0),(dJ (aD z2) 0)]) (.func (.func 157) #[] #[(dJ (aD z2) 0)]) ⟨a.start.toNat,wl a b a.start.toNat [],sb,sc,GC.start va.toVal vb.toVal,F,(show Value.int .i64 a.start=_ by rw[cM va.s0]),F,.inr ⟨F,hI.gV (mG 0)⟩⟩ F (fun k r h=>h.one) (fun w2 k r kY hR fO=>haveI:=ef kY;Zf w1 a ka (hI.rI ha) va z1 (hI.gS (mG 4)) b kb (hI.rI hb) vb z2 (hI.gS (mG 3)) zU z4 (hI.gS (mG 1)) w2 kY k r hR fO) (fun w2 k r x kY hR fO hx=>haveI:=ef kY;Zg w1 a ka (hI.rI ha) va z1 (hI.gS (mG 4)) b kb (hI.rI hb) vb z2 (hI.gS (mG 3)) zU z4 (hI.gS (mG 1)) w2 kY k r hR fO x hx) (fun w2 k r kY hR fO=>haveI:=ef kY;Zh w1 a ka (hI.rI ha) va z1 (hI.gS (mG 4)) b kb (hI.rI hb) vb z2 (hI.gS (mG 3)) zU z4 (hI.gS (mG 1)) w2 kY k r hR fO))
 refine eJ F (e8 US (dK.pure Zj) F (fun z _=>⟨F,z⟩) ?_)
 clear Zj
 rintro vr O' ⟨N,rfl,M,k9,rfl,rfl,hM,Mu⟩
 refine aq (cq (vs:=(dC M k9)) 3 bN ?_)
 refine ah (aM (aB ?_))
 refine cN (i:=3) results108 dj F bN F F F ?_
 exact⟨[dI 56 4 3 M k9],(by exact Sub.k .z),M,k9,F,F,⟨⟨hM.valid,hM.len,hM.vars,fun u hu=>by rw[hM.iH u hu];exact DL va vb zU (fun x hx=>by have:=hu x hx;unfold ez;rw[Zi];exact this)⟩,hM.min⟩,Mu⟩
abbrev tE (vs B:Nat) (t:Rx) (v:Value) (N:List Lx.Item):Prop:= ∃M k',v=dV M k'∧N=[dI 56 4 3 M k']∧fQ (vs:Int) B M (fx t)∧kv vs t B
theorem F0 (w:World) [dA prog w] (cb:Nat) (eb:Option Addr) (en ec vs B:Nat) (e7:Sl w (aD cb) [.slice eb en ec,vI (vs:Int),vI (B:Int)]) (gz:vs≤6) (iY:1≤B) (hB:B≤4096) (e:List eC) (hE:Sl w eb (bQ e)) (kw:en=e.length) (i:Nat) (hp:e[i]? =some ⟨2,0,0,0,0⟩):
  dK prog w (.iface 163 (.agg #[])) 72 [(dJ (aD cb) 0),vN i] [] (tE vs B Rx.empty) (¬kv vs Rx.empty B):=by
 refine dS func72 F ntmps72 F ?_
 obtain⟨hi,_⟩:=iP hp
 refine aj (aq (bs bN (fun z1=>?_)))
 refine ah (aj (ai F (ae a_ (ae (cz lM F il F F (aK e7) (by first|omega|(simp;done)|(simp;omega)|(simp_all;done)|(simp_all;omega))) (ae (cS dR F F (aK e7) F) (ai F (ae (eA (i:=i) dR cJ F F (aK hE) (by omega) (by rw[cB];omega)) (ae (eW (vs:=[v8 2,v8 0,v8 0,vI 0,vI 0]) dt F cJ F F (bu _) (aK hE) (fW hp)) (aq (bs cJ (fun z2=>?_)))))))))))
 refine aq (cq (vs:=[v8 2,v8 0,v8 0,vI 0,vI 0]) 0 cJ ?_)
 refine ah (aR (aj (ae (bt dt eD) (ae (bq 0 gH) (ah (aV (aj (ae bK (ae (aC cx (am (by decide))) (ah (a8 (aj (ae bK (ae (aC cx (ax (by decide))) ?_))))))))))))))
 refine ah ?_
 refine b_ ?_
 refine aj (ai F (ae (eN 0 dt cJ) ?_))
 have DM:=fun(w1:World) (hI:Inv w [oI z2 72 [v8 2,v8 0,v8 0,vI 0,vI 0],oI z1 25 [(vI 0),(vI 0),nS,nS]] w1)=>(haveI:=ef hI;ME w1 cb eb en ec vs B (hI.sl e7) gz iY hB 0 2 0 0 0 0 (by omega) (by omega) (by omega))
 refine eJ F (e8 MG (dK.pure DM) F (fun z _=>⟨F,z⟩) ?_)
 clear DM
 rintro vr O' ⟨N,rfl,M,kr,rfl,rfl,F1,Fc⟩
 refine aq (cq (vs:=(dC M kr)) 2 bN ?_)
 refine ah (aM (aB ?_))
 refine cN (i:=2) results72 dj F bN F F F ?_
 exact⟨[dI 56 4 3 M kr],(by exact Sub.k .z),M,kr,F,F,F1,Fc⟩
theorem DQ (w:World) [dA prog w] (cb:Nat) (eb:Option Addr) (en ec vs B:Nat) (e7:Sl w (aD cb) [.slice eb en ec,vI (vs:Int),vI (B:Int)]) (gz:vs≤6) (iY:1≤B) (hB:B≤4096) (e:List eC) (hE:Sl w eb (bQ e)) (kw:en=e.length) (i:Nat) (p n:Nat) (PU:p<256) (mw:n<256) (hp:e[i]? =some ⟨3,p,n,0,0⟩):
  dK prog w (.iface 163 (.agg #[])) 72 [(dJ (aD cb) 0),vN i] [] (tE vs B (.letter p n)) (¬kv vs (.letter p n) B):=by
 refine dS func72 F ntmps72 F ?_
 obtain⟨hi,_⟩:=iP hp
 refine aj (aq (bs bN (fun z1=>?_)))
 refine ah (aj (ai F (ae a_ (ae (cz lM F il F F (aK e7) (by first|omega|(simp;done)|(simp;omega)|(simp_all;done)|(simp_all;omega))) (ae (cS dR F F (aK e7) F) (ai F (ae (eA (i:=i) dR cJ F F (aK hE) (by omega) (by rw[cB];omega)) (ae (eW (vs:=[v8 3,v8 p,v8 n,vI 0,vI 0]) dt F cJ F F (bu _) (aK hE) (fW hp)) (aq (bs cJ (fun z2=>?_)))))))))))
 refine aq (cq (vs:=[v8 3,v8 p,v8 n,vI 0,vI 0]) 0 cJ ?_)
 refine ah (aR (aj (ae (bt dt eD) (ae (bq 0 gH) (ah (aV (aj (ae bK (ae (aC cx (am (by decide))) (ah (a8 (aj (ae bK (ae (aC cx (am (by decide))) ?_))))))))))))))
 refine ah (a8 (aj (ae bK (ae (aC cx (ax (by decide))) (ah ?_)))))
 refine b_ ?_
 refine aj (ai F (ae (eN 0 dt cJ) ?_))
 have ya:=fun(w1:World) (hI:Inv w [oI z2 72 [v8 3,v8 p,v8 n,vI 0,vI 0],oI z1 25 [(vI 0),(vI 0),nS,nS]] w1)=>(haveI:=ef hI;ME w1 cb eb en ec vs B (hI.sl e7) gz iY hB 1 3 p n 0 0 (by omega) (by omega) (by omega))
 refine eJ F (e8 MG (dK.pure ya) F (fun z _=>⟨F,z⟩) ?_)
 clear ya
 rintro vr O' ⟨N,rfl,M,kr,rfl,rfl,F1,Fc⟩
 refine aq (cq (vs:=(dC M kr)) 2 bN ?_)
 refine ah (aM (aB ?_))
 refine cN (i:=2) results72 dj F bN F F F ?_
 exact⟨[dI 56 4 3 M kr],(by exact Sub.k .z),M,kr,F,F,F1,Fc⟩
theorem Jw (w:World) [dA prog w] (cb:Nat) (eb:Option Addr) (en ec vs B:Nat) (e7:Sl w (aD cb) [.slice eb en ec,vI (vs:Int),vI (B:Int)]) (gz:vs≤6) (iY:1≤B) (hB:B≤4096) (e:List eC) (hE:Sl w eb (bQ e)) (kw:en=e.length) (i:Nat) (a:Rx) (j:Nat) (hp:e[i]? =some ⟨8,0,0,(j:Int),0⟩) (QH: ∀(w1:World) [dA prog w1],Inv w [] w1→dK prog w1 (.iface 163 (.agg #[])) 72 [(dJ (aD cb) 0),vN j] [] (tE vs B a) (¬kv vs a B)):
  dK prog w (.iface 163 (.agg #[])) 72 [(dJ (aD cb) 0),vN i] [] (tE vs B (.star a)) (¬kv vs (.star a) B):=by
 refine dS func72 F ntmps72 F ?_
 obtain⟨hi,_⟩:=iP hp
 refine aj (aq (bs bN (fun z1=>?_)))
 refine ah (aj (ai F (ae a_ (ae (cz lM F il F F (aK e7) (by first|omega|(simp;done)|(simp;omega)|(simp_all;done)|(simp_all;omega))) (ae (cS dR F F (aK e7) F) (ai F (ae (eA (i:=i) dR cJ F F (aK hE) (by omega) (by rw[cB];omega)) (ae (eW (vs:=[v8 8,v8 0,v8 0,vN j,vI 0]) dt F cJ F F (bu _) (aK hE) (fW hp)) (aq (bs cJ (fun z2=>?_)))))))))))
 refine aq (cq (vs:=[v8 8,v8 0,v8 0,vN j,vI 0]) 0 cJ ?_)
 refine ah (aR (aj (ae (bt dt eD) (ae (bq 0 gH) (ah (aV (aj (ae bK (ae (aC cx (am (by decide))) (ah (a8 (aj (ae bK (ae (aC cx (am (by decide))) ?_))))))))))))))
 refine ah (a8 (aj (ae bK (ae (aC cx (am (by decide))) (ah (a8 (aj (ae bK (ae (aC cx (am (by decide))) ?_)))))))))
 refine ah (a8 (aj (ae bK (ae (aC cx (ax (by decide))) (ah ?_)))))
 refine b_ ?_
 refine aj (ai F (ai F (ae (bt dt bF) (ae (bq 0 ey) ?_))))
 have LQ:=fun(w1:World) (hI:Inv w [oI z2 72 [v8 8,v8 0,v8 0,vN j,vI 0],oI z1 25 [(vI 0),(vI 0),nS,nS]] w1)=>(haveI:=ef hI;QH w1 hI.lK)
 refine eJ F (e8 qa (dK.pure LQ) F (fun z _=>⟨F,fun h9=>z h9.1⟩) ?_)
 clear LQ
 rintro vr O' ⟨N,rfl,MA,kA,rfl,rfl,qZ,Jx⟩
 have AM:=gY qZ hB
 have MH:=fun(w1:World) (hI:Inv w [dI 56 4 3 MA kA,oI z2 72 [v8 8,v8 0,v8 0,vN j,vI 0],oI z1 25 [(vI 0),(vI 0),nS,nS]] w1)=>(haveI:=ef hI;Zn w1 cb eb en ec vs B (hI.sl e7) gz iY hB MA kA (hI.at (k:=kA) (mG 0)) qZ.valid qZ.vars)
 refine eJ F (e8 U3 (dK.pure MH) F (fun z _=>⟨F,fun h9=>z (by rw[AM];exact h9.2)⟩) ?_)
 clear MH
 rintro vr O' ⟨N,rfl,M,kr,rfl,rfl,U4,U5⟩
 have F1:fQ (vs:Int) B M (fx (.star a)):=U4.to fun w9 h9=>wo (fun u hu=>qZ.iH u hu) h9
 have Fc:kv vs (.star a) B:=⟨Jx,by rw[←AM];exact U5⟩
 refine aq (cq (vs:=(dC M kr)) 3 bN ?_)
 refine ah (aM (aB ?_))
 refine cN (i:=3) results72 dj F bN F F F ?_
 exact⟨[dI 56 4 3 M kr],(by exact Sub.k .z),M,kr,F,F,F1,Fc⟩
theorem MI (w:World) [dA prog w] (cb:Nat) (eb:Option Addr) (en ec vs B:Nat) (e7:Sl w (aD cb) [.slice eb en ec,vI (vs:Int),vI (B:Int)]) (gz:vs≤6) (iY:1≤B) (hB:B≤4096) (e:List eC) (hE:Sl w eb (bQ e)) (kw:en=e.length) (i:Nat) (a b:Rx) (j k:Nat) (hp:e[i]? =some ⟨4,0,0,(j:Int),(k:Int)⟩) (QH: ∀(w1:World) [dA prog w1],Inv w [] w1→dK prog w1 (.iface 163 (.agg #[])) 72 [(dJ (aD cb) 0),vN j] [] (tE vs B a) (¬kv vs a B)) (Zt: ∀(w1:World) [dA prog w1],Inv w [] w1→dK prog w1 (.iface 163 (.agg #[])) 72 [(dJ (aD cb) 0),vN k] [] (tE vs B b) (¬kv vs b B)):
  dK prog w (.iface 163 (.agg #[])) 72 [(dJ (aD cb) 0),vN i] [] (tE vs B (.ie a b)) (¬kv vs (.ie a b) B):=by
 refine dS func72 F ntmps72 F ?_
 obtain⟨hi,_⟩:=iP hp
 refine aj (aq (bs bN (fun z1=>?_)))
 refine ah (aj (ai F (ae a_ (ae (cz lM F il F F (aK e7) (by first|omega|(simp;done)|(simp;omega)|(simp_all;done)|(simp_all;omega))) (ae (cS dR F F (aK e7) F) (ai F (ae (eA (i:=i) dR cJ F F (aK hE) (by omega) (by rw[cB];omega)) (ae (eW (vs:=[v8 4,v8 0,v8 0,vN j,vN k]) dt F cJ F F (bu _) (aK hE) (fW hp)) (aq (bs cJ (fun z2=>?_)))))))))))
 refine aq (cq (vs:=[v8 4,v8 0,v8 0,vN j,vN k]) 0 cJ ?_)
 refine ah (aR (aj (ae (bt dt eD) (ae (bq 0 gH) (ah (aV (aj (ae bK (ae (aC cx (am (by decide))) (ah (a8 (aj (ae bK (ae (aC cx (am (by decide))) ?_))))))))))))))
 refine ah (a8 (aj (ae bK (ae (aC cx (am (by decide))) (ah (a8 (aj (ae bK (ae (aC cx (am (by decide))) ?_)))))))))
 refine ah (a8 (aj (ae bK (ae (aC cx (am (by decide))) (ah (a8 (aj (ae bK (ae (aC cx (am (by decide))) ?_)))))))))
 refine ah (a8 (aj (ae bK (ae (aC cx (am (by decide))) (ah (a8 (aL (aR ?_))))))))
 refine fS [(0,0),(1,0),(2,0),(3,0),(5,0),(6,0),(7,0),(4,1),(8,1),(9,2),(10,2)] ?_
 refine aw F aI (aw F aI (aw F (bt dt bF) (aw F (bq 0 ey) (aw F aI (aw F (bt dt bF) (aw F (bq 0 ey) ?_))))))
 have Zu:=fun(w1:World) (hI:Inv w [oI z2 72 [v8 4,v8 0,v8 0,vN j,vN k],oI z1 25 [(vI 0),(vI 0),nS,nS]] w1)=>(haveI:=ef hI;QH w1 hI.lK)
 refine iD F F (e8 qa (dK.pure Zu) F (fun z _=>⟨F,fun h9=>z h9.1⟩) ?_)
 clear Zu
 rintro vr O' ⟨N,rfl,MA,kA,rfl,rfl,qZ,Jx⟩
 refine⟨by exact Sub.d (.k (.k .z)),?_⟩
 have AM:=gY qZ hB
 have Zv:=fun(w1:World) (hI:Inv w [dI 56 4 3 MA kA,oI z2 72 [v8 4,v8 0,v8 0,vN j,vN k],oI z1 25 [(vI 0),(vI 0),nS,nS]] w1)=>(haveI:=ef hI;Zt w1 hI.lK)
 refine iD F F (e8 qa (dK.pure Zv) F (fun z _=>⟨F,fun h9=>z h9.2.1⟩) ?_)
 clear Zv
 rintro vr O' ⟨N,rfl,MB,kB,rfl,rfl,zT,Jy⟩
 refine⟨by exact Sub.d (.d (.k (.k .z))),?_⟩
 have SF:=gY zT hB
 have MJ:=fun(w1:World) (hI:Inv w [dI 56 4 3 MB kB,dI 56 4 3 MA kA,oI z2 72 [v8 4,v8 0,v8 0,vN j,vN k],oI z1 25 [(vI 0),(vI 0),nS,nS]] w1)=>(haveI:=ef hI;UR w1 cb eb en ec vs B (hI.sl e7) gz iY hB MA kA (hI.at (k:=kA) (mG 1)) qZ.valid qZ.vars MB kB (hI.at (k:=kB) (mG 0)) zT.valid (by rw[qZ.vars,zT.vars]))
 refine sW F F (e8 F2 (dK.pure MJ) F (fun z _=>⟨F,fun h9=>z (by rw[AM,SF];exact h9.2.2)⟩) ?_)
 clear MJ
 rintro vr O' ⟨N,rfl,M,kr,rfl,rfl,U4,U5⟩
 have F1:fQ (vs:Int) B M (fx (.ie a b)):=U4.to fun w9 h9=>pT (fun u hu=>qZ.iH u hu) (fun u hu=>zT.iH u hu) h9
 have Fc:kv vs (.ie a b) B:=⟨Jx,Jy,by rw[←AM,←SF];exact U5⟩
 refine cy F F (cq (vs:=(dC M kr)) 4 bN ?_)
 refine cA ?_
 refine aM (aB ?_)
 refine cN (i:=4) results72 dj F bN F F F ?_
 exact⟨[dI 56 4 3 M kr],(by exact Sub.k .z),M,kr,F,F,F1,Fc⟩
structure U6 (cb:Nat) (eb:Option Addr) (en ec vs B:Nat) (e:List eC):Prop where
 nn: ∀(w:World) [dA prog w],vs≤6→1≤B→B≤4096→Sl w (aD cb) [.slice eb en ec,vI (vs:Int),vI (B:Int)]→Sl w eb (bQ e)→ ∀(i:Nat),e[i]? =some ⟨1,0,0,0,0⟩→dK prog w (.iface 163 (.agg #[])) 72 [(dJ (aD cb) 0),vN i] [] (tE vs B Rx.none) (¬kv vs Rx.none B)
 nt: ∀(w:World) [dA prog w],vs≤6→1≤B→B≤4096→Sl w (aD cb) [.slice eb en ec,vI (vs:Int),vI (B:Int)]→Sl w eb (bQ e)→ ∀(i:Nat) (a:Rx) (j:Nat),e[i]? =some ⟨7,0,0,(j:Int),0⟩→(∀(w1:World) [dA prog w1],Inv w [] w1→dK prog w1 (.iface 163 (.agg #[])) 72 [(dJ (aD cb) 0),vN j] [] (tE vs B a) (¬kv vs a B))→dK prog w (.iface 163 (.agg #[])) 72 [(dJ (aD cb) 0),vN i] [] (tE vs B (.not a)) (¬kv vs (.not a) B)
 al: ∀(w:World) [dA prog w],vs≤6→1≤B→B≤4096→Sl w (aD cb) [.slice eb en ec,vI (vs:Int),vI (B:Int)]→Sl w eb (bQ e)→ ∀(i:Nat) (a b:Rx) (j k:Nat),e[i]? =some ⟨5,0,0,(j:Int),(k:Int)⟩→(∀(w1:World) [dA prog w1],Inv w [] w1→dK prog w1 (.iface 163 (.agg #[])) 72 [(dJ (aD cb) 0),vN j] [] (tE vs B a) (¬kv vs a B))→(∀(w1:World) [dA prog w1],Inv w [] w1→dK prog w1 (.iface 163 (.agg #[])) 72 [(dJ (aD cb) 0),vN k] [] (tE vs B b) (¬kv vs b B))→dK prog w (.iface 163 (.agg #[])) 72 [(dJ (aD cb) 0),vN i] [] (tE vs B (.iu a b)) (¬kv vs (.iu a b) B)
 an: ∀(w:World) [dA prog w],vs≤6→1≤B→B≤4096→Sl w (aD cb) [.slice eb en ec,vI (vs:Int),vI (B:Int)]→Sl w eb (bQ e)→ ∀(i:Nat) (a b:Rx) (j k:Nat),e[i]? =some ⟨6,0,0,(j:Int),(k:Int)⟩→(∀(w1:World) [dA prog w1],Inv w [] w1→dK prog w1 (.iface 163 (.agg #[])) 72 [(dJ (aD cb) 0),vN j] [] (tE vs B a) (¬kv vs a B))→(∀(w1:World) [dA prog w1],Inv w [] w1→dK prog w1 (.iface 163 (.agg #[])) 72 [(dJ (aD cb) 0),vN k] [] (tE vs B b) (¬kv vs b B))→dK prog w (.iface 163 (.agg #[])) 72 [(dJ (aD cb) 0),vN i] [] (tE vs B (.and a b)) (¬kv vs (.and a b) B)
def F3 (e:List eC):Bool:=e.all fun x=>!(x.op==1||x.op==5||x.op==6||x.op==7||x.op==10)
theorem np {e:List eC} (h:F3 e=true) {i:Nat} {x:eC} (hx:e[i]? =some x):x.op≠1∧x.op≠5∧x.op≠6∧x.op≠7∧x.op≠10:=by
 have:=List.all_eq_true.1 h _ (bJ hx)
 simpa[and_assoc]using this
theorem BU {cb:Nat} {eb:Option Addr} {en ec vs B:Nat} {e:List eC} (h:F3 e=true):U6 cb eb en ec vs B e:=
 ⟨fun _ _ _ _ _ _ _ i hp=>absurd F (np h hp).1,fun _ _ _ _ _ _ _ i _ _ hp=>absurd F (np h hp).2.2.2.1,fun _ _ _ _ _ _ _ i _ _ _ _ hp=>absurd F (np h hp).2.1,fun _ _ _ _ _ _ _ i _ _ _ _ hp=>absurd F (np h hp).2.2.1⟩
theorem jZ {cb:Nat} {eb:Option Addr} {en ec vs B:Nat} {e:List eC} (Hw:U6 cb eb en ec vs B e) (gz:vs≤6) (iY:1≤B) (hB:B≤4096) (kw:en=e.length): ∀(t:Rx) (hp:t.plain=true) (i:Nat),ut e t i→ ∀(w:World) [dA prog w],Sl w (aD cb) [.slice eb en ec,vI (vs:Int),vI (B:Int)]→Sl w eb (bQ e)→dK prog w (.iface 163 (.agg #[])) 72 [(dJ (aD cb) 0),vN i] [] (tE vs B t) (¬kv vs t B)
 | .none,hp,i,h,w,_,e7,hE=>Hw.nn w gz iY hB e7 hE i h
 | .empty,hp,i,h,w,_,e7,hE=>F0 w cb eb en ec vs B e7 gz iY hB e hE kw i h
 | .letter p n,hp,i,⟨h,h1,h2⟩,w,_,e7,hE=>DQ w cb eb en ec vs B e7 gz iY hB e hE kw i p n h1 h2 h
 | .not a,hp,i,⟨j,h,ha⟩,w,_,e7,hE=>Hw.nt w gz iY hB e7 hE i a j h (fun w1 _ hI=>jZ Hw gz iY hB kw a (by simp only[Rx.plain,ay]at hp;exact hp) _ ha w1 (hI.sl e7) (hI.sl hE))
 | .star a,hp,i,⟨j,h,ha⟩,w,_,e7,hE=>Jw w cb eb en ec vs B e7 gz iY hB e hE kw i a j h (fun w1 _ hI=>jZ Hw gz iY hB kw a (by simp only[Rx.plain,ay]at hp;exact hp) _ ha w1 (hI.sl e7) (hI.sl hE))
 | .ie a b,hp,i,⟨j,k,h,ha,hb⟩,w,_,e7,hE=>MI w cb eb en ec vs B e7 gz iY hB e hE kw i a b j k h (fun w1 _ hI=>jZ Hw gz iY hB kw a (by simp only[Rx.plain,ay]at hp;exact hp.1) _ ha w1 (hI.sl e7) (hI.sl hE)) (fun w1 _ hI=>jZ Hw gz iY hB kw b (by simp only[Rx.plain,ay]at hp;exact hp.2) _ hb w1 (hI.sl e7) (hI.sl hE))
 | .iu a b,hp,i,⟨j,k,h,ha,hb⟩,w,_,e7,hE=>Hw.al w gz iY hB e7 hE i a b j k h (fun w1 _ hI=>jZ Hw gz iY hB kw a (by simp only[Rx.plain,ay]at hp;exact hp.1) _ ha w1 (hI.sl e7) (hI.sl hE)) (fun w1 _ hI=>jZ Hw gz iY hB kw b (by simp only[Rx.plain,ay]at hp;exact hp.2) _ hb w1 (hI.sl e7) (hI.sl hE))
 | .and a b,hp,i,⟨j,k,h,ha,hb⟩,w,_,e7,hE=>Hw.an w gz iY hB e7 hE i a b j k h (fun w1 _ hI=>jZ Hw gz iY hB kw a (by simp only[Rx.plain,ay]at hp;exact hp.1) _ ha w1 (hI.sl e7) (hI.sl hE)) (fun w1 _ hI=>jZ Hw gz iY hB kw b (by simp only[Rx.plain,ay]at hp;exact hp.2) _ hb w1 (hI.sl e7) (hI.sl hE))
 | .ahead a,hp,_,_,_,_,_,_=>absurd hp (by simp[Rx.plain])
 | .behind a,hp,_,_,_,_,_,_=>absurd hp (by simp[Rx.plain])
theorem q9.frame {base:World} {f:FuncId} {args:List Value} {zs:Nat} {bb:Option Addr} {bc mJ:Nat} {bh:List Nat} {ls:List Lf} {r:OB} {E:List Cf} (h:q9 base f args zs bb bc mJ bh ls r E) (B:List Lx.Item) {O:List Lx.Item} (cb:Option Addr) (cc:Nat) (l:List CR) (p:List OB) (hS:lO ls l p) (hp:mA p r) (hs:Sub ([dY zs (.cells (List.toArray [(.slice bb bh.length bc),(.slice cb l.length cc)]) 122 (0,0)),av cb cc 169 3 (dz l),av bb mJ 3 1 (bW bh)]++B) O):
  cj prog base f args (O++gl 173 p) (fun v O'=> ∃vj vk l' p',v=.tuple #[]∧O'=([dY zs (.cells (List.toArray [(.slice bb bh.length bc),(.slice vj l'.length vk)]) 122 (0,0)),av vj vk 169 3 (dz l'),av bb mJ 3 1 (bW bh)]++B)++gl 173 p'∧l'.map CR.cf=E.foldl add (l.map CR.cf)∧lO ls l' p'∧(∀x∈p,x∈p')):=by
 refine((h cb cc l p hS hp).under (B:=B) (q_ _ _ _ _ hs)).post ?_
 rintro v O' ⟨A',rfl,vj,vk,l',p',rfl,rfl,h1,h2,h3⟩
 exact⟨_,ra _ _ _,vj,vk,l',p',F,F,h1,h2,h3⟩
def uu (nb:List Nat) (k:Nat):List Nat:=nb.take k++List.replicate (nb.length-k) 0
theorem rQ {nb:List Nat} {k:Nat} (h:k≤nb.length):(uu nb k).length=nb.length:=by unfold uu;rw[aP,cw,jd];omega
theorem D3 (nb:List Nat):uu nb 0=List.replicate nb.length 0:=by simp[uu]
theorem HB (nb:List Nat):uu nb nb.length=nb:=by simp[uu]
theorem B1 {nb:List Nat} {k:Nat} (h:k<nb.length):(uu nb k).set k nb[k]=uu nb (k+1):=by
 unfold uu
 rw[aH h,show nb.length-k=(nb.length-(k+1))+1 by omega,List.replicate_succ,List.set_append_right _ _ (by simp;omega),a6]
 simp[Nat.min_eq_left (Nat.le_of_lt h)]
theorem M8 {nb:List Nat} {k:Nat} (h:k<nb.length) (h0:nb[k]=0):uu nb (k+1)=uu nb k:=by
 rw[←B1 h,h0]
 unfold uu
 rw[show nb.length-k=(nb.length-(k+1))+1 by omega,List.replicate_succ,List.set_append_right _ _ (by simp;omega)]
 simp[Nat.min_eq_left (Nat.le_of_lt h)]
theorem QP (w:World) [dA prog w] (ob:Nat) (lb:Option Addr) (lc:Nat) (cv fv:Value) (ls:List Lf) (ks:List LK) (ho:lF w ob lb lc cv fv ls ks) (vs:Nat) (hG:iB ls vs) {K:Nat} (hK:qR ls K) (yt:K<1099511627776) (first:List Nat) (fb:Option Addr) (fc:Nat) (hfv:fv=.slice fb first.length fc) (oJ:Sl w fb (bW first)) (hf: ∀k∈first,k<ls.length) (ug:first.length≤1000000):
  cn prog 75 [(dJ (aD ob) 0)] w fun v N=> ∃bb bc mJ cb cc l p,v=.agg #[.slice bb (ls.map fun l=>l.d.start.toNat).length bc,.slice cb l.length cc]∧N=[av bb mJ 3 1 (bW (ls.map fun l=>l.d.start.toNat)),av cb cc 169 3 (dz l)]++gl 173 p∧l.map CR.cf=(first.flatMap fun k=>fw ls (2*ls.length) (ls.map fun l=>l.d.start.toNat) k []).foldl add []∧lO ls l p:=by
 refine aE func75 F ntmps75 F ?_
 have ig:=hG.len
 obtain⟨nb,C9⟩: ∃l:List Nat,l=(ls.map fun l=>l.d.start.toNat):=⟨_,F⟩
 have OU:nb.length=ls.length:=by rw[C9];simp
 refine aj (aq (bs kR (fun z1=>?_)))
 refine ah (aj (ai F (ae a_ (ae (cz gC F gE F F (aK ho.bx) (by first|omega|(simp;done)|(simp;omega)|(simp_all;done)|(simp_all;omega))) (ae (cS fH F F (aK ho.bx) F) (ae (cQ fH) (aq (cX (m:=ls.length) cL bF F F (by omega) (by omega) (fun z2=>?_)))))))))
 refine ae (cT (cs:=[(.slice (aD z2) ls.length ls.length),nS]) HC kR (by kernel_rfl)) (aq (bs kR (fun z3=>?_)))
 refine aq (cq (vs:=[(.slice (aD z2) ls.length ls.length),nS]) 0 kR ?_)
 refine ah (aR (aj (ai F (ae a_ (ae (cz gC F gE F F (aK ho.bx) (by first|omega|(simp;done)|(simp;omega)|(simp_all;done)|(simp_all;omega))) (ae (cS fH F F (aK ho.bx) F) (ae (cQ fH) (ai F (ah (aV ?_))))))))))
 refine dZ (fun(k:Nat) ρ O=>O=[oI z3 122 [(.slice (aD z2) ls.length ls.length),nS],av (aD z2) ls.length 3 1 (bW (uu nb k)),oI z1 122 [nS,nS]]∧k≤ls.length∧df [(0,(dJ (aD ob) 0)),(2,(.pointer (aD z1))),(3,(.pointer (aD z3))),(18,(.slice lb ls.length lc)),(19,vI (ls.length:Int)),(20,vI ((k:Nat):Int))] ρ) (fun k=>ls.length-k) 0 ?_ ?_
 ·exact⟨by rw[D3,OU,show bW (List.replicate ls.length 0)=List.replicate ls.length (vI 0) by simp];rfl,bl _,(.of F)⟩
 rintro k ρ O ⟨rfl,hk,hH⟩
 obtain⟨gA,rfl⟩:=hH.elim
 clear hH
 refine aj (ae cU (ah (aR (aZ F (fun hc=>?_) (fun hc=>?_)))))
 ·have vQ:k<ls.length:=by omega
  refine aL (aR (aV (aj (ai F (ae (eA (i:=k) fH fj F F (aK ho.rw) vQ (by rw[eg ho.kl];omega)) (ae (eW (vs:=[v8 ((lf ls k).op),vI (lf ls k).d.vars,vI (((lf ls k).d.start.toNat:Nat):Int),(.slice (lk ks k).k.nb ((lf ls k).d.next.length) ((lk ks k).k.nc)),(.slice (lk ks k).k.fb ((lf ls k).d.a7.length) ((lk ks k).k.fc)),(.slice (lk ks k).b ((lf ls k).fo.length) ((lk ks k).c)),.bool (lf ls k).la]) iK F fj F F (bu _) (aK ho.rw) (pe ho.kl vQ (hG.kp vQ).s0)) (aq (bs fj (fun z4=>?_)))))))))
  refine ak F (aq (cq (vs:=[v8 ((lf ls k).op),vI (lf ls k).d.vars,vI (((lf ls k).d.start.toNat:Nat):Int),(.slice (lk ks k).k.nb ((lf ls k).d.next.length) ((lk ks k).k.nc)),(.slice (lk ks k).k.fb ((lf ls k).d.a7.length) ((lk ks k).k.fc)),(.slice (lk ks k).b ((lf ls k).fo.length) ((lk ks k).c)),.bool (lf ls k).la]) 0 fj ?_))
  refine ah (bg (ae (bt my cZ) (ae (bq 1 cL) (ai F (ae (bt iK bN) (ae (bt dj bF) (ae (bq 0 ey) (ae (dX (i:=k) cL bF F F (dT (mG 2)) (by first|omega|(rw[rQ (by omega)];omega)) (by first|omega|(rw[ar,rQ (by omega)];omega))) (aq (n7 (j:=k) (v:=vI (((lf ls k).d.start.toNat:Nat):Int)) (vs:=[(vI (((lf ls k).d.start.toNat:Nat):Int))]) (cs:=bW (uu nb k)) 2 bF F F F F F (by simp) F (by rw[ar,rQ (by omega)];simp;omega) ?_))))))))))
  refine dM (O':=[oI z4 118 [v8 ((lf ls k).op),vI (lf ls k).d.vars,vI (((lf ls k).d.start.toNat:Nat):Int),(.slice (lk ks k).k.nb ((lf ls k).d.next.length) ((lk ks k).k.nc)),(.slice (lk ks k).k.fb ((lf ls k).d.a7.length) ((lk ks k).k.fc)),(.slice (lk ks k).b ((lf ls k).fo.length) ((lk ks k).c)),.bool (lf ls k).la],oI z3 122 [(.slice (aD z2) ls.length ls.length),nS],av (aD z2) ls.length 3 1 (bW (uu nb (k+1))),oI z1 122 [nS,nS]]) (by rw[show eZ (bW (uu nb k)) k [(vI (((lf ls k).d.start.toNat:Nat):Int))]=bW (uu nb (k+1))from(by rw[←B1 (by omega),show nb[k]=(lf ls k).d.start.toNat by simp only[C9,jv,vm vQ]];simp[eZ])];exact ck (aY _)) ?_
  refine ah (bg (ae (dr (a:=k) (b:=1) F F (by omega)) (ai F (ah ?_))))
  exact⟨k+1,by omega,[oI z3 122 [(.slice (aD z2) ls.length ls.length),nS],av (aD z2) ls.length 3 1 (bW (uu nb (k+1))),oI z1 122 [nS,nS]],(by exact Sub.d (.k (.k (.k .z)))),F,by omega,(.of F)⟩
 have xF: ¬k<ls.length:=by omega
 refine cG ?_
 refine aR (aj (ai F (ae a_ (ae (cz gC F cZ F F (aK ho.bx) (by first|omega|(simp;done)|(simp;omega)|(simp_all;done)|(simp_all;omega))) (ae (cS cL F F (aK ho.bx) (by rw[hfv];rfl)) (ae (cQ cL) (ai F (ah (aV ?_)))))))))
 have Yo:k=ls.length:=by omega
 subst Yo
 refine T.fq 169 3 ?_
 refine dc (O':=[oI z3 122 [(.slice (aD z2) nb.length ls.length),(.slice none (([]:List CR).length) 0)],av none 0 169 3 (dz ([]:List CR)),av (aD z2) ls.length 3 1 (bW nb),oI z1 122 [nS,nS]]++gl 173 []) (by
  rw[show uu nb ls.length=nb by rw[←OU,HB],OU]
  exact(aG [1,0,0,0])) ?_
 refine dZ (fun(i:Nat) ρ O=> ∃(cb:Option Addr) (cc:Nat) (l:List CR) (p:List OB),O=([oI z3 122 [(.slice (aD z2) nb.length ls.length),(.slice cb l.length cc)],av cb cc 169 3 (dz l),av (aD z2) ls.length 3 1 (bW nb),oI z1 122 [nS,nS]]++(gl 173 p))∧i≤first.length∧l.map CR.cf=((first.take i).flatMap fun k=>fw ls (2*ls.length) nb k []).foldl add []∧lO ls l p∧df [(0,(dJ (aD ob) 0)),(2,(.pointer (aD z1))),(3,(.pointer (aD z3))),(36,(.slice fb first.length fc)),(37,vI (first.length:Int)),(38,vI ((i:Nat):Int))] ρ) (fun i=>first.length-i) 0 ?_ ?_
 ·exact⟨none,0,[],[],F,bl _,F,⟨by simp,List.nodup_nil,by simp⟩,(.of F)⟩
 rintro i ρ O ⟨cb,cc,l,p,rfl,hi,hm,hS,hH⟩
 obtain⟨gA,rfl⟩:=hH.elim
 clear hH
 refine aj (ae cU (ah (aR (aZ F (fun hc=>?_) (fun hc=>?_)))))
 ·have yu:i<first.length:=by omega
  refine aL (aR (aV (aj (ae (dX (i:=i) cL bF F F (aK oJ) yu (by rw[ar];exact yu)) (ae (cS ey F F (aK oJ) (iw yu)) (ak F (ah (bg (ai F (ai F ?_))))))))))
  have Dn:=(q9.frame ((Gb w ob lb lc cv fv ls ks ho vs hG hK yt z3 (aD z2) ls.length ls.length nb (by rw[C9];exact re hG) (2*ls.length)).1 first[i] ⟨none,0,[]⟩ (hf _ (aN yu)) (by omega) .nil) [oI z1 122 [nS,nS]] (O:=[oI z3 122 [(.slice (aD z2) nb.length ls.length),(.slice cb l.length cc)],av cb cc 169 3 (dz l),av (aD z2) ls.length 3 1 (bW nb),oI z1 122 [nS,nS]]) cb cc l p hS (.inr F) (by exact Sub.rf))
  refine aq (bm M5 Dn ?_)
  clear Dn
  rintro vr O' ⟨QK,QL,l3,p3,rfl,rfl,QM,KA,Fa⟩
  refine ah (bg (ae (dr (a:=i) (b:=1) F F (by omega)) (ai F (ah ?_))))
  exact⟨i+1,by omega,_,ck (aY _),QK,QL,l3,p3,F,by omega,by rw[aH yu,List.flatMap_append,cO,←hm,QM];simp,KA,(.of F)⟩
 have SK: ¬i<first.length:=by omega
 refine cG ?_
 refine aj (ae (eN 0 my kR) (aq (cq (vs:=[(.slice (aD z2) nb.length ls.length),(.slice cb l.length cc)]) 3 kR ?_)))
 refine ah (aM (aB ?_))
 refine cN (i:=3) results75 my F kR F F F ?_
 have xf:i=first.length:=by omega
 subst xf
 rw[List.take_length]at hm
 exact⟨[av (aD z2) ls.length 3 1 (bW nb),av cb cc 169 3 (dz l)]++gl 173 p,(by exact Sub.d (.dP [av cb cc 169 3 (dz l)] _ (.k (.d .rf)))),(aD z2),ls.length,ls.length,cb,cc,l,p,by rw[←C9];rfl,by rw[←C9],by rw[hm,←C9],hS⟩
theorem Gc {ls:List Lf} {vs:Nat} (hG:iB ls vs) {x:Nat} (hx:x<2^vs) {m:Nat} {o:List Ob} (hm:m≤ls.length) (h:gd ls m o) {j:Nat} (hj:j<o.length):gd ls o[j].1 (lG ls (o.take j) x):=by
 have h1:=h.2 _ (aN hj)
 refine vn hG hx (by omega) (m:=0) .nil (h.1.sublist (List.take_sublist j o)) (fun p hp=>?_) (bl _)
 obtain⟨i,hi,rfl⟩:=List.mem_iff_getElem.1 hp
 rw[cw]at hi
 rw[List.getElem_take]
 exact⟨bl _,(List.pairwise_iff_getElem.1 h.1) i j (by omega) hj (by omega),(h.2 _ (aN _)).2⟩
theorem Gd {ls:List Lf} {x:Nat} {o:List Ob} {j:Nat} (hj:j<o.length):lG ls (o.take (j+1)) x=nR ls (lG ls (o.take j) x) (o[j].1,eS (lf ls o[j].1).d o[j].2 x):=by
 unfold lG;rw[aH hj,cO];rfl
theorem Vt (w:World) [dA prog w] (ob:Nat) (lb:Option Addr) (lc:Nat) (cv fv:Value) (ls:List Lf) (ks:List LK) (ho:lF w ob lb lc cv fv ls ks) (vs:Nat) (hG:iB ls vs) {K:Nat} (hK:qR ls K) (yt:K<1099511627776) (x:Nat) (hx:x<2^vs) (gz:vs≤6) (b0:List Nat) (sb:Option Addr) (sc:Nat) (hsb:Sl w sb (bW b0)) (G8:qe ls b0) (l0:List CR) (tb:Option Addr) (tc:Nat) (htb:Sl w tb (dz l0)) (hg: ∀y∈l0,jt ls y.cf) (lZ:(l0.map CR.cf).Nodup) (DZ: ∀y∈l0,Sl w y.r.b (fM y.r.o)):
  cn prog 77 [(dJ (aD ob) 0),.agg #[.slice sb b0.length sc,.slice tb l0.length tc],v8 x] w fun v N=> ∃bb bc mJ cb cc l p,v=.agg #[.slice bb (iQ ls b0 x).length bc,.slice cb l.length cc]∧N=[av bb mJ 3 1 (bW (iQ ls b0 x)),av cb cc 169 3 (dz l)]++gl 173 p∧l.map CR.cf=((l0.map CR.cf).flatMap (gZ ls (iQ ls b0 x) x)).foldl add []∧lO ls l p:=by
 refine aE func77 F ntmps77 F ?_
 have ig:=hG.len
 obtain⟨nb,C9⟩: ∃l:List Nat,l=iQ ls b0 x:=⟨_,F⟩
 have hGB:=yw hG G8 hx
 rw[←C9]at hGB
 have OU:nb.length=ls.length:=hGB.len
 have Xo:=G8.len
 have I3:l0.length≤K:=by
  have:=hK (l0.map CR.cf) lZ fun c hc=>by obtain⟨y,hy,rfl⟩:=List.mem_map.1 hc;exact hg y hy
  simpa using this
 have afG:x<256:=eG hx (bV (by decide) (show vs≤8 by omega))
 refine aj (aq (dE (cs:=[(.slice sb b0.length sc),(.slice tb l0.length tc)]) (fun z1=>?_)))
 refine aq (bs kR (fun z2=>?_))
 refine ah (aj (ae (bt my cZ) (ae (bq 1 cL) (ae (cQ cL) (aq (cX (m:=b0.length) cL bF F F (by omega) (by omega) (fun z3=>?_)))))))
 refine ae (cT (cs:=[(.slice (aD z3) b0.length b0.length),nS]) HC kR (by kernel_rfl)) (aq (bs kR (fun z4=>?_)))
 refine aq (cq (vs:=[(.slice (aD z3) b0.length b0.length),nS]) 0 kR ?_)
 refine ah (aR (aj (ai F (ae a_ (ae (cz gC F gE F F (aK ho.bx) (by first|omega|(simp;done)|(simp;omega)|(simp_all;done)|(simp_all;omega))) (ae (cS fH F F (aK ho.bx) F) (ae (cQ fH) (ai F (ah (aV ?_))))))))))
 refine dZ (fun(k:Nat) ρ O=>O=[oI z4 122 [(.slice (aD z3) b0.length b0.length),nS],av (aD z3) b0.length 3 1 (bW (uu nb k)),oI z2 122 [nS,nS],oI z1 122 [(.slice sb b0.length sc),(.slice tb l0.length tc)]]∧k≤ls.length∧df [(0,(dJ (aD ob) 0)),(1,(.agg #[(.slice sb b0.length sc),(.slice tb l0.length tc)])),(2,v8 x),(4,(.pointer (aD z1))),(6,(.pointer (aD z2))),(7,(.pointer (aD z4))),(25,(.slice lb ls.length lc)),(26,vI (ls.length:Int)),(27,vN k)] ρ) (fun k=>ls.length-k) 0 ?_ ?_
 ·exact⟨by rw[D3,OU,←Xo,show bW (List.replicate b0.length 0)=List.replicate b0.length (vI 0) by simp];rfl,bl _,(.of F)⟩
 rintro k ρ O ⟨rfl,hk,hH⟩
 obtain⟨gA,rfl⟩:=hH.elim
 clear hH
 refine aj (ae cU (ah (aR (aZ F (fun hc=>?_) (fun hc=>?_)))))
 ·have rh:k<ls.length:=by omega
  refine aL (aR (aV (aj (ai F (ae (eA (i:=k) fH fj F F (aK ho.rw) rh (by rw[eg ho.kl];omega)) (ae (eW (vs:=[v8 ((lf ls k).op),vI (lf ls k).d.vars,vN ((lf ls k).d.start.toNat),(.slice (lk ks k).k.nb ((lf ls k).d.next.length) ((lk ks k).k.nc)),(.slice (lk ks k).k.fb ((lf ls k).d.a7.length) ((lk ks k).k.fc)),(.slice (lk ks k).b ((lf ls k).fo.length) ((lk ks k).c)),.bool (lf ls k).la]) iK F fj F F (bu _) (aK ho.rw) (pe ho.kl rh (hG.kp rh).s0)) (aq (bs fj (fun z5=>?_)))))))))
  refine ak F (aq (cq (vs:=[v8 ((lf ls k).op),vI (lf ls k).d.vars,vN ((lf ls k).d.start.toNat),(.slice (lk ks k).k.nb ((lf ls k).d.next.length) ((lk ks k).k.nc)),(.slice (lk ks k).k.fb ((lf ls k).d.a7.length) ((lk ks k).k.fc)),(.slice (lk ks k).b ((lf ls k).fo.length) ((lk ks k).c)),.bool (lf ls k).la]) 0 fj ?_))
  refine ah (aj (ae (bt iK eD) (ae (bq 0 gH) (ae bK (ah (aZ F (fun hc=>?_) (fun hc=>?_)))))))
  ·have afH:(lf ls k).op=10:=by omega
   have JD:(lf ls k).op=10:=by omega
   have qT:b0.getD k 0<(lf ls k).d.next.length:=G8.lt k rh
   obtain⟨v1,c1,g1,s1⟩:=(ho.dk _ rh).rows.get qT
   have Ma:(lf ls k).d.next[b0.getD k 0].length=ez (lf ls k).d:=(hG.kp rh).len _ (aN qT)
   have QQ:x<ez (lf ls k).d:=by unfold ez;rw[hG.vars _ (kq rh)];exact hx
   have ZR:x<(lf ls k).d.next[b0.getD k 0].length:=by rw[Ma];exact QQ
   refine fS [(0,0),(1,0),(2,0),(3,0),(4,0),(5,0),(6,0),(7,0),(8,0),(9,0),(10,0),(11,0),(12,0),(13,0),(14,0),(15,0),(16,0),(17,2)] ?_
   refine aw F (bt my cZ) (aw F (bq 1 cL) (aw F aI (aw F (bt iK bN) (aw F (bt dj fR) (aw F (bq 0 fp) (aw F (bt my cZ) (aw F (bq 4 cL) (aw F aI (aw F (dX (i:=k) cL bF F F (aK hsb) (by omega) (by rw[ar];omega)) (aw F (cS ey F F (aK hsb) (me (by omega))) (aw F (dX (i:=(b0.getD k 0)) fp cZ F F (aK (ho.dk _ rh).outer) qT ((ho.dk _ rh).rows.1▸qT)) (aw F (cS cL F F (aK (ho.dk _ rh).outer) g1) (aw F aI (aw F (dX (i:=x) cL bF F F (aK s1) ZR (by rw[ar];exact ZR)) (aw F (cS ey F F (aK s1) (xC (hG.kp rh) qT QQ)) (aw F (dX (i:=k) cL bF F F (dT (mG 2)) (by first|omega|(rw[rQ (by omega)];omega)) (by first|omega|(rw[ar,rQ (by omega)];omega))) ?_))))))))))))))))
   refine cy F F (n7 (j:=k) (v:=vN (eS (lf ls k).d (b0.getD k 0) x)) (vs:=[(vN (eS (lf ls k).d (b0.getD k 0) x))]) (cs:=bW (uu nb k)) 2 bF F F F F F (by simp) F (by rw[ar,rQ (by omega)];simp;omega) ?_)
   refine eR (O':=[oI z5 118 [v8 ((lf ls k).op),vI (lf ls k).d.vars,vN ((lf ls k).d.start.toNat),(.slice (lk ks k).k.nb ((lf ls k).d.next.length) ((lk ks k).k.nc)),(.slice (lk ks k).k.fb ((lf ls k).d.a7.length) ((lk ks k).k.fc)),(.slice (lk ks k).b ((lf ls k).fo.length) ((lk ks k).c)),.bool (lf ls k).la],oI z4 122 [(.slice (aD z3) b0.length b0.length),nS],av (aD z3) b0.length 3 1 (bW (uu nb (k+1))),oI z2 122 [nS,nS],oI z1 122 [(.slice sb b0.length sc),(.slice tb l0.length tc)]]) (by rw[show eZ (bW (uu nb k)) k [(vN (eS (lf ls k).d (b0.getD k 0) x))]=bW (uu nb (k+1))from(by rw[←B1 (by omega),show nb[k]=eS (lf ls k).d (b0.getD k 0) x by simp only[C9,iQ,jv,List.getElem_range];rw[aJ JD]];simp[eZ])];exact ck (aY _)) ?_
   refine cA ?_
   refine bg (ae (dr (a:=k) (b:=1) F F (by omega)) (ai F (ah ?_)))
   exact⟨k+1,by omega,[oI z4 122 [(.slice (aD z3) b0.length b0.length),nS],av (aD z3) b0.length 3 1 (bW (uu nb (k+1))),oI z2 122 [nS,nS],oI z1 122 [(.slice sb b0.length sc),(.slice tb l0.length tc)]],(by exact Sub.d (.k (.k (.k (.k .z))))),F,by omega,(.of F)⟩
  have afI: ¬(lf ls k).op=10:=by omega
  have JD: ¬(lf ls k).op=10:=by omega
  refine aL (bg (ae (dr (a:=k) (b:=1) F F (by omega)) (ai F (ah ?_))))
  have UG:uu nb (k+1)=uu nb k:=M8 (by omega) (by simp only[C9,iQ,jv,List.getElem_range];rw[aA JD])
  exact⟨k+1,by omega,[oI z4 122 [(.slice (aD z3) b0.length b0.length),nS],av (aD z3) b0.length 3 1 (bW (uu nb k)),oI z2 122 [nS,nS],oI z1 122 [(.slice sb b0.length sc),(.slice tb l0.length tc)]],(by exact Sub.d (.k (.k (.k (.k .z))))),by rw[UG],by omega,(.of F)⟩
 have afJ: ¬k<ls.length:=by omega
 refine cG ?_
 refine aR (aj (ae (bt my q7) (ae (bq 3 ow) (ae (cQ ow) (ai F (ah (aV ?_)))))))
 have Yo:k=ls.length:=by omega
 subst Yo
 refine T.fq 169 3 ?_
 refine dc (O':=[oI z4 122 [(.slice (aD z3) nb.length b0.length),(.slice none (([]:List CR).length) 0)],av none 0 169 3 (dz ([]:List CR)),av (aD z3) b0.length 3 1 (bW nb),oI z2 122 [nS,nS],oI z1 122 [(.slice sb b0.length sc),(.slice tb l0.length tc)]]++gl 173 []) (by
  rw[show uu nb ls.length=nb by rw[←OU,HB],OU,←Xo]
  exact(aG [1,0,0,0,0])) ?_
 refine dZ (fun(i:Nat) ρ O=> ∃(cb:Option Addr) (cc:Nat) (l:List CR) (p:List OB),O=([oI z4 122 [(.slice (aD z3) nb.length b0.length),(.slice cb l.length cc)],av cb cc 169 3 (dz l),av (aD z3) b0.length 3 1 (bW nb),oI z2 122 [nS,nS],oI z1 122 [(.slice sb b0.length sc),(.slice tb l0.length tc)]]++(gl 173 p))∧i≤l0.length∧l.map CR.cf=(((l0.take i).map CR.cf).flatMap (gZ ls nb x)).foldl add []∧lO ls l p∧df [(0,(dJ (aD ob) 0)),(1,(.agg #[(.slice sb b0.length sc),(.slice tb l0.length tc)])),(2,v8 x),(4,(.pointer (aD z1))),(6,(.pointer (aD z2))),(7,(.pointer (aD z4))),(54,(.slice tb l0.length tc)),(55,vI (l0.length:Int)),(56,vN i)] ρ) (fun i=>l0.length-i) 0 ?_ ?_
 ·exact⟨none,0,[],[],F,bl _,F,⟨by simp,List.nodup_nil,by simp⟩,(.of F)⟩
 rintro i ρ O ⟨cb,cc,l,p,rfl,hi,hm,hS,hH⟩
 obtain⟨gA,rfl⟩:=hH.elim
 clear hH
 refine aj (ae cU (ah (aR (aZ F (fun hc=>?_) (fun hc=>?_)))))
 ·have AO:i<l0.length:=by omega
  have hgy:=hg _ (aN AO)
  have M9:((l0.take (i+1)).map CR.cf).flatMap (gZ ls nb x)=((l0.take i).map CR.cf).flatMap (gZ ls nb x)++gZ ls nb x l0[i].cf:=by rw[aH AO,bj,List.flatMap_append];simp only[cD,fV,List.flatMap_cons,List.flatMap_nil,c_]
  refine aL (aR (aV (aj (ae (eA (i:=i) ow jz F F (aK htb) AO (by rw[pU];omega)) (ae (eW (vs:=[vI l0[i].k,vN (l0[i].s),(.slice l0[i].r.b l0[i].r.o.length l0[i].r.c)]) lW F jz F F (bu _) (aK htb) (sX AO)) (aq (bs jz (fun z6=>?_))))))))
  refine aq (cq (vs:=[vI l0[i].k,vN (l0[i].s),(.slice l0[i].r.b l0[i].r.o.length l0[i].r.c)]) 0 jz ?_)
  refine ah (aR (aj (ae (bt lW bF) (ae (bq 0 ey) (ae cU (ah (aZ F (fun hc=>?_) (fun hc=>?_))))))))
  ·have ZS:l0[i].k<0:=hc
   refine cG ?_
   refine bg (ae (dr (a:=i) (b:=1) F F (by omega)) (ai F (ah ?_)))
   have e9:gZ ls nb x l0[i].cf=[]:=by unfold gZ;rw[aJ (show l0[i].cf.k<0 from ZS)]
   exact⟨i+1,by omega,[oI z4 122 [(.slice (aD z3) nb.length b0.length),(.slice cb l.length cc)],av cb cc 169 3 (dz l),av (aD z3) b0.length 3 1 (bW nb),oI z2 122 [nS,nS],oI z1 122 [(.slice sb b0.length sc),(.slice tb l0.length tc)]]++gl 173 p,(by exact Sub.d (.k (.k (.k (.k (.k .rf)))))),cb,cc,l,p,F,by omega,by rw[M9,e9,c_];exact hm,hS,(.of F)⟩
  obtain⟨kk,AP,n6,oQ,Vu⟩: ∃k:Nat,l0[i].k=(k:Int)∧k<ls.length∧l0[i].s<(lf ls k).d.next.length∧gd ls k l0[i].r.o:=hgy.elim (fun h=>absurd h.1 (by show¬l0[i].k= -1;omega)) id
  have O_:l0[i].r.o.length≤12:=by have:=Vu.len;omega
  refine aL (aj (ak F (ah (aR (aj (ae (bt lW BW) (ae (bq 0 jL) (ae (cQ jL) (ai F (ah (aV ?_)))))))))))
  refine dZ (fun(j:Nat) ρ O=> ∃(r3:OB) (p3:List OB),O=([oI z6 169 [vI l0[i].k,vN (l0[i].s),(.slice l0[i].r.b l0[i].r.o.length l0[i].r.c)],oI z4 122 [(.slice (aD z3) nb.length b0.length),(.slice cb l.length cc)],av cb cc 169 3 (dz l),av (aD z3) b0.length 3 1 (bW nb),oI z2 122 [nS,nS],oI z1 122 [(.slice sb b0.length sc),(.slice tb l0.length tc)]]++(gl 173 p3))∧j≤l0[i].r.o.length∧r3.o=lG ls (l0[i].r.o.take j) x∧mA p3 r3∧lO ls l p3∧df [(0,(dJ (aD ob) 0)),(1,(.agg #[(.slice sb b0.length sc),(.slice tb l0.length tc)])),(2,v8 x),(4,(.pointer (aD z1))),(6,(.pointer (aD z2))),(7,(.pointer (aD z4))),(11,(.pointer (aD z6))),(12,(.slice r3.b r3.o.length r3.c)),(54,(.slice tb l0.length tc)),(55,vI (l0.length:Int)),(56,vN i),(64,(.slice l0[i].r.b l0[i].r.o.length l0[i].r.c)),(65,vI (l0[i].r.o.length:Int)),(66,vN j)] ρ) (fun j=>l0[i].r.o.length-j) 0 ?_ ?_
  ·exact⟨⟨none,0,[]⟩,p,F,bl _,F,.inr F,hS,(.of F)⟩
  rintro j ρ O ⟨r3,p3,rfl,hj,Xp,Fa,KA,hH⟩
  obtain⟨gA,rfl⟩:=hH.elim
  clear hH
  refine aj (ae cU (ah (aR (aZ F (fun hc=>?_) (fun hc=>?_)))))
  ·have ye:j<l0[i].r.o.length:=by omega
   have P0:=Vu.2 _ (aN ye)
   have M_:l0[i].r.o[j].1<ls.length:=by omega
   have Lc:l0[i].r.o[j].2<(lf ls l0[i].r.o[j].1).d.next.length:=P0.2
   obtain⟨v2,c2,g2,s2⟩:=(ho.dk _ M_).rows.get Lc
   have hl2:(lf ls l0[i].r.o[j].1).d.next[l0[i].r.o[j].2].length=ez (lf ls l0[i].r.o[j].1).d:=(hG.kp M_).len _ (aN Lc)
   have P2:x<ez (lf ls l0[i].r.o[j].1).d:=by unfold ez;rw[hG.vars _ (kq M_)];exact hx
   have ZT:x<(lf ls l0[i].r.o[j].1).d.next[l0[i].r.o[j].2].length:=by rw[hl2];exact P2
   have adg:=((hG.kp M_).toVal.gT Lc P2).1
   refine aL (aR (aV (aj (ae (eA (i:=j) jL gO F F (aK (DZ _ (aN AO))) ye (by rw[j3];omega)) (ae (eW (vs:=[vN (l0[i].r.o[j].1),vN (l0[i].r.o[j].2)]) kD F gO F F (bu _) (aK (DZ _ (aN AO))) (nQ ye)) (aq (bs gO (fun z7=>?_))))))))
   refine aq (cq (vs:=[vN (l0[i].r.o[j].1),vN (l0[i].r.o[j].2)]) 0 gO ?_)
   refine ah ?_
   refine fS [(0,0),(1,0),(2,0),(3,0),(4,0),(5,0),(6,0),(7,0),(8,0),(9,0),(10,0),(11,0),(12,0),(13,0),(14,0),(15,0),(16,0),(17,0),(18,0),(19,0),(20,0),(21,0),(22,2),(23,2)] ?_
   refine aw F aI (aw F aI (aw F (jJ (i:=0) kD bF F F (by decide)) (aw F (bq 0 ey) (aw F aI (aw F a_ (aw F (cz gC F gE F F (aK ho.bx) (by first|omega|(simp;done)|(simp;omega)|(simp_all;done)|(simp_all;omega))) (aw F (cS fH F F (aK ho.bx) F) (aw F (jJ (i:=0) kD bF F F (by decide)) (aw F (bq 0 ey) (aw F (eA (i:=l0[i].r.o[j].1) fH fj F F (aK ho.rw) M_ (by rw[eg ho.kl];omega)) (aw F (cz iK F bN F F (aK ho.rw) (by rw[eg ho.kl];omega)) (aw F (cz dj F fR F F (aK ho.rw) (by rw[eg ho.kl];show _*7+1<_;omega)) (aw F (cS fp F F (aK ho.rw) (q8 ho.kl M_ 3 F F)) (aw F (jJ (i:=1) kD bF F F (by decide)) (aw F (bq 0 ey) (aw F (dX (i:=l0[i].r.o[j].2) fp cZ F F (aK (ho.dk _ M_).outer) Lc ((ho.dk _ M_).rows.1▸Lc)) (aw F (cS cL F F (aK (ho.dk _ M_).outer) g2) (aw F aI (aw F (dX (i:=x) cL bF F F (aK s2) ZT (by rw[ar];exact ZT)) (aw F (cS ey F F (aK s2) (xC (hG.kp M_) Lc P2)) (aw F (tS (cs:=[vN (l0[i].r.o[j].1),vN (eS (lf ls l0[i].r.o[j].1).d l0[i].r.o[j].2 x)]) kD bF gO (by kernel_rfl)) ?_)))))))))))))))))))))
   have MJ:=fun(w1:World) (hI:Inv w ([oI z7 173 [vN (l0[i].r.o[j].1),vN (l0[i].r.o[j].2)],oI z6 169 [vI l0[i].k,vN (l0[i].s),(.slice l0[i].r.b l0[i].r.o.length l0[i].r.c)],oI z4 122 [(.slice (aD z3) nb.length b0.length),(.slice cb l.length cc)],av cb cc 169 3 (dz l),av (aD z3) b0.length 3 1 (bW nb),oI z2 122 [nS,nS],oI z1 122 [(.slice sb b0.length sc),(.slice tb l0.length tc)]]++(gl 173 p3)) w1)=>(haveI:=ef hI;ZM w1 ob lb lc cv fv ls ks (hI.out ho) vs hG r3 (mA.sl hI (fun it fO=>ao _ fO) Fa) (l0[i].r.o[j].1,eS (lf ls l0[i].r.o[j].1).d l0[i].r.o[j].2 x) l0[i].r.o[j].1 (by rw[Xp];exact Gc hG hx (Nat.le_of_lt n6) Vu ye) (aS _) M_ adg)
   refine cy F F (bm M6 (aX MJ) ?_)
   clear MJ
   rintro vr O' ⟨N,rfl,pl,r4,rfl,rfl,hr4,adh⟩
   have hp4:mA (pl++p3) r4:=by
    rcases adh with⟨rfl,rfl⟩|rfl
    ·exact Fa.mono fun x hx=>by simpa using hx
    ·exact .inl (by simp)
   refine eR (O':=([oI z7 173 [vN (l0[i].r.o[j].1),vN (l0[i].r.o[j].2)],oI z6 169 [vI l0[i].k,vN (l0[i].s),(.slice l0[i].r.b l0[i].r.o.length l0[i].r.c)],oI z4 122 [(.slice (aD z3) nb.length b0.length),(.slice cb l.length cc)],av cb cc 169 3 (dz l),av (aD z3) b0.length 3 1 (bW nb),oI z2 122 [nS,nS],oI z1 122 [(.slice sb b0.length sc),(.slice tb l0.length tc)]]++((gl 173 pl)++(gl 173 p3)))) (by exact fK [] _ (gl 173 pl) (gl 173 p3)) ?_
   refine cy F F (eK F F cx ?_)
   refine cA ?_
   refine bg (ae (dr (a:=j) (b:=1) F F (by omega)) (ai F (ah ?_)))
   exact⟨j+1,by omega,_,(by rw[D0];exact(by exact Sub.d (.k (.k (.k (.k (.k (.k .rf)))))))),r4,pl++p3,F,by omega,by rw[Gd ye,←Xp,hr4],hp4,KA.mono fun x hx=>ao _ hx,(.of F)⟩
  have YG: ¬j<l0[i].r.o.length:=by omega
  refine cG ?_
  refine aR ?_
  have hje:j=l0[i].r.o.length:=by omega
  subst hje
  rw[List.take_length]at Xp
  have ZU:gd ls kk r3.o:=by rw[Xp];exact yx hG hx (Nat.le_of_lt n6) Vu
  obtain⟨v3,c3,g3,s3⟩:=(ho.dk _ n6).rows.get oQ
  have Pc:(lf ls kk).d.next[l0[i].s].length=ez (lf ls kk).d:=(hG.kp n6).len _ (aN oQ)
  have hx3:x<ez (lf ls kk).d:=by unfold ez;rw[hG.vars _ (kq n6)];exact hx
  have ZV:x<(lf ls kk).d.next[l0[i].s].length:=by rw[Pc];exact hx3
  have uv:=((hG.kp n6).toVal.gT oQ hx3).1
  refine fS [(0,0),(1,0),(2,0),(3,0),(4,0),(5,0),(6,0),(7,0),(8,1),(9,2)] ?_
  refine aw F aI (aw F a_ (aw F (cz gC F gE F F (aK ho.bx) (by first|omega|(simp;done)|(simp;omega)|(simp_all;done)|(simp_all;omega))) (aw F (cS fH F F (aK ho.bx) F) (aw F (bt lW bF) (aw F (bL (bq 0 ey) (v':=vN kk) (by show Value.int _ _=_;rw[AP])) (aw F (eA (i:=kk) fH fj F F (aK ho.rw) n6 (by rw[eg ho.kl];omega)) (aw F (eW (vs:=[v8 ((lf ls kk).op),vI (lf ls kk).d.vars,vN ((lf ls kk).d.start.toNat),(.slice (lk ks kk).k.nb ((lf ls kk).d.next.length) ((lk ks kk).k.nc)),(.slice (lk ks kk).k.fb ((lf ls kk).d.a7.length) ((lk ks kk).k.fc)),(.slice (lk ks kk).b ((lf ls kk).fo.length) ((lk ks kk).c)),.bool (lf ls kk).la]) iK F fj F F (bu _) (aK ho.rw) (pe ho.kl n6 (hG.kp n6).s0)) ?_)))))))
  refine cH F F (bs fj (fun z8=>⟨by exact Sub.d (.k (.k (.k (.k (.k (.k .rf)))))),?_⟩))
  refine cy F F (cq (vs:=[v8 ((lf ls kk).op),vI (lf ls kk).d.vars,vN ((lf ls kk).d.start.toNat),(.slice (lk ks kk).k.nb ((lf ls kk).d.next.length) ((lk ks kk).k.nc)),(.slice (lk ks kk).k.fb ((lf ls kk).d.a7.length) ((lk ks kk).k.fc)),(.slice (lk ks kk).b ((lf ls kk).fo.length) ((lk ks kk).c)),.bool (lf ls kk).la]) 0 fj ?_)
  refine cA ?_
  refine aj (ae (bt iK bN) (ae (bt dj fR) (ae (bq 0 fp) (ae (bt lW bF) (ae (bq 1 ey) (ae (dX (i:=l0[i].s) fp cZ F F (aK (ho.dk _ n6).outer) oQ ((ho.dk _ n6).rows.1▸oQ)) (ae (cS cL F F (aK (ho.dk _ n6).outer) g3) (ai F (ae (dX (i:=x) cL bF F F (aK s3) ZV (by rw[ar];exact ZV)) (ae (cS ey F F (aK s3) (xC (hG.kp n6) oQ hx3)) (ak F (ah (aj (ai F (ae (bt lW bF) (ae (bL (bq 1 ey) (v':=vN kk) (by show Value.int _ _=_;rw[AP])) (ai F (ai F (ae (cT (cs:=[vN kk,vN (eS (lf ls kk).d l0[i].s x),(.slice r3.b r3.o.length r3.c)]) BY jz (by kernel_rfl)) ?_)))))))))))))))))))
  have SL:=Vn w hG hK yt (dJ (aD ob) 0) z4 (aD z3) b0.length nb [oI z8 118 [v8 ((lf ls kk).op),vI (lf ls kk).d.vars,vN ((lf ls kk).d.start.toNat),(.slice (lk ks kk).k.nb ((lf ls kk).d.next.length) ((lk ks kk).k.nc)),(.slice (lk ks kk).k.fb ((lf ls kk).d.a7.length) ((lk ks kk).k.fc)),(.slice (lk ks kk).b ((lf ls kk).fo.length) ((lk ks kk).c)),.bool (lf ls kk).la],oI z6 169 [vI l0[i].k,vN (l0[i].s),(.slice l0[i].r.b l0[i].r.o.length l0[i].r.c)],av (aD z3) b0.length 3 1 (bW nb),oI z2 122 [nS,nS],oI z1 122 [(.slice sb b0.length sc),(.slice tb l0.length tc)]] cb cc l p3 ⟨(kk:Int),eS (lf ls kk).d l0[i].s x,r3⟩ KA (.inr ⟨kk,F,n6,uv,ZU⟩) Fa (O:=[oI z8 118 [v8 ((lf ls kk).op),vI (lf ls kk).d.vars,vN ((lf ls kk).d.start.toNat),(.slice (lk ks kk).k.nb ((lf ls kk).d.next.length) ((lk ks kk).k.nc)),(.slice (lk ks kk).k.fb ((lf ls kk).d.a7.length) ((lk ks kk).k.fc)),(.slice (lk ks kk).b ((lf ls kk).fo.length) ((lk ks kk).c)),.bool (lf ls kk).la],oI z6 169 [vI l0[i].k,vN (l0[i].s),(.slice l0[i].r.b l0[i].r.o.length l0[i].r.c)],oI z4 122 [(.slice (aD z3) nb.length b0.length),(.slice cb l.length cc)],av cb cc 169 3 (dz l),av (aD z3) b0.length 3 1 (bW nb),oI z2 122 [nS,nS],oI z1 122 [(.slice sb b0.length sc),(.slice tb l0.length tc)]]) (by exact Sub.dP [oI z8 118 [v8 ((lf ls kk).op),vI (lf ls kk).d.vars,vN ((lf ls kk).d.start.toNat),(.slice (lk ks kk).k.nb ((lf ls kk).d.next.length) ((lk ks kk).k.nc)),(.slice (lk ks kk).k.fb ((lf ls kk).d.a7.length) ((lk ks kk).k.fc)),(.slice (lk ks kk).b ((lf ls kk).fo.length) ((lk ks kk).c)),.bool (lf ls kk).la],oI z6 169 [vI l0[i].k,vN (l0[i].s),(.slice l0[i].r.b l0[i].r.o.length l0[i].r.c)]] _ (.dP [oI z8 118 [v8 ((lf ls kk).op),vI (lf ls kk).d.vars,vN ((lf ls kk).d.start.toNat),(.slice (lk ks kk).k.nb ((lf ls kk).d.next.length) ((lk ks kk).k.nc)),(.slice (lk ks kk).k.fb ((lf ls kk).d.a7.length) ((lk ks kk).k.fc)),(.slice (lk ks kk).b ((lf ls kk).fo.length) ((lk ks kk).c)),.bool (lf ls kk).la],oI z6 169 [vI l0[i].k,vN (l0[i].s),(.slice l0[i].r.b l0[i].r.o.length l0[i].r.c)]] _ (.k (.k (.k (.k (.k .z)))))))
  refine aq (bm Ga SL ?_)
  clear SL
  rintro vr O' ⟨DX,DY,l4,rfl,rfl,Vp,Vq⟩
  refine ah (aj (ae (bt iK bN) (ae (bt dj dH) (ae (bq 2 eI) (ai F (ae (dX (i:=(eS (lf ls kk).d l0[i].s x)) eI fC F F (aK (ho.dk _ n6).a7) (by rw[(hG.kp n6).fin];exact uv) (by rw[ar,(hG.kp n6).fin];exact uv)) (ae (cS BB F F (aK (ho.dk _ n6).a7) (pC (hG.kp n6) uv)) (ah (T.cond F (fun hc=>?_) (fun hc=>?_))))))))))
  ·have qf:dF (lf ls kk).d (eS (lf ls kk).d l0[i].s x)=true:=hc
   refine bg (ai F (ae (bt lW bF) (ae (bL (bq 3 ey) (v':=vN kk) (by show Value.int _ _=_;rw[AP])) (ai F ?_))))
   have D4:=(q9.frame ((Gb w ob lb lc cv fv ls ks ho vs hG hK yt z4 (aD z3) b0.length b0.length nb hGB (2*ls.length)).2 kk r3 n6 (by omega) (ZU.mono (Nat.le_succ _))) [oI z8 118 [v8 ((lf ls kk).op),vI (lf ls kk).d.vars,vN ((lf ls kk).d.start.toNat),(.slice (lk ks kk).k.nb ((lf ls kk).d.next.length) ((lk ks kk).k.nc)),(.slice (lk ks kk).k.fb ((lf ls kk).d.a7.length) ((lk ks kk).k.fc)),(.slice (lk ks kk).b ((lf ls kk).fo.length) ((lk ks kk).c)),.bool (lf ls kk).la],oI z6 169 [vI l0[i].k,vN (l0[i].s),(.slice l0[i].r.b l0[i].r.o.length l0[i].r.c)],oI z2 122 [nS,nS],oI z1 122 [(.slice sb b0.length sc),(.slice tb l0.length tc)]] (O:=[oI z4 122 [(.slice (aD z3) nb.length b0.length),(.slice DX l4.length DY)],av DX DY 169 3 (dz l4),oI z8 118 [v8 ((lf ls kk).op),vI (lf ls kk).d.vars,vN ((lf ls kk).d.start.toNat),(.slice (lk ks kk).k.nb ((lf ls kk).d.next.length) ((lk ks kk).k.nc)),(.slice (lk ks kk).k.fb ((lf ls kk).d.a7.length) ((lk ks kk).k.fc)),(.slice (lk ks kk).b ((lf ls kk).fo.length) ((lk ks kk).c)),.bool (lf ls kk).la],oI z6 169 [vI l0[i].k,vN (l0[i].s),(.slice l0[i].r.b l0[i].r.o.length l0[i].r.c)],av (aD z3) b0.length 3 1 (bW nb),oI z2 122 [nS,nS],oI z1 122 [(.slice sb b0.length sc),(.slice tb l0.length tc)]]) DX DY l4 p3 Vq Fa (by exact Sub.k (.k (.dP [oI z8 118 [v8 ((lf ls kk).op),vI (lf ls kk).d.vars,vN ((lf ls kk).d.start.toNat),(.slice (lk ks kk).k.nb ((lf ls kk).d.next.length) ((lk ks kk).k.nc)),(.slice (lk ks kk).k.fb ((lf ls kk).d.a7.length) ((lk ks kk).k.fc)),(.slice (lk ks kk).b ((lf ls kk).fo.length) ((lk ks kk).c)),.bool (lf ls kk).la],oI z6 169 [vI l0[i].k,vN (l0[i].s),(.slice l0[i].r.b l0[i].r.o.length l0[i].r.c)]] _ (.k (.k (.k (.k .z))))))))
   refine aq (bm BZ D4 ?_)
   clear D4
   rintro vr O' ⟨cb5,cc5,l5,p5,rfl,rfl,hm5,hS5,hp5⟩
   refine ah (bg (ae (dr (a:=i) (b:=1) F F (by omega)) (ai F (ah ?_))))
   have e9:gZ ls nb x l0[i].cf=⟨(kk:Int),eS (lf ls kk).d l0[i].s x,r3.o⟩::fX ls (2*ls.length) nb kk r3.o:=by
    unfold gZ
    rw[aA (show¬l0[i].cf.k<0 from by show¬l0[i].k<0;omega),Xp]
    simp only[CR.cf,AP,Int.toNat_natCast]
    rw[aJ qf]
   exact⟨i+1,by omega,[oI z4 122 [(.slice (aD z3) nb.length b0.length),(.slice cb5 l5.length cc5)],av cb5 cc5 169 3 (dz l5),av (aD z3) b0.length 3 1 (bW nb),oI z2 122 [nS,nS],oI z1 122 [(.slice sb b0.length sc),(.slice tb l0.length tc)]]++gl 173 p5,(by exact Sub.k (.k (.k (.d (.d (.k (.k .rf))))))),cb5,cc5,l5,p5,F,by omega,by rw[M9,cO,←hm,e9,hm5,Vp];rfl,hS5,(.of F)⟩
  have qf: ¬dF (lf ls kk).d (eS (lf ls kk).d l0[i].s x)=true:=by rw[hc];simp
  refine aL (bg (ae (dr (a:=i) (b:=1) F F (by omega)) (ai F (ah ?_))))
  have e9:gZ ls nb x l0[i].cf=⟨(kk:Int),eS (lf ls kk).d l0[i].s x,r3.o⟩::[]:=by
   unfold gZ
   rw[aA (show¬l0[i].cf.k<0 from by show¬l0[i].k<0;omega),Xp]
   simp only[CR.cf,AP,Int.toNat_natCast]
   rw[aA qf]
  exact⟨i+1,by omega,[oI z4 122 [(.slice (aD z3) nb.length b0.length),(.slice DX l4.length DY)],av DX DY 169 3 (dz l4),av (aD z3) b0.length 3 1 (bW nb),oI z2 122 [nS,nS],oI z1 122 [(.slice sb b0.length sc),(.slice tb l0.length tc)]]++gl 173 p3,(by exact Sub.k (.k (.d (.d (.k (.k (.k .rf))))))),DX,DY,l4,p3,F,by omega,by rw[M9,cO,←hm,e9,Vp];rfl,Vq,(.of F)⟩
 have afK: ¬i<l0.length:=by omega
 refine cG ?_
 refine aj (ae (eN 0 my kR) (aq (cq (vs:=[(.slice (aD z3) nb.length b0.length),(.slice cb l.length cc)]) 3 kR ?_)))
 refine ah (aM (aB ?_))
 refine cN (i:=3) results77 my F kR F F F ?_
 have xf:i=l0.length:=by omega
 subst xf
 rw[List.take_length]at hm
 exact⟨[av (aD z3) b0.length 3 1 (bW nb),av cb cc 169 3 (dz l)]++gl 173 p,(by exact Sub.d (.dP [av cb cc 169 3 (dz l)] _ (.k (.d (.d .rf))))),(aD z3),b0.length,b0.length,cb,cc,l,p,by rw[←C9];rfl,by rw[←C9],by rw[hm,←C9],hS⟩
theorem QR (w:World) [dA prog w] (y:CR):
  cn prog 117 [(.agg #[vI y.k,vN y.s,(.slice y.r.b y.r.o.length y.r.c)])] w fun v N=>v=.bool (decide (y.cf.k<0)&&y.cf.o.isEmpty)∧N=[]:=by
 refine aE func117 F ntmps117 F ?_
 refine aj (aq (dE (cs:=[vI y.k,vN y.s,(.slice y.r.b y.r.o.length y.r.c)]) (fun n5=>?_)))
 refine ak F (ah (aj (ae (bt lW bF) (ae (bq 0 ey) (ae cU ?_)))))
 by_cases hk:y.k<0
 ·refine ae (aC aI (ax hk)) ?_
  refine aF (bt lW BW) (aF (bq 0 jL) (aF (cQ jL) (aF bK (ae cm (ak F (ah (aM (aB ?_))))))))
  refine aT (.bool (decide ((y.r.o.length:Int)=0))) results117 F ?_
  exact⟨[],Sub.z,au Value.bool (by show _=(decide (y.k<0)&&y.r.o.isEmpty);rw[ax hk,Bool.true_and];cases y.r.o<;>simp<;>omega),F⟩
 refine ae (aC aI (am hk)) (aQ (aQ (aQ (aQ (ae bX (ak F (ah (aM (aB ?_)))))))))
 refine aT (.bool false) results117 F ?_
 exact⟨[],Sub.z,au Value.bool (by show _=(decide (y.k<0)&&y.r.o.isEmpty);rw[am hk,Bool.false_and]),F⟩
theorem QS (w:World) [dA prog w] (ov:Value) (bh:List Nat) (bv:Value) (cb:Option Addr) (cc:Nat) (l:List CR) (hl:Sl w cb (dz l)) (hK:l.length<137438953472):
  cn prog 78 [ov,(.agg #[bv,(.slice cb l.length cc)])] w fun v N=>v=.bool (pR ⟨bh,l.map CR.cf⟩)∧N=[]:=by
 refine aE func78 F ntmps78 F ?_
 refine aj (aq (dE (cs:=[bv,(.slice cb l.length cc)]) (fun z1=>?_)))
 refine ak F (ah (aj (ae (bt my q7) (ae (bq 0 ow) ?_))))
 have Dy:=fun(w1:World) (hI:Inv w [oI z1 122 [bv,(.slice cb l.length cc)]] w1)=>(haveI:=ef hI;(show cn _ _ _ _ (fun v N=>v=Value.bool (pR ⟨bh,l.map CR.cf⟩)∧N=[])from by
   have h9:=q5 w1 cb cc l (hI.sl hl) (by omega) ((.func (.func 117) #[] #[])) (fun y=>decide (y.cf.k<0)&&y.cf.o.isEmpty) (fun y hy=>bU (first:=[]) (args:=[(.agg #[vI y.k,vN y.s,(.slice y.r.b y.r.o.length y.r.c)])]) (fG:=[]) Vv (QR w1 y))
   have e9:(l.any fun y=>decide (y.cf.k<0)&&y.cf.o.isEmpty)=pR ⟨bh,l.map CR.cf⟩:=by unfold pR;rw[List.any_map];rfl
   rw[e9]at h9
   exact h9))
 refine aq (bm MZ (aX Dy) ?_)
 clear Dy
 rintro vr O' ⟨N,rfl,rfl,rfl⟩
 refine ak F (ah (aM (aB ?_)))
 refine aT (.bool (pR ⟨bh,l.map CR.cf⟩)) results78 F ?_
 exact⟨[],Sub.z,F,F⟩
theorem D5 {α β:Type} {B:Nat} {f:α→List β}: ∀ {l:List α},(∀x∈l,(f x).length≤B)→(l.flatMap f).length≤B*l.length
 | [],_=>by simp
 |x::l,h=>by
  have h1:=h x (by simp);have h2:=D5 (l:=l) fun y hy=>h y (by simp[hy])
  rw[List.flatMap_cons,aP,bG,Nat.mul_succ];omega
theorem ZW (w:World) [dA prog w] (ov:Value) (bb:Option Addr) (bc:Nat) (bh:List Nat) (Vw:Sl w bb (bW bh)) (Xo:bh.length≤12) (hbn: ∀n∈bh.map (fun y:Nat=>(y:Int)),ng n) (cb:Option Addr) (cc:Nat) (l:List CR) (hl:Sl w cb (dz l)) (hK:l.length<137438953472) {ls:List Lf} {vs:Nat} (hG:iB ls vs) (hg: ∀y∈l,jt ls y.cf) (P0: ∀y∈l,y.r.o.length≤12) (DZ: ∀y∈l,Sl w y.r.b (fM y.r.o)):
  cn prog 76 [ov,(.agg #[(.slice bb bh.length bc),(.slice cb l.length cc)])] w fun v N=>v=str (St.key ⟨bh,l.map CR.cf⟩)∧N=[]:=by
 refine aE func76 F ntmps76 F ?_
 refine aj (aq (dE (cs:=[(.slice bb bh.length bc),(.slice cb l.length cc)]) (fun z1=>?_)))
 refine ak F (ah (aj (ak F (ah (aR (aj (ae (bt my q7) (ae (bq 0 ow) (ae (cQ ow) (ai F (ah (aV (T.fq 9 1 ?_)))))))))))))
 refine dZ (fun(i:Nat) ρ O=> ∃(kb:Option Addr) (kc:Nat),O=[av kb kc 9 1 (strs ((l.take i).map fun y=>y.cf.key)),oI z1 122 [(.slice bb bh.length bc),(.slice cb l.length cc)]]∧i≤l.length∧df [(1,(.agg #[(.slice bb bh.length bc),(.slice cb l.length cc)])),(3,(.pointer (aD z1))),(4,(str [])),(5,(.slice kb i kc)),(12,(.slice cb l.length cc)),(13,vI (l.length:Int)),(14,vN i)] ρ) (fun i=>l.length-i) 0 ?_ ?_
 ·exact⟨none,0,F,bl _,(.of F)⟩
 rintro i ρ O ⟨kb,kc,rfl,hi,hH⟩
 obtain⟨gA,rfl⟩:=hH.elim
 clear hH
 refine aj (ae cU (ah (aR (aZ F (fun hc=>?_) (fun hc=>?_)))))
 ·have oN:i<l.length:=by omega
  have hgy:=hg _ (aN oN)
  refine aL (aR (aV (aj (ae (eA (i:=i) ow jz F F (aK hl) oN (by rw[pU];omega)) (ae (eW (vs:=[vI l[i].k,vN (l[i].s),(.slice l[i].r.b l[i].r.o.length l[i].r.c)]) lW F jz F F (bu _) (aK hl) (sX oN)) (aq (bs jz (fun z2=>?_))))))))
  refine aq (cq (vs:=[vI l[i].k,vN (l[i].s),(.slice l[i].r.b l[i].r.o.length l[i].r.c)]) 0 jz ?_)
  refine ah (bg (ai F (ae (eN 0 lW jz) ?_)))
  have mx:=fun(w1:World) (hI:Inv w [oI z2 169 [vI l[i].k,vN (l[i].s),(.slice l[i].r.b l[i].r.o.length l[i].r.c)],av kb kc 9 1 (strs ((l.take i).map fun y=>y.cf.key)),oI z1 122 [(.slice bb bh.length bc),(.slice cb l.length cc)]] w1)=>(haveI:=ef hI;F7 w1 l[i].k l[i].s l[i].r (hI.sl (DZ _ (aN oN))) (hgy.num hG) (hgy.Vb hG))
  refine aq (bm F8 (aX mx) ?_)
  clear mx
  rintro vr O' ⟨N,rfl,rfl,rfl⟩
  refine aq (cR (v:=str l[i].cf.key) D6 FK F F F (fun z3=>?_))
  refine aq (dq 2 D6 D6 FK F F F F (by rw[yy,ar,cw];omega) (by decide) (Src.row (j:=0) F (by simp)) (by rfl) (by omega) (by decide) (by decide) (fun z4 KB=>?_))
  refine ak F (ah (bg (ae (dr (a:=i) (b:=1) F F (by omega)) (ai F (ah ?_)))))
  exact⟨i+1,by omega,[av z4 KB 9 1 ((strs ((l.take i).map fun y=>y.cf.key))++[str l[i].cf.key]),oI z1 122 [(.slice bb bh.length bc),(.slice cb l.length cc)]],(by exact Sub.d (.d (.k (.k .z)))),z4,KB,by rw[aH oN,bj];simp[strs],by omega,(.of F)⟩
 have GV: ¬i<l.length:=by omega
 refine cG ?_
 refine aj (ai F ?_)
 have qV:=(show cj _ _ _ _ _ (fun v O'=> ∃A',O'=A'++[oI z1 122 [(.slice bb bh.length bc),(.slice cb l.length cc)]]∧(v=Value.tuple #[]∧A'=[av kb kc 9 1 (strs ((l.map fun y=>y.cf.key).mergeSort xj))]))from by
   have h9:=Na w kb kc ((l.take i).map fun y=>y.cf.key) (by rw[ar,cw];omega)
   rw[ar,cw,Nat.min_eq_left hi]at h9
   have e9:(l.map fun y=>y.cf.key).mergeSort xj=((l.take i).map fun y=>y.cf.key).mergeSort xj:=by rw[br (show l.length≤i by omega)]
   rw[e9]
   exact h9.under (B:=[oI z1 122 [(.slice bb bh.length bc),(.slice cb l.length cc)]]) (by exact Sub.rf))
 refine aq (bm Vx qV ?_)
 clear qV
 rintro vr O' ⟨A1,rfl,rfl,rfl⟩
 refine ah (aj (ae (bt my cZ) (ae (bq 1 cL) ?_)))
 have DM:=fun(w1:World) (hI:Inv w [av kb kc 9 1 (strs ((l.map fun y=>y.cf.key).mergeSort xj)),oI z1 122 [(.slice bb bh.length bc),(.slice cb l.length cc)]] w1)=>(haveI:=ef hI;(show cn _ _ _ _ (fun v N=> ∃b' c',v=Value.slice b' (iU (bh.map fun y:Nat=>(y:Int))).length c'∧N=[av b' c' 5 1 (dn (iU (bh.map fun y:Nat=>(y:Int))))])from by
   have h9:=Ht w1 bb bc (bh.map fun y:Nat=>(y:Int)) (by rw[gr];exact hI.sl Vw) hbn (by rw[ar];omega)
   rw[ar]at h9
   exact h9))
 refine aq (bm vi (aX DM) ?_)
 clear DM
 rintro vr O' ⟨N,rfl,jb,jc,rfl,rfl⟩
 
 refine ak F (ah (aR (aj (ai F (ae (cQ D6) (ai F (ah (aV ?_))))))))
 obtain⟨ks,oQ⟩: ∃k,k=(l.map fun y=>y.cf.key).mergeSort xj:=⟨_,F⟩
 have n6:ks.length=l.length:=by rw[oQ,List.length_mergeSort,ar]
 have xf:i=l.length:=by omega
 have O5: ∀k∈ks,k.length≤400:=fun k hk=>by
  rw[oQ]at hk
  obtain⟨y,hy,rfl⟩:=List.mem_map.1 ((List.mem_mergeSort).1 hk)
  have h1:=pS ((hg y hy).num hG);have h2:=P0 y hy
  have h3:y.cf.nums.length=y.r.o.length*2+2:=by show(sY y.r.o).length+1+1=_;rw[Hy]
  have h4:y.cf.key=iU y.cf.nums:=rfl
  rw[h4];omega
 refine dc (O':=[av jb jc 5 1 (dn (iU (bh.map fun y:Nat=>(y:Int)))),av kb kc 9 1 (strs ks),oI z1 122 [(.slice bb bh.length bc),(.slice cb l.length cc)]]) (by rw[oQ];exact(by exact Sub.rf)) ?_
 refine dZ (fun(j:Nat) ρ O=> ∃(tb:Option Addr) (tc:Nat),O=[av tb tc 5 1 (dn (iU (bh.map fun y:Nat=>(y:Int))++(ks.take j).flatMap (fun k=>124::k))),av kb kc 9 1 (strs ks),oI z1 122 [(.slice bb bh.length bc),(.slice cb l.length cc)]]∧j≤i∧df [(1,(.agg #[(.slice bb bh.length bc),(.slice cb l.length cc)])),(3,(.pointer (aD z1))),(4,(str [])),(5,(.slice kb i kc)),(8,(.slice tb ((iU (bh.map fun y:Nat=>(y:Int))++(ks.take j).flatMap (fun k=>124::k)).length) tc)),(29,(.slice kb i kc)),(30,vI (i:Int)),(31,vN j)] ρ) (fun j=>i-j) 0 ?_ ?_
 ·exact⟨jb,jc,by simp,bl _,⟨F,F,F,F,(show Value.slice jb (iU (bh.map fun y:Nat=>(y:Int))).length jc=_ by simp),F,F,F,trivial⟩⟩
 rintro j ρ O ⟨tb,tc,rfl,hj,hH⟩
 obtain⟨gA,rfl⟩:=hH.elim
 clear hH
 have ug:((ks.take j).flatMap (fun k=>(124:UInt8)::k)).length≤401*ks.length:=by
  have TU:=D5 (B:=401) (f:=fun k:Key=>(124:UInt8)::k) (l:=ks.take j) (fun k hk=>by have:=O5 k (List.mem_of_mem_take hk);simp;omega)
  have:=List.length_take_le j ks
  exact bo TU (Nat.mul_le_mul_left _ (by rw[cw];omega))
 have L9:=pS hbn
 rw[ar]at L9
 refine aj (ae cU (ah (aR (aZ F (fun hc=>?_) (fun hc=>?_)))))
 ·have ZX:j<i:=by omega
  have TS:j<ks.length:=by omega
  have hkj:=O5 _ (aN TS)
  refine aL (aR (aV (aj (ae (dX (i:=j) D6 FK F F (dT (mG 1)) ZX (by rw[yy];exact TS)) (ae (cS wh F F (dT (mG 1)) (Nb TS)) (ak F (ah (bg (ai F (aq (cR (v:=.int .u8 124) kC eD F F F (fun z6=>?_))))))))))))
  refine aq (dq 1 kC kC eD F F F F (by first|(simp;done)|(simp;omega)) (by decide) (Src.row (j:=0) F (by simp)) (by simp[fF]) (by simp only[aP];omega) (by decide) (by decide) (fun z7 Dk=>?_))
  refine ai F (aq (Aw (l:=ks[j].length) (s:=ks[j]) 1 kC wh eD F F F F (by first|(simp;done)|(simp;omega)) F (by simp only[aP];omega) (by decide) (by decide) (fun z9 pP=>?_)))
  refine ak F (ah (bg (ae (dr (a:=j) (b:=1) F F (by omega)) (ai F (ah ?_)))))
  have e9:iU (bh.map fun y:Nat=>(y:Int))++(ks.take (j+1)).flatMap (fun k=>124::k)=iU (bh.map fun y:Nat=>(y:Int))++(ks.take j).flatMap (fun k=>124::k)++[124]++ks[j]:=by rw[aH TS,List.flatMap_append];simp
  exact⟨j+1,by omega,[av z9 pP 5 1 (((dn (iU (bh.map fun y:Nat=>(y:Int))++(ks.take j).flatMap (fun k=>124::k)))++[.int .u8 124])++dn ks[j]),av kb kc 9 1 (strs ks),oI z1 122 [(.slice bb bh.length bc),(.slice cb l.length cc)]],(by exact Sub.d (.k (.k (.k .z)))),z9,pP,by rw[e9];simp[dn],by omega,⟨F,F,F,F,(au (fun n9:Nat=>Value.slice z9 n9 pP) (by rw[e9];simp;omega)),F,F,F,trivial⟩⟩
 have afM: ¬j<i:=by omega
 refine cG ?_
 refine aj (ai F (ae (CV (l:=iU (bh.map fun y:Nat=>(y:Int))++(ks.take j).flatMap (fun k=>124::k)) kC wh gH F (mG 0) F) (ak F (ah (aM (aB ?_))))))
 refine aT (str (iU (bh.map fun y:Nat=>(y:Int))++(ks.take j).flatMap (fun k=>124::k))) results76 F ?_
 exact⟨[],Sub.z,by rw[br (show ks.length≤j by omega),oQ];unfold St.key;rw[List.map_map];rfl,F⟩
end Go.Proofs.YtgdbfideeeegmaaGreatDoor

