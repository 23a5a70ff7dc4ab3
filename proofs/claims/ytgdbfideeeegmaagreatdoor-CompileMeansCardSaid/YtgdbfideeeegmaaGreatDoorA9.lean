/- Contracts of functions; conditions: those each theorem names. -/
import Derived.Test.YtgdbfideeeegmaaGreatDoorA8
set_option linter.unusedSectionVars false
set_option linter.unusedSimpArgs false
set_option linter.unusedVariables false
set_option linter.unnecessarySimpa false
set_option maxHeartbeats 8000000
set_option maxRecDepth 20000
namespace Go.Lx
open Go.RowKit
set_option maxRecDepth 100000
def aeo:List En:=[⟨0,0,0,0⟩,⟨1,1,0x0,1⟩,⟨4,5,0x43434343444444444321,10⟩,⟨4,4,0x3333222230302211,5⟩,⟨8,4,0x33333333303030303021110033221100,3⟩,⟨8,8,0x3333333373737373736251403322110033333333737373737362514033221100,240⟩,⟨4,5,0x22222222212121214321,10⟩,⟨3,4,0x333222303221,5⟩,⟨8,5,0x4444444444444242444444444242424244332211,25⟩,⟨5,6,0x333335353333333222224433322221,27⟩,⟨8,6,0x555555555555555554545454222222223322332222221111,41⟩,⟨4,5,0x43434343222233332211,17⟩,⟨8,7,0x65656565656565656666666666666666222222226543654322221111,41⟩,⟨8,4,0x32103113222222223210321022221111,9⟩,⟨4,4,0x3333111111113210,3⟩,⟨4,5,0x33333333222243332210,11⟩,⟨8,7,0x54635463443344334433443354635463444444445454545444332211,97⟩,⟨8,6,0x405352104444444440040440405352104433221144332211,33⟩,⟨5,5,0x3333333331434313333133221,3⟩,⟨8,6,0x332211005342110033333333535353535342110033221100,3⟩,⟨4,4,0x3333333033103210,1⟩,⟨3,4,0x222222232100,6⟩,⟨3,5,0x333333343211111,12⟩,⟨8,7,0x66666666666666664433443365666566444444446565656544332211,74⟩,⟨4,4,0x1111313111112211,7⟩,⟨3,4,0x333222333210,8⟩,⟨8,6,0x444444444444444433333333545454545444445433221100,22⟩,⟨8,4,0x33333333323232233222111033221100,6⟩,⟨8,6,0x555555555555555554324352543243525432110054321100,26⟩,⟨8,6,0x555555555555555533333333545454545455555433221100,38⟩,⟨8,8,0x7676766776767667777777777777777777553300775533007654321076543210,86⟩,⟨8,8,0x7777777777777777765476457654764576763223767632237654321076543210,86⟩]
def abb:List (Nat×Nat):=[(7424,3280899),(14848,73735),(16384,1),(17152,508218707976),(21760,142857994249),(23296,508218707978),(24576,3280907),(24832,508218707980),(25088,306637381901),(27136,443539333892),(27648,3277070),(27904,587206927),(30208,508218707984),(30464,443794194705),(30976,443539333892),(32000,287764971538),(32768,442402939667),(33280,807407636),(66320,74261),(66576,74262),(66832,508218707991),(66839,215590506498),(67082,69559390232),(67087,2162969),(67088,443539333914),(67095,69559390214),(67096,508216680476),(67080,508216488453),(71685,508218707997),(71686,508218704155),(71682,443541553413),(74498,508218704158),(78594,508218704159)]
def Ru (i:Nat):En:=aeo.getD i ⟨0,0,0,0⟩
noncomputable def lk7 (l:List (Nat×Nat)) (k:Nat):Nat:=List.rec (motive:=fun _=>Nat) 0 (fun y _ ih=>cond (Nat.beq k y.1) y.2 ih) l
noncomputable def WL (m:Mc) (L:List Nat):Bool:=z_ L m.s0&&(yV L (fun s=>uI m.c fun x=>fo (m.st s x) (z_ L))&&Nat.ble L.length 11)
noncomputable def okF (m:Mc) (ct:Nat):Bool:=
 Nat.blt (ct%256) 32&&(uI m.c (fun x=>Nat.blt (((ct/256)>>>(4*x))%16) (Ru (ct%256)).c)&&Xs m (Ru (ct%256)) (ct/256) (N8 m.c (fun s x=>m.st (s/16) x*16+(Ru (ct%256)).to (s%16) (((ct/256)>>>(4*x))%16)) 80 [m.s0*16] [m.s0*16]))
noncomputable def Rv (key:Nat) (m:Mc):Bool:=fo (lk7 abb key) fun ct=>cond (Nat.beq ct 0) (WL m (N8 m.c m.st 12 [m.s0] [m.s0])) (okF m ct)
theorem aep:((List.range 31).all fun i=>Nat.ble (Ru (i+1)).n 11&&(Nat.blt 0 (Ru (i+1)).n&&uI (Ru (i+1)).n fun s=>uI (Ru (i+1)).c fun x=>Nat.blt ((Ru (i+1)).to s x) (Ru (i+1)).n))=true:=by kernel_rfl
theorem Ir {v:Nat} (hv:v≤6) {key:Nat} {m:Mc} {p:Lg} (h:Rv key m=true) (hr:uH v m p): ∃D,HasL (v:Int) 11 D p:=by
 unfold Rv at h
 rw[EF]at h
 generalize lk7 abb key=ct at h
 cases hb:Nat.beq ct 0 with
 |true=>
  rw[hb]at h
  have h:WL m (N8 m.c m.st 12 [m.s0] [m.s0])=true:=h
  generalize N8 m.c m.st 12 [m.s0] [m.s0]=L at h
  unfold WL at h
  rw[ay,ay,vC]at h
  obtain⟨h1,h2,h3⟩:=h
  have h3:=Nat.le_of_ble_eq_true h3
  obtain⟨D,hD⟩:=tw hv hr (L:=L) (ru.1 h1) (fun s hs x hx=>by have:=j6.1 (h2 s hs) x hx;rwa[EF,ru]at this) (by omega)
  exact⟨D,hD.le (bo hD.len h3)⟩
 |false=>
  rw[hb]at h
  have h:okF m ct=true:=h
  unfold okF at h
  rw[ay,ay,j6]at h
  obtain⟨h0,h1,h2⟩:=h
  have h0:ct%256<32:=Nat.le_of_ble_eq_true h0
  have M7:=Ib h2 (fun x hx=>by have:=h1 x hx;exact Nat.le_of_ble_eq_true this) hr
  have hz:ct%256≠0:=by
   intro hz
   rw[hz]at M7
   obtain⟨k,k1,_⟩:=M7
   exact absurd (k1 0 (Nat.pos_of_ne_zero (by simp))) (by show¬k 0<0;omega)
  have h4:=List.all_eq_true.1 aep (ct%256-1) (List.mem_range.2 (by omega))
  rw[show ct%256-1+1=ct%256 by omega,ay,ay,j6]at h4
  exact Ii hv M7 (Nat.le_of_ble_eq_true h4.1) (by decide) (Nat.le_of_ble_eq_true h4.2.1) (fun s hs x hx=>Nat.le_of_ble_eq_true (j6.1 (h4.2.2 s hs) x hx))
noncomputable def GI (op i j:Nat) (f:En→En→Mc):Bool:=(J5.getD i []).all fun x=>(J5.getD j []).all fun y=>Rv ((op*256+x)*256+y) (f (mK x) (mK y))
theorem uN {v:Nat} (hv:v≤6) {op i j:Nat} {f:En→En→Mc} (h:GI op i j f=true) {a b:En} (ha:Pm i a) (hb:Pm j b) {p:Lg} (hr:uH v (f a b) p): ∃D,HasL (v:Int) 11 D p:=by
 obtain⟨x,hx,rfl⟩:=ha
 obtain⟨y,hy,rfl⟩:=hb
 exact Ir hv (List.all_eq_true.1 (List.all_eq_true.1 h x hx) y hy) hr
theorem s7:((J5.getD 6 []).all fun i=>Rv (i*256) (nY (mK i)))=true:=by kernel_rfl
theorem c15:GI 1 1 5 pk=true:=by kernel_rfl
theorem c24:GI 1 2 4 pk=true:=by kernel_rfl
theorem c33:GI 1 3 3 pk=true:=by kernel_rfl
theorem c42:GI 1 4 2 pk=true:=by kernel_rfl
theorem c51:GI 1 5 1 pk=true:=by kernel_rfl
theorem o15:GI 2 1 5 (lQ or)=true:=by kernel_rfl
theorem o24:GI 2 2 4 (lQ or)=true:=by kernel_rfl
theorem o33:GI 2 3 3 (lQ or)=true:=by kernel_rfl
theorem a15:GI 3 1 5 (lQ and)=true:=by kernel_rfl
theorem a24:GI 3 2 4 (lQ and)=true:=by kernel_rfl
theorem a33:GI 3 3 3 (lQ and)=true:=by kernel_rfl
theorem c7 {i j:Nat} (hi:1≤i) (hj:1≤j) (h:i+j=6):GI 1 i j pk=true:=by
 rcases(show(i=1∧j=5)∨(i=2∧j=4)∨(i=3∧j=3)∨(i=4∧j=2)∨(i=5∧j=1) by omega)with⟨rfl,rfl⟩|⟨rfl,rfl⟩|⟨rfl,rfl⟩|⟨rfl,rfl⟩|⟨rfl,rfl⟩
 ·exact c15
 ·exact c24
 ·exact c33
 ·exact c42
 ·exact c51
theorem o7 {i j:Nat} (hi:1≤i) (KD:i≤j) (h:i+j=6):GI 2 i j (lQ or)=true∧GI 3 i j (lQ and)=true:=by
 rcases(show(i=1∧j=5)∨(i=2∧j=4)∨(i=3∧j=3) by omega)with⟨rfl,rfl⟩|⟨rfl,rfl⟩|⟨rfl,rfl⟩
 ·exact⟨o15,a15⟩
 ·exact⟨o24,a24⟩
 ·exact⟨o33,a33⟩
theorem Bc {v:Nat} (hv:v≤6): ∀ {t:Rx},t.plain=true→t.sz=7→ ∃D,HasL (v:Int) 11 D (fx t)
 | .none,_,hs=>absurd hs (by decide)
 | .empty,_,hs=>absurd hs (by decide)
 | .letter p n,_,hs=>absurd (show 1=7 from hs) (by decide)
 | .not a,hp,hs=>by
  have hs:a.sz+1=7:=hs
  obtain⟨e,h1,h2⟩:=ii (v:=v) a hp (by omega)
  have hk:a.sz=6:=by omega
  rw[hk]at h1
  obtain⟨_,h3,h4,h5⟩:=vE h1 (aS 6)
  have hb:e.n≤8:=h3
  obtain⟨D,hD⟩:=tw hv (Ic h2) (L:=List.range e.n) (List.mem_range.2 h4) (fun s hs x hx=>List.mem_range.2 (h5 s (List.mem_range.1 hs) x hx)) (by simp;omega)
  exact⟨D,hD.le (bo hD.len (by simp;omega))⟩
 | .star a,hp,hs=>by
  have hs:a.sz+1=7:=hs
  obtain⟨e,h1,h2⟩:=ii (v:=v) a hp (by omega)
  have hk:a.sz=6:=by omega
  rw[hk]at h1
  have hf:=(vE h1 (aS 6)).1
  obtain⟨i,hi,rfl⟩:=h1
  exact Ir hv (List.all_eq_true.1 s7 i hi) (EH hf h2)
 | .ie a b,hp,hs=>by
  have hs:a.sz+b.sz+1=7:=hs
  simp only[Rx.plain,ay]at hp
  have pa:=a.eU;have pb:=b.eU
  obtain⟨e,h1,h2⟩:=ii (v:=v) a hp.1 (by omega)
  obtain⟨f,k1,k2⟩:=ii (v:=v) b hp.2 (by omega)
  exact uN hv (c7 pa pb (by omega)) h1 k1 (If h2 k2)
 | .iu a b,hp,hs=>by
  have hs:a.sz+b.sz+1=7:=hs
  simp only[Rx.plain,ay]at hp
  have pa:=a.eU;have pb:=b.eU
  obtain⟨e,h1,h2⟩:=ii (v:=v) a hp.1 (by omega)
  obtain⟨f,k1,k2⟩:=ii (v:=v) b hp.2 (by omega)
  rcases Nat.le_total a.sz b.sz with c|c
  ·exact uN hv (o7 pa c (by omega)).1 h1 k1 (rv or h2 k2)
  ·exact uN hv (o7 pb c (by omega)).1 k1 h1 ((rv or k2 h2).to (q:=fx (.iu a b)) fun w=>Bool.or_comm _ _)
 | .and a b,hp,hs=>by
  have hs:a.sz+b.sz+1=7:=hs
  simp only[Rx.plain,ay]at hp
  have pa:=a.eU;have pb:=b.eU
  obtain⟨e,h1,h2⟩:=ii (v:=v) a hp.1 (by omega)
  obtain⟨f,k1,k2⟩:=ii (v:=v) b hp.2 (by omega)
  rcases Nat.le_total a.sz b.sz with c|c
  ·exact uN hv (o7 pa c (by omega)).2 h1 k1 (rv and h2 k2)
  ·exact uN hv (o7 pb c (by omega)).2 k1 h1 ((rv and k2 h2).to (q:=fx (.and a b)) fun w=>Bool.and_comm _ _)
 | .ahead a,hp,_=>absurd hp (by simp[Rx.plain])
 | .behind a,hp,_=>absurd hp (by simp[Rx.plain])
theorem Tl {v:Nat} (hv:v≤6) {t:Rx} (hp:t.plain=true) (hs:t.sz≤8):kv v t 4096:=by
 refine aen hv (fun {t} hp hs ho=>?_) hp hs
 by_cases h:t.sz≤6
 ·have h1:=f_ hv (aS 4096) hp ho h
  have h2:=j5 t.sz h
  omega
 ·obtain⟨D,hD⟩:=Bc hv hp (show t.sz=7 by omega)
  exact(di hv (aS 4096) hp ho).wi hD
open Go.RowKit Go.Proofs.YtgdbfideeeegmaaGreatDoor
def Rx.tC:Rx→List Rx
 | .ie a b| .iu a b=>a.tC++b.tC
 |t=>[t]
def oR:Rx→Nat
 | .ahead _=>1
 | .behind _=>2
 |_=>0
def zl:Rx→Nat
 | .ahead a| .behind a=>a.sz
 |t=>t.sz
def wR (t:Rx):Nat:=zl t+(if oR t=0 then 0 else 1)
theorem Cu {t:Rx} (h:t.leaf=true):t.tC=[t]∧wR t=t.sz∧t.lv=1:=by
 cases t<;>first|(cases h;done)|exact⟨F,F,F⟩
theorem r_: ∀t:Rx,t.tC.length=t.lv
 | .ie a b| .iu a b=>by show(a.tC++b.tC).length=a.lv+b.lv;rw[aP,r_ a,r_ b]
 | .none| .empty| .letter _ _| .and _ _| .not _| .star _| .ahead _| .behind _=>rfl
theorem Cv: ∀t:Rx,(t.tC.map fun r=>wR r+1).sum=t.sz+1
 | .ie a b| .iu a b=>by
  show((a.tC++b.tC).map fun r=>wR r+1).sum=a.sz+b.sz+1+1
  rw[bj,List.sum_append,Cv a,Cv b];omega
 | .none| .empty| .letter _ _| .and _ _| .not _| .star _| .ahead _| .behind _=>rfl
theorem rB: ∀t:Rx,∀r∈t.tC,r.leaf=true
 | .ie a b,r,h| .iu a b,r,h=>(List.mem_append.1 h).elim (rB a r) (rB b r)
 | .none,r,h| .empty,r,h| .letter _ _,r,h| .and _ _,r,h| .not _,r,h| .star _,r,h| .ahead _,r,h| .behind _,r,h=>by rw[List.mem_singleton.1 h];rfl
theorem GN: ∀ {t:Rx},t.wf=true→ ∀r∈t.tC,r.wf=true
 | .ie a b,hw,r,h| .iu a b,hw,r,h=>by
  simp only[Rx.wf,ay]at hw
  exact(List.mem_append.1 h).elim (GN hw.1 r) (GN hw.2 r)
 | .none,hw,r,h| .empty,hw,r,h| .letter _ _,hw,r,h| .and _ _,hw,r,h| .not _,hw,r,h| .star _,hw,r,h| .ahead _,hw,r,h| .behind _,hw,r,h=>by rw[List.mem_singleton.1 h];exact hw
theorem W4 {v:Nat} {LS:List Lf}: ∀ {t:Rx} {n:Nat} {E:List Nat} {l:Bool},zZ v LS t n E l→ ∀i,i<t.lv→ ∃r,t.tC[i]? =some r∧(lf LS (n+i)).op=(eP v r).op∧(lf LS (n+i)).d=(eP v r).d:=by
 have leaf: ∀ {t:Rx},t.leaf=true→ ∀ {n:Nat} {E:List Nat} {l:Bool},zZ v LS t n E l→ ∀i,i<t.lv→ ∃r,t.tC[i]? =some r∧(lf LS (n+i)).op=(eP v r).op∧(lf LS (n+i)).d=(eP v r).d:=fun {t} hl {n E l} hi i h=>by
  obtain⟨e1,_,e3⟩:=Cu hl
  obtain⟨_,k2,k3,_,_⟩:=(rn hl).1 hi
  have:i=0:=by omega
  subst this
  exact⟨t,by rw[e1];rfl,k2,k3⟩
 have bin: ∀ {a b:Rx} {n:Nat} {E1 E2:List Nat} {l1 l2:Bool},(∀i,i<a.lv→ ∃r,a.tC[i]? =some r∧(lf LS (n+i)).op=(eP v r).op∧(lf LS (n+i)).d=(eP v r).d)→(∀i,i<b.lv→ ∃r,b.tC[i]? =some r∧(lf LS (n+a.lv+i)).op=(eP v r).op∧(lf LS (n+a.lv+i)).d=(eP v r).d)→ ∀i,i<a.lv+b.lv→ ∃r,(a.tC++b.tC)[i]? =some r∧(lf LS (n+i)).op=(eP v r).op∧(lf LS (n+i)).d=(eP v r).d:=fun {a b n _ _ _ _} ha hb i hi=>by
  rcases Nat.lt_or_ge i a.lv with c|c
  ·obtain⟨r,h1,h2⟩:=ha i c
   exact⟨r,by rw[bE (by rw[r_];exact c)];exact h1,h2⟩
  ·obtain⟨r,h1,h2⟩:=hb (i-a.lv) (by omega)
   rw[show n+a.lv+(i-a.lv)=n+i by omega]at h2
   exact⟨r,by rw[bM (by rw[r_];exact c),r_];exact h1,h2⟩
 intro t
 induction t with
 |ie a b kF lL=>exact fun hi=>bin (E1:=[]) (E2:=[]) (l1:=true) (l2:=true) (kF hi.1) (lL hi.2)
 |iu a b kF lL=>exact fun hi=>bin (E1:=[]) (E2:=[]) (l1:=true) (l2:=true) (kF hi.1) (lL hi.2)
 |none=>exact fun hi=>leaf (t:=.none) F hi
 |empty=>exact fun hi=>leaf (t:=.empty) F hi
 |letter p q=>exact fun hi=>leaf (t:=.letter p q) F hi
 |and a b _ _=>exact fun hi=>leaf (t:=.and a b) F hi
 |not a _=>exact fun hi=>leaf (t:=.not a) F hi
 |star a _=>exact fun hi=>leaf (t:=.star a) F hi
 |ahead a _=>exact fun hi=>leaf (t:=.ahead a) F hi
 |behind a _=>exact fun hi=>leaf (t:=.behind a) F hi
def Tt (o c:Nat):Nat:=cond (Nat.beq o 2) (2^tq c) 1
def Tu (o c:Nat):Nat:=cond (Nat.beq o 1) (bO c) 0
def Tv (o c:Nat):Nat:=cond (Nat.beq o 0) (bS c) 0
def W5 (b s:Nat) (l:Bool):Bool:=cond l (Nat.ble (b*2^s) 4096&&Nat.ble (b+1) 4096) true
def OP:Nat→Nat→Nat→Nat→Nat→Bool→Bool
 |0,_,b,_,s,l=>W5 b s l
 |f+1,r,b,o,s,l=>W5 b s l&&uI 9 fun c=>uI 3 fun k=>cond (Nat.beq c 0) true (cond (Nat.ble (c+1+cond (Nat.beq k 0) 0 1) r) (OP f (r-(c+1+cond (Nat.beq k 0) 0 1)) (b*Tt k c) (o*(Tu k c+1)) (s+o*Tv k c) (l||!Nat.beq k 0)) true)
set_option maxRecDepth 100000 in
theorem W6:OP 5 9 1 1 0 false=true:=by kernel_rfl
structure Fo where
 b:Nat
 o:Nat
 s:Nat
def KH (q:Fo):List (Nat×Nat)→Fo
 | []=>q
 |x::l=>KH ⟨q.b*Tt x.1 x.2,q.o*(Tu x.1 x.2+1),q.s+q.o*Tv x.1 x.2⟩ l
theorem IE: ∀(l:List (Nat×Nat)) {f r:Nat} {q:Fo} {k:Bool},OP f r q.b q.o q.s k=true→l.length≤f→(∀x∈l,x.1<3∧1≤x.2∧x.2<9)→(l.map fun x=>x.2+1+(if x.1=0 then 0 else 1)).sum≤r→(k=true∨ ∃x∈l,x.1≠0)→(KH q l).b*2^(KH q l).s≤4096∧(KH q l).b+1≤4096
 | [],f,r,q,k,h,_,_,_,hk=>by
  have hk:k=true:=hk.elim id fun⟨x,hx,_⟩=>by simp at hx
  subst hk
  have h2:W5 q.b q.s true=true:=by
   cases f with
   |zero=>exact h
   |succ f=>unfold OP at h;rw[ay]at h;exact h.1
  have h2:(Nat.ble (q.b*2^q.s) 4096&&Nat.ble (q.b+1) 4096)=true:=h2
  rw[ay]at h2
  exact⟨Nat.le_of_ble_eq_true h2.1,Nat.le_of_ble_eq_true h2.2⟩
 |x::l,0,r,q,k,h,hl,_,_,_=>absurd hl (by simp)
 |x::l,f+1,r,q,k,h,hl,hx,hs,hk=>by
  obtain⟨x1,x2,x3⟩:=hx x (by simp)
  unfold OP at h
  rw[ay,j6]at h
  have h2:=j6.1 (h.2 x.2 x3) x.1 x1
  rw[cD,List.sum_cons]at hs
  have e0:Nat.beq x.2 0=false:=by
   cases hb:Nat.beq x.2 0 with
   |false=>rfl
   |true=>have:=Nat.eq_of_beq_eq_true hb;omega
  have ew:cond (Nat.beq x.1 0) 0 1=if x.1=0 then 0 else 1:=by
   by_cases e:x.1=0
   ·rw[e];rfl
   ·rw[aA e]
    cases hb:Nat.beq x.1 0 with
    |false=>rfl
    |true=>exact absurd (Nat.eq_of_beq_eq_true hb) e
  rw[e0,ew]at h2
  have eb:Nat.ble (x.2+1+if x.1=0 then 0 else 1) r=true:=Nat.ble_eq_true_of_le (by omega)
  rw[eb]at h2
  refine IE l (q:=⟨q.b*Tt x.1 x.2,q.o*(Tu x.1 x.2+1),q.s+q.o*Tv x.1 x.2⟩) h2 (by simp at hl;omega) (fun y hy=>hx y (by simp[hy])) (by omega) ?_
  rcases hk with hk|⟨y,hy,pL⟩
  ·exact .inl (by rw[hk];rfl)
  ·rcases List.mem_cons.1 hy with rfl|hy
   ·refine .inl ?_
    rw[Bool.or_eq_true];refine .inr ?_
    cases hb:Nat.beq y.1 0 with
    |false=>rfl
    |true=>exact absurd (Nat.eq_of_beq_eq_true hb) pL
   ·exact .inr ⟨y,hy,pL⟩
theorem E6: ∀(l:List (Nat×Nat)) (q:Fo) (x:Nat×Nat),KH q (l++[x])=⟨(KH q l).b*Tt x.1 x.2,(KH q l).o*(Tu x.1 x.2+1),(KH q l).s+(KH q l).o*Tv x.1 x.2⟩
 | [],q,x=>rfl
 |y::l,q,x=>E6 l _ x
theorem Tw {l:List (Nat×Nat)} {mS mO mB:Nat→List Nat}: ∀n,n≤l.length→(∀k,(h:k<l.length)→(mB k).length≤Tt l[k].1 l[k].2∧(mO k).length≤Tu l[k].1 l[k].2∧(mS k).length≤Tv l[k].1 l[k].2)→Ts mB n≤(KH ⟨1,1,0⟩ (l.take n)).b∧prO mO n≤(KH ⟨1,1,0⟩ (l.take n)).o∧prS mS mO n≤(KH ⟨1,1,0⟩ (l.take n)).s
 |0,_,_=>⟨aS _,aS _,aS _⟩
 |n+1,hn,h=>by
  obtain⟨i1,i2,i3⟩:=Tw n (by omega) h
  obtain⟨k1,k2,k3⟩:=h n (by omega)
  rw[aH (by omega),E6]
  exact⟨Nat.mul_le_mul i1 k1,Nat.mul_le_mul i2 (by omega),Nat.add_le_add i3 (Nat.mul_le_mul i2 k3)⟩
theorem GO {v:Nat} (hv:v≤6) {t:Rx} (hp:t.plain=true) (hs:t.sz≤7):kv v t 4096∧(minOf v (fx t)).next.length≤tq t.sz:=by
 have ho:=Tl hv hp (by omega)
 refine⟨ho,?_⟩
 by_cases h:t.sz≤6
 ·exact f_ hv (aS 4096) hp ho h
 ·have e:t.sz=7:=by omega
  obtain⟨D,hD⟩:=Bc hv hp e
  rw[e]
  exact(di hv (aS 4096) hp ho).wi hD
theorem Kq {v:Nat} (hv:v≤6): ∀ {t:Rx},t.wf=true→t.sz≤8→okB v t 4096
 | .ie a b,hw,hs=>by
  have hs:a.sz+b.sz+1≤8:=hs
  simp only[Rx.wf,ay]at hw
  exact⟨Kq hv hw.1 (by omega),Kq hv hw.2 (by omega)⟩
 | .iu a b,hw,hs=>by
  have hs:a.sz+b.sz+1≤8:=hs
  simp only[Rx.wf,ay]at hw
  exact⟨Kq hv hw.1 (by omega),Kq hv hw.2 (by omega)⟩
 | .ahead a,hw,hs=>by
  have hs:a.sz+1≤8:=hs
  obtain⟨h1,h2⟩:=GO hv (t:=a) hw (by omega)
  have hb: ∀k,k≤7→tq k≤11:=by decide
  have:=hb a.sz (by omega)
  exact⟨h1,kI (di hv (aS 4096) (t:=a) hw h1).valid (eV hv).valid (by show _*2^1≤4096;omega)⟩
 | .behind a,hw,hs=>by
  have hs:a.sz+1≤8:=hs
  obtain⟨h1,h2⟩:=GO hv (t:=a) hw (by omega)
  have hb: ∀k,k≤7→tq k≤11:=by decide
  have:=hb a.sz (by omega)
  have h4:2^(minOf v (fx a)).next.length≤2^11:=bV (by decide) (by omega)
  exact⟨h1,kI (eV hv).valid (di hv (aS 4096) (t:=a) hw h1).valid (by show 1*_≤4096;omega)⟩
 | .none,hw,hs=>Tl hv (t:=.none) hw hs
 | .empty,hw,hs=>Tl hv (t:=.empty) hw hs
 | .letter p n,hw,hs=>Tl hv (t:=.letter p n) hw hs
 | .and a b,hw,hs=>Tl hv (t:=.and a b) hw hs
 | .not a,hw,hs=>Tl hv (t:=.not a) hw hs
 | .star a,hw,hs=>Tl hv (t:=.star a) hw hs
theorem IF {x:Nat}: ∀ {l:List Nat},x∈l→x≤l.sum
 |y::l,h=>by
  rw[List.sum_cons]
  rcases List.mem_cons.1 h with rfl|h
  ·omega
  ·have:=IF h;omega
def Tx (v:Nat) (r:Rx):Prop:= ∃A B C:List Nat,A.length≤Tv (oR r) (zl r)∧B.length≤Tu (oR r) (zl r)∧C.length≤Tt (oR r) (zl r)∧
  (((eP v r).op≠9→(eP v r).op≠10→ ∀u x,iv (v:Int) u→x<2^v→eS (eP v r).d (runN (eP v r).d (eP v r).d.start.toNat u) x∈A)∧
  ((eP v r).op=9→ ∀u x,iv (v:Int) u→x<2^v→dF (eP v r).d (eS (eP v r).d (runN (eP v r).d (eP v r).d.start.toNat u) x)=false→eS (eP v r).d (runN (eP v r).d (eP v r).d.start.toNat u) x∈B)∧
  (if(eP v r).op=10 then∀q,q<(eP v r).d.next.length→q∈C else 0∈C))
theorem OQ {v:Nat} (hv:v≤6) {r:Rx} (hl:r.leaf=true) (hw:r.wf=true) (hs:wR r≤8):Tx v r:=by
 have rD:r.sz≤8:=by rw[←(Cu hl).2.1];exact hs
 have ho:=Kq hv hw rD
 have hL:=vy hv (aS 4096) hl hw ho
 have pl:oR r=0→zl r=r.sz→(eP v r).op=0→r.plain=true→NS r=fx r→Tx v r:=fun e1 e2 e3 e4 e5=>by
  rw[e5]at hL
  obtain⟨A,hA,hm⟩: ∃A:List Nat,A.length≤bS r.sz∧ ∀u x,iv (v:Int) u→x<2^v→eS (eP v r).d (runN (eP v r).d (eP v r).d.start.toNat u) x∈A:=by
   by_cases h6:r.sz≤6
   ·exact OM e4 h6 hL
   ·refine⟨List.range (eP v r).d.next.length,?_,fun u x hu hx=>?_⟩
    ·rw[g_,show bS r.sz=4096 by rcases(show r.sz=7∨r.sz=8 by omega)with e|e<;>rw[e]<;>rfl]
     exact hL.valid.n4
    ·have:=jI hL.valid.toVal (ei hL.valid.toVal) _ (hL.wd.2 (xu hu hx))
     rw[eQ]at this
     exact List.mem_range.2 this
  refine⟨A,[],[0],by rw[e1,e2];exact hA,by simp,by rw[e1];exact aS 1,fun _ _=>hm,fun h=>absurd (e3.symm.trans h) (by decide),?_⟩
  rw[e3];exact List.mem_singleton.2 F
 cases r with
 |ie a b=>cases hl
 |iu a b=>cases hl
 |none=>exact pl F F F hw F
 |empty=>exact pl F F F hw F
 |letter p n=>exact pl F F F hw F
 |and a b=>exact pl F F F hw F
 |not a=>exact pl F F F hw F
 |star a=>exact pl F F F hw F
 |ahead a=>
  have rD:a.sz+1≤8:=rD
  obtain⟨A,hA,hm⟩: ∃A:List Nat,A.length≤bO a.sz∧ ∀u x,iv (v:Int) u→x<2^v→dF (eP v (.ahead a)).d (eS (eP v (.ahead a)).d (runN (eP v (.ahead a)).d (eP v (.ahead a)).d.start.toNat u) x)=false→eS (eP v (.ahead a)).d (runN (eP v (.ahead a)).d (eP v (.ahead a)).d.start.toNat u) x∈A:=by
   by_cases h6:a.sz≤6
   ·exact ON hw h6 hL
   ·refine⟨List.range (eP v (.ahead a)).d.next.length,?_,fun u x hu hx _=>?_⟩
    ·rw[g_,show bO a.sz=4096 by rw[show a.sz=7 by omega];rfl]
     exact hL.valid.n4
    ·have:=jI hL.valid.toVal (ei hL.valid.toVal) _ (hL.wd.2 (xu hu hx))
     rw[eQ]at this
     exact List.mem_range.2 this
  exact⟨[],A,[0],by simp,hA,aS 1,fun h=>absurd F h,fun _=>hm,List.mem_singleton.2 F⟩
 |behind a=>
  have rD:a.sz+1≤8:=rD
  obtain⟨h1,h2⟩:=GO hv (t:=a) hw (by omega)
  have h4:2^(minOf v (fx a)).next.length≤2^tq a.sz:=bV (by decide) h2
  have hb: ∀k,k≤7→2^tq k≤4096:=by decide
  have h5:=kJ hv (hb a.sz (by omega)) (eV hv) (di hv (aS 4096) (t:=a) hw h1).toHasL (kI (eV hv).valid (di hv (aS 4096) (t:=a) hw h1).valid (by show 1*_≤_;omega))
  exact⟨[],[],List.range (eP v (.behind a)).d.next.length,by simp,by simp,by rw[g_];exact h5.len,fun _ h=>absurd F h,fun h=>absurd h (by show¬(10:Nat)=9;decide),fun q hq=>List.mem_range.2 hq⟩
theorem aeX {v:Nat} (hv:v≤6) {t:Rx} (hw:t.wf=true) (hs:t.sz≤8) (OY:t.plain=false):okC v t 4096:=by
 have ho:=Kq hv hw hs
 have ig:=r_ t
 have aeY:=Cv t
 have JE:t.lv≤4:=by
  have: ∀l:List Rx,(∀r∈l,r.leaf=true)→2*l.length≤(l.map fun r=>wR r+1).sum:=fun l=>by
   induction l with
   |nil=>simp
   |cons r l ih=>
    intro h
    have:=ih fun q hq=>h q (by simp[hq])
    have h1:=(Cu (h r (by simp))).2.1
    have h2:=r.eU
    rw[cD,List.sum_cons,bG];omega
  have:=this t.tC (rB t)
  omega
 have hG:=BH hv (aS 4096) hw (by omega) ho
 have hO:=uy v t
 refine⟨ho,?_⟩
 have Kn: ∀r∈t.tC,wR r≤8:=fun r hr=>by
  have:=IF (List.mem_map_of_mem (f:=fun r=>wR r+1) hr)
  omega
 classical
 have hk: ∀k,∃X:List Nat×List Nat×List Nat,k<t.lv→ ∃r,t.tC[k]? =some r∧X.1.length≤Tv (oR r) (zl r)∧X.2.1.length≤Tu (oR r) (zl r)∧X.2.2.length≤Tt (oR r) (zl r)∧
   (((lf (jn v t) k).op≠9→(lf (jn v t) k).op≠10→ ∀u x,iv (v:Int) u→x<2^v→eS (lf (jn v t) k).d (runN (lf (jn v t) k).d (lf (jn v t) k).d.start.toNat u) x∈X.1)∧
   ((lf (jn v t) k).op=9→ ∀u x,iv (v:Int) u→x<2^v→dF (lf (jn v t) k).d (eS (lf (jn v t) k).d (runN (lf (jn v t) k).d (lf (jn v t) k).d.start.toNat u) x)=false→eS (lf (jn v t) k).d (runN (lf (jn v t) k).d (lf (jn v t) k).d.start.toNat u) x∈X.2.1)∧
   (if(lf (jn v t) k).op=10 then∀q,q<(lf (jn v t) k).d.next.length→q∈X.2.2 else 0∈X.2.2)):=fun k=>by
  by_cases c:k<t.lv
  ·obtain⟨r,h1,h2,h3⟩:=W4 (Cj v t).1 k c
   rw[Nat.zero_add]at h2 h3
   have hr:=bJ h1
   obtain⟨A,B,C,a1,a2,a3,a4⟩:=OQ hv (rB t r hr) (GN hw r hr) (Kn r hr)
   exact⟨(A,B,C),fun _=>⟨r,h1,a1,a2,a3,by rw[h2,h3];exact a4⟩⟩
  ·exact⟨([],[],[]),fun h=>absurd h c⟩
 obtain⟨mX,hm⟩:=Classical.axiomOfChoice hk
 obtain⟨mS,hmS⟩: ∃m:Nat→List Nat,m=fun k=>(mX k).1:=⟨_,F⟩
 obtain⟨mO,hmO⟩: ∃m:Nat→List Nat,m=fun k=>(mX k).2.1:=⟨_,F⟩
 obtain⟨mB,hmB⟩: ∃m:Nat→List Nat,m=fun k=>(mX k).2.2:=⟨_,F⟩
 have W7: ∀k,(h:k<(t.tC.map fun r=>(oR r,zl r)).length)→(mB k).length≤Tt (t.tC.map fun r=>(oR r,zl r))[k].1 (t.tC.map fun r=>(oR r,zl r))[k].2∧(mO k).length≤Tu (t.tC.map fun r=>(oR r,zl r))[k].1 (t.tC.map fun r=>(oR r,zl r))[k].2∧(mS k).length≤Tv (t.tC.map fun r=>(oR r,zl r))[k].1 (t.tC.map fun r=>(oR r,zl r))[k].2:=fun k h=>by
  have hl:k<t.tC.length:=by simpa using h
  obtain⟨r,h1,h2,h3,h4,_⟩:=hm k (by omega)
  rw[ap hl]at h1
  injection h1 with h1
  simp only[jv,h1,hmS,hmO,hmB]
  exact⟨h4,h3,h2⟩
 have hp:=Tw (l:=t.tC.map fun r=>(oR r,zl r)) t.lv (by simp[ig]) W7
 rw[br (by simp[ig])]at hp
 have hn:=IE (t.tC.map fun r=>(oR r,zl r)) (q:=⟨1,1,0⟩) W6 (by simp;omega) (fun x hx=>?_) (by
  rw[List.map_map]
  have:(fun r:Rx=>wR r+1)=((fun x:Nat×Nat=>x.2+1+(if x.1=0 then 0 else 1))∘fun r=>(oR r,zl r)):=by
   funext r;show zl r+(if oR r=0 then 0 else 1)+1=zl r+1+(if oR r=0 then 0 else 1);omega
  rw[←this,aeY];omega) (.inr ?_)
 ·refine RT hG (H7 hv (aS 4096) hw ho) xk mS mO mB (fun k q x hk h9 wU hq hx=>?_) (fun k q x hk h9 hq hf hx hf2=>?_) (fun k hk=>?_) ?_ ?_
  ·obtain⟨r,_,_,_,_,a1,_,_⟩:=hm k (by omega)
   obtain⟨u,hu,rfl⟩:=hq
   rw[hmS];exact a1 h9 wU u x hu hx
  ·obtain⟨r,_,_,_,_,_,a2,_⟩:=hm k (by omega)
   obtain⟨u,hu,rfl⟩:=hq
   rw[hmO];exact a2 h9 u x hu hx hf2
  ·obtain⟨r,_,_,_,_,_,_,a3⟩:=hm k (by omega)
   rw[hmB];exact a3
  ·rw[hO]
   exact bo (Nat.mul_le_mul hp.1 (bV (by decide) hp.2.2)) hn.1
  ·rw[hO]
   exact bo (Nat.succ_le_succ hp.1) hn.2
 ·obtain⟨r,hr,rfl⟩:=List.mem_map.1 hx
  have h1:=Kn r hr
  have h2:=(Cu (rB t r hr)).2.1
  have h3:1≤zl r∧oR r<3:=by
   have:=r.eU
   cases r with
   |ahead a=>exact⟨a.eU,by simp[oR]⟩
   |behind a=>exact⟨a.eU,by simp[oR]⟩
   |_=>exact⟨this,by simp[oR]⟩
  refine⟨h3.2,h3.1,?_⟩
  show zl r<9
  unfold wR at h1;omega
 ·have: ∀ {t:Rx},t.wf=true→(∀r∈t.tC,oR r=0)→t.plain=true:=fun {t}=>by
   induction t with
   |ie a b kF lL=>
    intro hw h
    simp only[Rx.wf,ay]at hw
    simp only[Rx.plain,ay]
    exact⟨kF hw.1 fun r hr=>h r (aO _ hr),lL hw.2 fun r hr=>h r (ao _ hr)⟩
   |iu a b kF lL=>
    intro hw h
    simp only[Rx.wf,ay]at hw
    simp only[Rx.plain,ay]
    exact⟨kF hw.1 fun r hr=>h r (aO _ hr),lL hw.2 fun r hr=>h r (ao _ hr)⟩
   |ahead a _=>exact fun _ h=>absurd (h _ (List.mem_singleton.2 F)) (by show¬(1:Nat)=0;decide)
   |behind a _=>exact fun _ h=>absurd (h _ (List.mem_singleton.2 F)) (by show¬(2:Nat)=0;decide)
   |none=>exact fun hw _=>hw
   |empty=>exact fun hw _=>hw
   |letter _ _=>exact fun hw _=>hw
   |and _ _ _ _=>exact fun hw _=>hw
   |not _ _=>exact fun hw _=>hw
   |star _ _=>exact fun hw _=>hw
  refine Classical.byContradiction fun E8=>?_
  rw[this hw fun r hr=>Classical.byContradiction fun pL=>E8 ⟨_,List.mem_map_of_mem (f:=fun r=>(oR r,zl r)) hr,pL⟩]at OY
  cases OY
theorem sa {v:Nat} {e:List eC} {fs:List Nat} (h:ki v e=.ok fs): ∀(f i:Nat),i<f→i<e.length→(iE e f i).sz+fs.getD i 0=i+1∧((iE e f i).plain=true→ ∀j,fs.getD i 0≤j→j≤i→ ∀x,e[j]? =some x→iR x=false)
 |0,i,hf,hi=>absurd hf (by omega)
 |f+1,i,hf,hi=>by
  obtain⟨g0,g1,g2,g3⟩:=xe h hi
  obtain⟨s1,s2,_⟩:=kg (oq h hi)
  have A1:dU e[i].op=1→(iE e f e[i].a.toNat).sz+1+fs.getD i 0=i+1∧((iE e f e[i].a.toNat).plain=true→ ∀j,fs.getD i 0≤j→j<i→ ∀x,e[j]? =some x→iR x=false):=fun c=>by
   obtain⟨c1,c2,c3⟩:=g1 c
   obtain⟨k1,k2⟩:=sa h f (i-1) (by omega) (by omega)
   rw[show e[i].a.toNat=i-1 by omega,c3]
   exact⟨by omega,fun hp j h1 h2=>k2 hp j h1 (by omega)⟩
  have A2:dU e[i].op=2→(iE e f e[i].a.toNat).sz+(iE e f e[i].b.toNat).sz+1+fs.getD i 0=i+1∧(((iE e f e[i].a.toNat).plain&&(iE e f e[i].b.toNat).plain)=true→ ∀j,fs.getD i 0≤j→j<i→ ∀x,e[j]? =some x→iR x=false):=fun c=>by
   obtain⟨c1,c2,c3,c4,c5,c6⟩:=g2 c
   obtain⟨k1,k2⟩:=sa h f (i-1) (by omega) (by omega)
   obtain⟨m1,m2⟩:=sa h f (fs.getD (i-1) 0-1) (by omega) (by omega)
   have ea:e[i].a.toNat=fs.getD (i-1) 0-1:=by omega
   rw[ea]at c6
   rw[ea,show e[i].b.toNat=i-1 by omega,c6]
   refine⟨by omega,fun hp j h1 h2=>?_⟩
   rw[ay]at hp
   rcases Nat.lt_or_ge j (fs.getD (i-1) 0)with d|d
   ·exact m2 hp.1 j h1 (by omega)
   ·exact k2 hp.2 j d (by omega)
  have last:iR e[i]=false→(∀j,fs.getD i 0≤j→j<i→ ∀x,e[j]? =some x→iR x=false)→ ∀j,fs.getD i 0≤j→j≤i→ ∀x,e[j]? =some x→iR x=false:=fun h0 h1 j h2 h3 x hx=>by
   rcases Nat.lt_or_ge j i with d|d
   ·exact h1 j h2 d x hx
   ·have e2:j=i:=by omega
    subst e2
    rw[ap hi]at hx
    injection hx with hx
    rw[←hx];exact h0
  have lk: ∀n,e[i].op=n→n≠9→n≠10→iR e[i]=false:=fun n hn h9 wU=>by
   unfold iR;rw[hn,am h9,am wU];rfl
  have OR:dU e[i].op=0→ ∀j,fs.getD i 0≤j→j<i→ ∀x,e[j]? =some x→iR x=false:=fun c j h1 h2=>by
   have:=g3 c;omega
  unfold iE
  simp only[nV hi]
  have hk:e[i].op=1∨e[i].op=2∨e[i].op=3∨e[i].op=4∨e[i].op=5∨e[i].op=6∨e[i].op=7∨e[i].op=8∨e[i].op=9∨e[i].op=10:=by omega
  rcases hk with c|c|c|c|c|c|c|c|c|c
  ·have o0:dU e[i].op=0:=by rw[c];rfl
   have:=g3 o0
   have l0:=last (lk _ c (by decide) (by decide)) (OR o0)
   simp only[c]
   exact⟨by show 1+_=_;omega,fun _=>l0⟩
  ·have o0:dU e[i].op=0:=by rw[c];rfl
   have:=g3 o0
   have l0:=last (lk _ c (by decide) (by decide)) (OR o0)
   simp only[c]
   exact⟨by show 1+_=_;omega,fun _=>l0⟩
  ·have o0:dU e[i].op=0:=by rw[c];rfl
   have:=g3 o0
   have l0:=last (lk _ c (by decide) (by decide)) (OR o0)
   simp only[c]
   exact⟨by show 1+_=_;omega,fun _=>l0⟩
  ·obtain⟨k1,k2⟩:=A2 (by rw[c];rfl)
   have l0:=fun hp=>last (lk _ c (by decide) (by decide)) (k2 hp)
   simp only[c]
   exact⟨k1,l0⟩
  ·obtain⟨k1,k2⟩:=A2 (by rw[c];rfl)
   have l0:=fun hp=>last (lk _ c (by decide) (by decide)) (k2 hp)
   simp only[c]
   exact⟨k1,l0⟩
  ·obtain⟨k1,k2⟩:=A2 (by rw[c];rfl)
   have l0:=fun hp=>last (lk _ c (by decide) (by decide)) (k2 hp)
   simp only[c]
   exact⟨k1,l0⟩
  ·obtain⟨k1,k2⟩:=A1 (by rw[c];rfl)
   have l0:=fun hp=>last (lk _ c (by decide) (by decide)) (k2 hp)
   simp only[c]
   exact⟨k1,l0⟩
  ·obtain⟨k1,k2⟩:=A1 (by rw[c];rfl)
   have l0:=fun hp=>last (lk _ c (by decide) (by decide)) (k2 hp)
   simp only[c]
   exact⟨k1,l0⟩
  ·obtain⟨k1,k2⟩:=A1 (by rw[c];rfl)
   simp only[c]
   exact⟨k1,fun hp=>Bool.noConfusion (show false=true from hp)⟩
  ·obtain⟨k1,k2⟩:=A1 (by rw[c];rfl)
   simp only[c]
   exact⟨k1,fun hp=>Bool.noConfusion (show false=true from hp)⟩
theorem aeR {vars:Int} {e:List eC} (h0:iz vars e=0) (hs:e.length≤8):BG vars.toNat e 4096:=by
 obtain⟨h1,h2,h3,h4,fs,h5,h6,h7⟩:=nf h0
 obtain⟨k1,k2⟩:=sa h5 e.length (e.length-1) (by omega) (by omega)
 have hw:(ui e).wf=true:=(pX h5 e.length (e.length-1) (by omega) (by omega)).2 h7
 have hz:(ui e).sz≤8:=by unfold ui;omega
 have hv:vars.toNat≤6:=by omega
 unfold BG
 split
 ·rename_i hl
  refine aeX hv hw hz ?_
  cases hp:(ui e).plain with
  |false=>rfl
  |true=>
   obtain⟨x,hx,hl⟩:=List.any_eq_true.1 hl
   obtain⟨j,hj,rfl⟩:=List.getElem_of_mem hx
   rw[k2 hp j (by omega) (by omega) _ (ap hj)]at hl
   cases hl
 ·rename_i hl
  refine Tl hv (nU h5 (fun x hx=>?_) e.length (e.length-1) (by omega) (by omega)) hz
  have:=List.any_eq_false.1 (by simpa using hl:e.any iR=false) x hx
  unfold iR at this
  simp only[Bool.or_eq_true,bT]at this
  omega
def ko:cV:=⟨1,0,[[0,1],[2,3],[0,1],[2,3]],[false,false,true,true]⟩
def Sr:cV:=⟨0,0,[[1],[2],[2]],[false,true,false]⟩
theorem Jk:Valid ko:=eF.1 (by decide)
theorem Jl:Valid Sr:=eF.1 (by decide)
theorem P9:jm Sr=Sr:=by kernel_rfl
theorem P_:Lu Sr=Hg:=by kernel_rfl
theorem Qa:PN Sr=0:=by kernel_rfl
theorem Qb:jm ko=ko:=by kernel_rfl
theorem YP:ui zQ=.ie (.star (.letter 0 0)) (.ie (.letter 1 0) (.letter 0 0)):=by kernel_rfl
theorem Qc:ui uh=.ie (.ahead (.ie (.letter 0 0) (.letter 2 0))) (.star (.letter 0 0)):=by kernel_rfl
theorem okL {v:Nat} (hv:v≤6) (p n:Nat) {B:Nat} (hB:3≤B):kv v (.letter p n) B:=bo (ot (fY p n) hv (aS 1)).p9.len hB
theorem wT {v:Nat} (hv:v≤6) (p n:Nat):fQ (v:Int) 3 (minOf v (fx (.letter p n))) (fx (.letter p n)):=di hv (by decide) (t:=.letter p n) F (okL hv p n (aS 3))
theorem okS {v:Nat} (hv:v≤6):kv v (.star (.letter 0 0)) 4096:=
 ⟨okL hv 0 0 (by decide),uj (wT hv 0 0).valid (bo (bV (by decide) (Nat.succ_le_succ (wT hv 0 0).len)) (by decide))⟩
theorem okP {v:Nat} (hv:v≤6) (p n q m:Nat):kv v (.ie (.letter p n) (.letter q m)) 4096:=
 ⟨okL hv p n (by decide),okL hv q m (by decide),kI (wT hv p n).valid (wT hv q m).valid (bo (Nat.mul_le_mul (wT hv p n).len (bV (by decide) (wT hv q m).len)) (by decide))⟩
theorem YQ {v:Nat} (hv:v≤6) (p n q m:Nat):fQ (v:Int) 24 (minOf v (fx (.ie (.letter p n) (.letter q m)))) (fx (.ie (.letter p n) (.letter q m))):=
 kJ hv (by decide) (wT hv p n).toHasL (wT hv q m).toHasL (kI (wT hv p n).valid (wT hv q m).valid (Nat.mul_le_mul (wT hv p n).len (bV (by decide) (wT hv q m).len)))
theorem Du (u:List Nat):qQ (fx (.letter 0 0)) u=true:=by
 rw[rO]
 induction u with
 |nil=>exact .nil
 |cons x u ih=>
  refine iJ.sJ (x:=[x]) ?_ ih
  show([x].length==1&& [x].all (fY 0 0))=true
  simp[fY]
theorem Qd {p n:Nat} {y:List Nat} (h:fx (.letter p n) y=true): ∃x,y=[x]∧fY p n x=true:=by
 have h:(y.length==1&&y.all (fY p n))=true:=h
 rw[ay,beq_iff_eq]at h
 obtain⟨x,rfl⟩:=List.length_eq_one_iff.1 h.1
 exact⟨x,F,by simpa using h.2⟩
theorem Ss {v:Nat} (hv:v≤6):HasL (v:Int) 1 (fP (v:Int) true) (fx (.star (.letter 0 0))):=
 ⟨(eV hv).valid,(eV hv).len,F,fun w hw=>by rw[(eV hv).iH w hw];exact(Du w).symm⟩
theorem LZ {p n q m:Nat} {w:List Nat}:fx (.ie (.letter p n) (.letter q m)) w=true↔ ∃a b,w=[a,b]∧fY p n a=true∧fY q m b=true:=by
 constructor
 ·intro h
  obtain⟨y1,y2,rfl,h3,h4⟩:=gN.1 h
  obtain⟨a,rfl,ha⟩:=Qd h3
  obtain⟨b,rfl,hb⟩:=Qd h4
  exact⟨a,b,F,ha,hb⟩
 ·rintro⟨a,b,rfl,ha,hb⟩
  refine gN.2 ⟨[a],[b],F,?_,?_⟩
  ·show([a].length==1&& [a].all (fY p n))=true
   simp[ha]
  ·show([b].length==1&& [b].all (fY q m))=true
   simp[hb]
theorem sink {E:cV} {L s:Nat} (h: ∀x,x<L→eS E s x=s): ∀(u:List Nat),(∀x∈u,x<L)→runN E s u=s
 | [],_=>rfl
 |x::u,hu=>by
  show runN E (eS E s x) u=s
  rw[h x (hu x (by simp))]
  exact sink h u fun y hy=>hu y (by simp[hy])
def Ur:cV:=⟨1,0,[[1,2],[1,1],[3,3],[1,1]],[false,false,false,true]⟩
theorem Qe:HasL (1:Nat) 4 Ur (fx (.ie (.letter 1 0) (.letter 0 0))):=by
 refine⟨eF.1 (by decide),by decide,F,fun w hw=>?_⟩
 have hs:=sink (E:=Ur) (L:=2) (s:=1) (by decide)
 rw[dB,LZ]
 match w,hw with
 | [],_=>exact⟨fun h=>absurd h (by decide),fun⟨a,b,h,_⟩=>by cases h⟩
 | [a],hw=>
  have: ∀a,a<2→iH Ur [a]=false:=by decide
  exact⟨fun h=>absurd h (by rw[this a (hw a (by simp))];decide),fun⟨a,b,h,_⟩=>by cases h⟩
 | [a,b],hw=>
  have: ∀a,a<2→ ∀b,b<2→iH Ur [a,b]=fY 1 0 a:=by decide
  rw[this a (hw a (by simp)) b (hw b (by simp))]
  exact⟨fun h=>⟨a,b,F,h,by simp[fY]⟩,fun⟨a',b',h,h2,_⟩=>by cases h;exact h2⟩
 |a::b::c::u,hw=>
  have: ∀a,a<2→ ∀b,b<2→ ∀c,c<2→runN Ur 0 [a,b,c]=1:=by decide
  refine⟨fun h=>?_,fun⟨a,b,h,_⟩=>by cases h⟩
  have h:dF Ur (runN Ur 0 ([a,b,c]++u))=true:=h
  rw[kU,this a (hw a (by simp)) b (hw b (by simp)) c (hw c (by simp)),hs u fun x hx=>hw x (by simp[hx])]at h
  exact absurd h (by decide)
theorem acW:BG 1 zQ 4096:=by
 unfold BG;rw[aA (by decide),YP]
 have h1:=di (v:=1) (by decide) (aS 4096) (t:=.star (.letter 0 0)) F (okS (by decide))
 have h2:=YQ (v:=1) (by decide) 1 0 0 0
 exact⟨okS (by decide),okP (by decide) 1 0 0 0,kI h1.valid h2.valid (bo (Nat.mul_le_mul (h1.wi (Ss (by decide))) (bV (by decide) (h2.wi Qe))) (by decide))⟩
def Qg:cV:=⟨2,0,[[1,1,1,1],[2,2,3,3],[2,2,2,2],[3,3,3,3]],[false,false,false,true]⟩
theorem Qh:fQ (2:Nat) 4 Qg (iA (fx (.ie (.letter 0 0) (.letter 2 0))) fun _=>true):=by
 refine⟨⟨eF.1 (by decide),by decide,F,fun w hw=>?_⟩,by kernel_rfl⟩
 have s2:=sink (E:=Qg) (L:=4) (s:=2) (by decide)
 have s3:=sink (E:=Qg) (L:=4) (s:=3) (by decide)
 rw[dB,gN]
 have pL: ∀x y:List Nat,w=x++y→fx (.ie (.letter 0 0) (.letter 2 0)) x=true→ ∃a b,w=a::b::y∧fY 2 0 b=true:=fun x y h h2=>by
  obtain⟨a,b,rfl,_,hb⟩:=LZ.1 h2
  exact⟨a,b,h,hb⟩
 match w,hw,pL with
 | [],_,pL=>exact⟨fun h=>absurd h (by decide),fun⟨x,y,h,h2,_⟩=>by obtain⟨a,b,h3,_⟩:=pL x y h h2;cases h3⟩
 | [a],hw,pL=>
  have: ∀a,a<4→iH Qg [a]=false:=by decide
  exact⟨fun h=>absurd h (by rw[this a (hw a (by simp))];decide),fun⟨x,y,h,h2,_⟩=>by obtain⟨a,b,h3,_⟩:=pL x y h h2;cases h3⟩
 |a::b::u,hw,pL=>
  have hu: ∀x∈u,x<4:=fun x hx=>hw x (by simp[hx])
  have e:iH Qg (a::b::u)=fY 2 0 b:=by
   have: ∀a,a<4→ ∀b,b<4→runN Qg 0 [a,b]=if fY 2 0 b=true then 3 else 2:=by decide
   show dF Qg (runN Qg 0 ([a,b]++u))=_
   rw[kU,this a (hw a (by simp)) b (hw b (by simp))]
   split
   ·rename_i h;rw[s3 u hu,h];rfl
   ·rename_i h;rw[s2 u hu,Bool.eq_false_iff.2 h];rfl
  rw[e]
  exact⟨fun h=>⟨[a,b],u,F,LZ.2 ⟨a,b,F,by simp[fY],h⟩,F⟩,fun⟨x,y,h,h2,_⟩=>by obtain⟨a',b',h3,h4⟩:=pL x y h h2;cases h3;exact h4⟩
def exJ:cV:=⟨2,0,[[0,0,0,0]],[true]⟩
theorem Qi:fQ (2:Nat) 4 exJ (fx (.star (.letter 0 0))):=by
 have h:=Ss (v:=2) (by decide)
 rw[show fP ((2:Nat):Int) true=exJ by kernel_rfl]at h
 exact⟨h.le (by decide),by kernel_rfl⟩
def O4:List Lf:=[⟨9,Qg,[1],false⟩,⟨0,exJ,[],true⟩]
theorem Jm:jn 2 (ui uh)=O4∧Jn 2 (ui uh)=[0]:=by
 rw[Qc]
 have e1:jn 2 (.ie (.ahead (.ie (.letter 0 0) (.letter 2 0))) (.star (.letter 0 0)))=[⟨9,minOf 2 (iA (fx (.ie (.letter 0 0) (.letter 2 0))) fun _=>true),[1],false⟩,⟨0,minOf 2 (fx (.star (.letter 0 0))),[],true⟩]:=rfl
 rw[e1,←gY Qh (by decide),←gY Qi (by decide)]
 exact⟨F,F⟩
theorem YR:okB 2 (ui uh) 4096:=by
 rw[Qc]
 have h2:=YQ (v:=2) (by decide) 0 0 2 0
 have hs:=eV (v:=2) (by decide)
 exact⟨⟨okP (by decide) 0 0 2 0,kI h2.valid hs.valid (bo (Nat.mul_le_mul h2.len (bV (by decide) hs.len)) (by decide))⟩,okS (by decide)⟩
theorem Us:iB O4 2:=by
 have h:=BH (v:=2) (by decide) (aS 4096) (t:=ui uh) (by rw[Qc];rfl) (by rw[Qc];decide) YR
 rw[Jm.1]at h;exact h
theorem acY:BG 2 uh 4096:=by
 unfold BG;rw[aJ (by decide)]
 refine⟨YR,?_⟩
 unfold Ut
 rw[Jm.1,Jm.2]
 exact Uu Us ⟨F,F,F,F,F,F,F⟩ (by decide)
theorem YS:qR (jn 2 (ui uh)) 19:=by rw[Jm.1];exact Hh (by decide)
theorem YT: ∀r,r<4→ ∀a,a<2→ ∀b,b<2→eS ko (eS ko r a) b=2*a+b:=by decide
theorem YU: ∀a,a<2→ ∀b,b<2→dF ko (2*a+b)=fY 1 0 a:=by decide
theorem FM: ∀(u:List Nat) (r:Nat),r<4→iv (1:Nat) u→runN ko r u<4
 | [],r,h,_=>h
 |x::u,r,h,hw=>by
  have hx:x<2:=hw x (by simp)
  have: ∀r,r<4→ ∀a,a<2→eS ko r a<4:=by decide
  exact FM u (eS ko r x) (this r h x hx) fun y hy=>hw y (by simp[hy])
theorem Qj (w:List Nat) (hw:iv (1:Nat) w):iH ko w=fx (ui zQ) w:=by
 rw[YP,dB]
 constructor
 ·intro h
  rcases List.eq_nil_or_concat w with rfl|⟨x,b,rfl⟩
  ·exact absurd h (by decide)
  ·rcases List.eq_nil_or_concat x with rfl|⟨x,a,rfl⟩
   ·have hb:b<2:=hw b (by simp)
    have: ∀b,b<2→iH ko [b]=false:=by decide
    have h:iH ko [b]=true:=h
    rw[this b hb]at h;cases h
   ·rw[List.concat_eq_append,List.concat_eq_append]at*
    have ha:a<2:=hw a (by simp)
    have hb:b<2:=hw b (by simp)
    have hx:runN ko 0 x<4:=FM x 0 (by decide) fun y hy=>hw y (by simp[hy])
    have h:dF ko (runN ko 0 (x++[a]++[b]))=true:=h
    rw[kU,kU]at h
    have h:dF ko (eS ko (eS ko (runN ko 0 x) a) b)=true:=h
    rw[YT _ hx a ha b hb,YU a ha b hb]at h
    refine gN.2 ⟨x,[a]++[b],by simp,Du x,gN.2 ⟨[a],[b],F,?_,?_⟩⟩
    ·show([a].length==1&& [a].all (fY 1 0))=true
     simp[h]
    ·show([b].length==1&& [b].all (fY 0 0))=true
     simp[fY]
 ·intro h
  obtain⟨x,y,rfl,_,h2⟩:=gN.1 h
  obtain⟨y1,y2,rfl,h3,h4⟩:=gN.1 h2
  obtain⟨a,rfl,ha⟩:=Qd h3
  obtain⟨b,rfl,_⟩:=Qd h4
  have Yg:a<2:=hw a (by simp)
  have Fz:b<2:=hw b (by simp)
  have hx:runN ko 0 x<4:=FM x 0 (by decide) fun y hy=>hw y (by simp[hy])
  show dF ko (runN ko 0 (x++([a]++[b])))=true
  rw[kU,kU]
  show dF ko (eS ko (eS ko (runN ko 0 x) a) b)=true
  rw[YT _ hx a Yg b Fz,YU a Yg b Fz,ha]
theorem L0:fQ (1:Nat) 4096 ko (nM 1 zQ):=by
 unfold nM;rw[aA (by decide)]
 exact⟨⟨Jk,by decide,F,Qj⟩,Qb⟩
theorem YV {M:cV} (h:fQ (1:Nat) 4096 M (nM 1 zQ)):M=ko:=fQ.ext h L0 fun _ _=>rfl
theorem Uv {M:cV} (h:fQ (2:Nat) 4096 M (nM 2 uh)) {u:List Nat} (hu: ∀x∈u,x<4) (hl:u.length≤64):kO M u=0∧Bl M u=pR (u.foldl (jj O4) (gW O4 [0])):=by
 have hw:iv (2:Nat) u:=hu
 have h0:kO M u=0:=ve.2 ⟨h.valid,hl,h.toHasL.wd.2 hw⟩
 refine⟨h0,?_⟩
 rw[IM h0,h.iH u hw]
 unfold nM Xj;rw[aJ (by decide),Jm.1,Jm.2]
theorem Uw:pR ([0,3,0].foldl (jj O4) (gW O4 [0]))=true:=by decide+kernel
theorem Ux:pR ([3,1,2].foldl (jj O4) (gW O4 [0]))=false:=by decide+kernel
end Go.Lx

namespace Go.Proofs.YtgdbfideeeegmaaGreatDoor
open Go.Lx Go.RowKit _root_.Go.Proofs.Tryz
theorem W2 {vars:Int} {l:List Nat} (h:Po vars l=0):iv vars l:=by
 unfold Po at h
 split at h
 ·cases h
 ·split at h
  ·cases h
  ·rename_i c
   intro x hx
   simp only[cY,bT,not_exists,not_and,Nat.not_le]at c
   exact c x hx
theorem OH {vars:Int} {e:List eC} {l:List Nat} {D:cV} {B:Nat} (hB:B≤4096) (h0:iz vars e=0) (I0:e.length≤24) (hM:fQ vars B D (nM vars.toNat e)) (ho:BG vars.toNat e B):mE vars e l=kO D l∧mV vars e l=Bl D l:=by
 have e0:mE vars e l=Po vars l:=aA (by rw[h0];exact fun h=>h F)
 have e1:kO D l=Po vars l:=Rw hM l
 refine⟨e0.trans e1.symm,?_⟩
 unfold mV Bl
 rw[e0,e1]
 by_cases hz:Po vars l=0
 ·rw[aJ hz,aJ hz]
  have hw:=W2 hz
  obtain⟨h1,h2,h3,h4,fs,h5,h6,h7⟩:=nf h0
  have li:(ui e).wf=true:=(pX h5 e.length (e.length-1) (by omega) (by omega)).2 h7
  have h8:=hM.iH l hw
  unfold iH at h8
  rw[h8,Oq hB h0 ho I0 hw,abf li (bl _) (aS _)]
 ·rw[aA hz,aA hz]
structure aaY (vars:Int) (e:List eC) (l:List Nat) (D:cV) (er:Nat):Prop where
 a:er≠0→er=iz vars e∨(er=10∧8<e.length)
 b:er=0→mE vars e l=kO D l∧mV vars e l=Bl D l
 c:er=0→D.next.length<9223372036854775807∧(∀r∈D.next,r.length<9223372036854775807)∧D.a7.length<9223372036854775807
theorem aef {vars:Int} {e:List eC} {l:List Nat} {D:cV} {er:Nat} (I0:e.length≤24) (h:FrU (iz vars e) 4096 (fun M=>fQ vars (4096:Int).toNat M (nM vars.toNat e)∧BG vars.toNat e (4096:Int).toNat) (¬BG vars.toNat e (4096:Int).toNat) D er):aaY vars e l D er:=by
 rcases h with⟨e1,e2,e3⟩|⟨e1,e2,_⟩|⟨e1,_,⟨e2,hM,hk⟩|⟨e2,e3,hz⟩⟩
 ·exact⟨fun _=>.inl e2,fun h=>absurd (e2.symm.trans h) e1,fun h=>absurd (e2.symm.trans h) e1⟩
 ·exact absurd ⟨by decide,by decide⟩ e2
 ·exact⟨fun h=>absurd e2 h,fun _=>OH (by decide) e1 I0 hM hk,fun _=>xD hM.toHasL⟩
 ·refine⟨fun _=>.inr ⟨e2,?_⟩,fun h=>absurd (e2.symm.trans h) (by decide),fun h=>absurd (e2.symm.trans h) (by decide)⟩
  rcases Nat.lt_or_ge 8 e.length with c|c
  ·exact c
  ·exact absurd (aeR e1 c) hz
theorem YW {w:World} {d:cV} {k:DK} (h1:Sl w k.nb (dG k.qs)) (h2:nums k.qs=d.next) (h3: ∀r∈k.qs,Sl w r.b (ints r.xs)) (h4:Sl w k.fb (cI d.a7)):At w d k:=by
 refine⟨h1,?_,h4⟩
 rw[←h2]
 refine⟨by unfold dG nums;rw[ar,ar],fun i r hr=>?_⟩
 unfold nums at hr
 rw[bi]at hr
 obtain⟨q,hq,rfl⟩:=Option.map_eq_some_iff.1 hr
 exact⟨q.b,q.c,by unfold dG;rw[bi,hq];rfl,h3 q (bJ hq)⟩
theorem Qk (w:World) [dA prog w] [dA prog w] (b:Option Addr) (c:Nat) (h:Sl w b (bQ zQ)):cn prog 19 [.slice b zQ.length c,vI 1,vI 4096] w fun v N=> ∃k,v=.tuple #[dV ko k,vI 0]∧N=[dI 56 4 3 ko k]:=by
 refine(Hi (L1 w b c zQ h (by decide) (by decide) 1 4096 (fun h=>absurd h (by decide)) (K:=0) (by decide) (fun _=>uk (by decide)) (fun _ h=>absurd h (by decide)))).mono fun v N=>?_
 rintro⟨D,k,er,rfl,rfl,⟨h1,_⟩|⟨_,h1,_⟩|⟨_,_,⟨rfl,hM,_⟩|⟨_,_,h1⟩⟩⟩
 ·exact absurd YK h1
 ·exact absurd ⟨by decide,by decide⟩ h1
 ·have e:=YV hM
  subst e
  exact⟨k,F,F⟩
 ·exact absurd acW h1
theorem Ql (w:World) [dA prog w] [dA prog w] (b:Option Addr) (c:Nat) (h:Sl w b (bQ uh)):cn prog 19 [.slice b uh.length c,vI 2,vI 4096] w fun v N=> ∃M k,v=.tuple #[dV M k,vI 0]∧N=[dI 56 4 3 M k]∧fQ (2:Nat) 4096 M (nM 2 uh):=by
 refine(Hi (L1 w b c uh h (by decide) (by decide) 2 4096 (fun _=>by decide) (K:=19) (by decide) (fun _=>uk (by decide)) (fun _ _ _=>YS))).mono fun v N=>?_
 rintro⟨D,k,er,rfl,rfl,⟨h1,_⟩|⟨_,h1,_⟩|⟨_,_,⟨rfl,hM,_⟩|⟨_,_,h1⟩⟩⟩
 ·exact absurd YL h1
 ·exact absurd ⟨by decide,by decide⟩ h1
 ·exact⟨D,k,F,F,hM⟩
 ·exact absurd acY h1
theorem Su (w:World) [dA prog w] [dA prog w] {M:cV} (hM:fQ (2:Nat) 4096 M (nM 2 uh)) (k:DK) (h:At w M k) (wb:Option Addr) (wc:Nat) (l:List Nat) (hW:Sl w wb (pD l)) (h4: ∀x∈l,x<4) (hl:l.length=3) (x:Bool) (hx:pR (l.foldl (jj O4) (gW O4 [0]))=x):cn prog 29 [dV M k,.slice wb 3 wc] w fun v N=>v=.tuple #[.bool x,vI 0]∧N=[]:=by
 obtain⟨h1,h2⟩:=Uv hM h4 (by omega)
 have hb:=xD hM.toHasL
 have h9:=Dv w M k.nb k.fb k.nc k.fc (dG k.qs) h hb.1 hb.2.1 hb.2.2 wb wc l hW (by omega) (fun x h=>by have:=h4 x h;omega)
 rw[h1,h2,hx,hl]at h9
 exact h9
theorem eqS (w:World) [dA prog w] [dA prog w] (j k:DK) (h1:At w ko j) (h2:At w ko k):cn prog 16 [dV ko j,dV ko k] w fun v N=>v=.bool true∧N=[]:=
 (Bg (L2 w ko ko j.nb k.nb j.fb k.fb j.nc k.nc j.fc k.fc (dG j.qs) (dG k.qs) h1 h2 (by decide) (by decide) (by decide))).mono fun v N ⟨h1,O2,h2,_⟩=>⟨h2.trans (au Value.bool (ax F)),h1⟩
theorem YX (w:World) [dA prog w] [dA prog w] (k:DK) (h:At w Sr k):cn prog 14 [dV Sr k] w fun v N=> ∃b c,v=.tuple #[.slice b Hg.length c,vI 0]∧N=[av b c 72 5 (bQ Hg)]:=by
 have h9:=Yb w Sr k h Jl (by decide) P9
 rw[P_,Qa]at h9
 exact h9
theorem FN (w:World) [dA prog w]:cn prog 11 [] w fun v N=>v=.bool true∧N=[]:=by
 refine aE func11 F ntmps11 F ?_
 refine aj (ak F (ah (aj (aq (bm L3 (aW YM) ?_)))))
 rintro vr O' ⟨N,rfl,b1,c1,rfl,rfl⟩
 refine aq (bm L4 (aX fun w1 hI=>(haveI:=ef hI;Qk w1 b1 c1 (hI.gV (mG 0)))) ?_)
 rintro vr O' ⟨N,rfl,k1,rfl,rfl⟩
 refine ai F (ae (bI (vs:=_)) (ae (bI (vs:=_)) (aq (bs bN (fun z1=>?_)))))
 refine aq (cq (vs:=(dC ko k1)) 0 bN ?_)
 refine ak F ?_
 refine dM (O':=[oI z1 25 (dC ko k1),dI 56 4 3 ko k1]) (by exact Sub.k (.k .z)) ?_
 refine ah (aj (aq (cK (m:=2) (parts:=[(0,.const (vI 0)),(1,.const (vI 1))]) (cs:=[vI 0,vI 1]) cL bF (by decide) (by kernel_rfl) F (fun z2=>?_))))
 refine aq (cK (m:=2) (parts:=[(0,.const (vI 2)),(1,.const (vI 3))]) (cs:=[vI 2,vI 3]) cL bF (by decide) (by kernel_rfl) F (fun z3=>?_))
 refine aq (cK (m:=2) (parts:=[(0,.const (vI 0)),(1,.const (vI 1))]) (cs:=[vI 0,vI 1]) cL bF (by decide) (by kernel_rfl) F (fun z4=>?_))
 refine aq (cK (m:=2) (parts:=[(0,.const (vI 2)),(1,.const (vI 3))]) (cs:=[vI 2,vI 3]) cL bF (by decide) (by kernel_rfl) F (fun z5=>?_))
 refine aq (cK (m:=4) (parts:=[(0,.tmp 17),(1,.tmp 18),(2,.tmp 19),(3,.tmp 20)]) (cs:=[(.slice (aD z2) 2 2),(.slice (aD z3) 2 2),(.slice (aD z4) 2 2),(.slice (aD z5) 2 2)]) fp cZ (by decide) (by kernel_rfl) F (fun z6=>?_))
 refine aq (cK (m:=4) (parts:=[(0,.const (.bool false)),(1,.const (.bool false)),(2,.const (.bool true)),(3,.const (.bool true))]) (cs:=[.bool false,.bool false,.bool true,.bool true]) eI fC (by decide) (by kernel_rfl) F (fun z7=>?_))
 refine ae (cT (cs:=[vI 1,(vI 0),(.slice (aD z6) 4 4),(.slice (aD z7) 4 4)]) jG bN (by kernel_rfl)) (aq (bs bN (fun z8=>?_)))
 refine aq (cq (vs:=[vI 1,(vI 0),(.slice (aD z6) 4 4),(.slice (aD z7) 4 4)]) 0 bN ?_)
 refine ah ?_
 refine dc (O':=[av (aD z6) 4 56 1 [(.slice (aD z2) 2 2),(.slice (aD z3) 2 2),(.slice (aD z4) 2 2),(.slice (aD z5) 2 2)],av (aD z7) 4 4 1 [.bool false,.bool false,.bool true,.bool true],av (aD z2) 2 3 1 [vI 0,vI 1],av (aD z3) 2 3 1 [vI 2,vI 3],av (aD z4) 2 3 1 [vI 0,vI 1],av (aD z5) 2 3 1 [vI 2,vI 3],oI z8 25 [vI 1,(vI 0),(.slice (aD z6) 4 4),(.slice (aD z7) 4 4)],oI z1 25 (dC ko k1),dI 56 4 3 ko k1]) (by exact Sub.dP [oI z8 25 [vI 1,(vI 0),(.slice (aD z6) 4 4),(.slice (aD z7) 4 4)],av (aD z7) 4 4 1 [.bool false,.bool false,.bool true,.bool true]] _ (.dP [oI z8 25 [vI 1,(vI 0),(.slice (aD z6) 4 4),(.slice (aD z7) 4 4)]] _ (.dP [oI z8 25 [vI 1,(vI 0),(.slice (aD z6) 4 4),(.slice (aD z7) 4 4)],av (aD z5) 2 3 1 [vI 2,vI 3],av (aD z4) 2 3 1 [vI 0,vI 1],av (aD z3) 2 3 1 [vI 2,vI 3]] _ (.dP [oI z8 25 [vI 1,(vI 0),(.slice (aD z6) 4 4),(.slice (aD z7) 4 4)],av (aD z5) 2 3 1 [vI 2,vI 3],av (aD z4) 2 3 1 [vI 0,vI 1]] _ (.dP [oI z8 25 [vI 1,(vI 0),(.slice (aD z6) 4 4),(.slice (aD z7) 4 4)],av (aD z5) 2 3 1 [vI 2,vI 3]] _ (.dP [oI z8 25 [vI 1,(vI 0),(.slice (aD z6) 4 4),(.slice (aD z7) 4 4)]] _ (.k (.k (.k .z))))))))) ?_
 obtain⟨k3,ul⟩: ∃k:DK,k=⟨some ⟨z6,0,none⟩,4,some ⟨z7,0,none⟩,4,[⟨some ⟨z2,0,none⟩,2,[0,1]⟩,⟨some ⟨z3,0,none⟩,2,[2,3]⟩,⟨some ⟨z4,0,none⟩,2,[0,1]⟩,⟨some ⟨z5,0,none⟩,2,[2,3]⟩]⟩:=⟨_,F⟩
 refine dc (O':=(([av k3.nb k3.nc 56 1 (dG k3.qs),av k3.fb k3.fc 4 1 (cI ko.a7)]++cg 3 k3.qs)++[oI z8 25 [vI 1,(vI 0),(.slice (aD z6) 4 4),(.slice (aD z7) 4 4)],oI z1 25 (dC ko k1),dI 56 4 3 ko k1])) (by subst ul;exact Sub.rf) ?_
 refine tU (φ:=nums k3.qs=ko.next) (by subst ul;rfl) ?_
 refine dc (O':=[dI 56 4 3 ko k3,oI z8 25 (dC ko k3),oI z1 25 (dC ko k1),dI 56 4 3 ko k1]) (by subst ul;exact Sub.rf) ?_
 refine aj (aq (bm L3 (aW YN) ?_))
 rintro vr O' ⟨N,rfl,b2,c2,rfl,rfl⟩
 refine aq (bm L4 (aX fun w1 hI=>(haveI:=ef hI;Ql w1 b2 c2 (hI.gV (mG 0)))) ?_)
 rintro vr O' ⟨N,rfl,M,k2,rfl,rfl,hM⟩
 refine ai F (ae (bI (vs:=_)) (ae (bI (vs:=_)) (aq (bs bN (fun z9=>?_)))))
 refine aq (cq (vs:=(dC M k2)) 0 bN ?_)
 refine ak F ?_
 refine dM (O':=[oI z9 25 (dC M k2),oI z8 25 (dC ko k3),oI z1 25 (dC ko k1),dI 56 4 3 M k2,dI 56 4 3 ko k3,dI 56 4 3 ko k1]) (by exact Sub.k (.dP [dI 56 4 3 M k2,av b2 c2 72 5 (bQ uh),dI 56 4 3 ko k3] _ (.dP [dI 56 4 3 M k2,av b2 c2 72 5 (bQ uh),dI 56 4 3 ko k3] _ (.k (.d (.k (.k .z))))))) ?_
 refine ah (aj (ae (eN 0 dj bN) (aq (cK (m:=3) (parts:=[(0,.const (.int .u8 0)),(1,.const (.int .u8 3)),(2,.const (.int .u8 0))]) (cs:=[.int .u8 0,.int .u8 3,.int .u8 0]) kC eD (by decide) (by kernel_rfl) F (fun xa=>?_)))))
 refine aq (bm L5 (aX fun w1 hI=>(haveI:=ef hI;Su w1 hM k2 (hI.at (mG 4)) (aD xa) 3 [0,3,0] (hI.gV (cs:=pD [0,3,0]) (mG 0)) (by decide) F _ Uw)) ?_)
 rintro vr O' ⟨N,rfl,rfl,rfl⟩
 refine ai F (ae (bI (vs:=_)) (ae (bI (vs:=_)) (ak F (ak F ?_))))
 refine dM (O':=[oI z9 25 (dC M k2),oI z8 25 (dC ko k3),oI z1 25 (dC ko k1),dI 56 4 3 M k2,dI 56 4 3 ko k3,dI 56 4 3 ko k1]) (by exact Sub.d (.k (.k (.k (.k (.k (.k .z))))))) ?_
 refine ah (aj (ae (eN 0 dj bN) (aq (cK (m:=3) (parts:=[(0,.const (.int .u8 3)),(1,.const (.int .u8 1)),(2,.const (.int .u8 2))]) (cs:=[.int .u8 3,.int .u8 1,.int .u8 2]) kC eD (by decide) (by kernel_rfl) F (fun zr=>?_)))))
 refine aq (bm L5 (aX fun w1 hI=>(haveI:=ef hI;Su w1 hM k2 (hI.at (mG 4)) (aD zr) 3 [3,1,2] (hI.gV (cs:=pD [3,1,2]) (mG 0)) (by decide) F _ Ux)) ?_)
 rintro vr O' ⟨N,rfl,rfl,rfl⟩
 refine ai F (ae (bI (vs:=_)) (ae (bI (vs:=_)) (ak F (ak F ?_))))
 refine dM (O':=[oI z9 25 (dC M k2),oI z8 25 (dC ko k3),oI z1 25 (dC ko k1),dI 56 4 3 M k2,dI 56 4 3 ko k3,dI 56 4 3 ko k1]) (by exact Sub.d (.k (.k (.k (.k (.k (.k .z))))))) ?_
 refine ah (aj (aq (cR (v:=vI 1) cL bF F F F (fun z12=>?_))))
 refine aq (cR (v:=vI 2) cL bF F F F (fun rL=>?_))
 refine aq (cR (v:=vI 2) cL bF F F F (fun Cx=>?_))
 refine aq (cK (m:=3) (parts:=[(0,.tmp 42),(1,.tmp 43),(2,.tmp 44)]) (cs:=[(.slice (aD z12) 1 1),(.slice (aD rL) 1 1),(.slice (aD Cx) 1 1)]) fp cZ (by decide) (by kernel_rfl) F (fun Hj=>?_))
 refine aq (cK (m:=3) (parts:=[(0,.const (.bool false)),(1,.const (.bool true)),(2,.const (.bool false))]) (cs:=[.bool false,.bool true,.bool false]) eI fC (by decide) (by kernel_rfl) F (fun YY=>?_))
 refine ae (cT (cs:=[(vI 0),(vI 0),(.slice (aD Hj) 3 3),(.slice (aD YY) 3 3)]) jG bN (by kernel_rfl)) (aq (bm YZ (aX fun w1 hI=>(haveI:=ef hI;YX w1 ⟨some ⟨Hj,0,none⟩,3,some ⟨YY,0,none⟩,3,[⟨some ⟨z12,0,none⟩,1,[1]⟩,⟨some ⟨rL,0,none⟩,1,[2]⟩,⟨some ⟨Cx,0,none⟩,1,[2]⟩]⟩ (YW (hI.gV (mG 1)) F (List.forall_mem_cons.2 ⟨hI.gV (cs:=ints [1]) (mG 4),List.forall_mem_cons.2 ⟨hI.gV (cs:=ints [2]) (mG 3),List.forall_mem_cons.2 ⟨hI.gV (cs:=ints [2]) (mG 2),fun _ h=>by cases h⟩⟩⟩) (hI.gV (mG 0))))) ?_))
 rintro vr O' ⟨N,rfl,b4,c4,rfl,rfl⟩
 refine ai F (ae (bI (vs:=_)) (ae (bI (vs:=_)) (ak F (ak F ?_))))
 refine dM (O':=[oI z9 25 (dC M k2),oI z8 25 (dC ko k3),oI z1 25 (dC ko k1),av b4 c4 72 5 (bQ Hg),dI 56 4 3 M k2,dI 56 4 3 ko k3,dI 56 4 3 ko k1]) (by exact Sub.dP [av b4 c4 72 5 (bQ Hg),av (aD YY) 3 4 1 [.bool false,.bool true,.bool false],av (aD Hj) 3 56 1 [(.slice (aD z12) 1 1),(.slice (aD rL) 1 1),(.slice (aD Cx) 1 1)],av (aD Cx) 1 3 1 [vI 2],av (aD rL) 1 3 1 [vI 2],av (aD z12) 1 3 1 [vI 1]] _ (.dP [av b4 c4 72 5 (bQ Hg),av (aD YY) 3 4 1 [.bool false,.bool true,.bool false],av (aD Hj) 3 56 1 [(.slice (aD z12) 1 1),(.slice (aD rL) 1 1),(.slice (aD Cx) 1 1)],av (aD Cx) 1 3 1 [vI 2],av (aD rL) 1 3 1 [vI 2],av (aD z12) 1 3 1 [vI 1]] _ (.dP [av b4 c4 72 5 (bQ Hg),av (aD YY) 3 4 1 [.bool false,.bool true,.bool false],av (aD Hj) 3 56 1 [(.slice (aD z12) 1 1),(.slice (aD rL) 1 1),(.slice (aD Cx) 1 1)],av (aD Cx) 1 3 1 [vI 2],av (aD rL) 1 3 1 [vI 2],av (aD z12) 1 3 1 [vI 1]] _ (.k (.d (.d (.d (.d (.d (.k (.k (.k .z)))))))))))) ?_
 refine ah (aj (ai F (ae (aC bK (ax (by first|rfl|decide))) (ai F (aF (eN 2 dj bN) (aF (eN 1 dj bN) ?_))))))
 refine gk F F F (bm Y0 (aX fun w1 hI=>(haveI:=ef hI;eqS w1 k1 k3 (hI.at (mG 6)) (hI.at (mG 5)))) ?_)
 rintro vr O' ⟨N,rfl,rfl,rfl⟩
 refine ae cm (ai F (aF aI (aF (aC bK (ax (by first|rfl|decide))) (ae cm (ai F (aF aI (ae cm (ai F (aF aI (aF (aC bK (ax (by first|rfl|decide))) ?_))))))))))
 refine ae cm (ai F (aF aI (aF iV (ae cm (ai F (aF aI (aF (aC bK (ax (by first|rfl|decide))) (ae cm (ai F (aF aI ?_))))))))))
 refine aF (aC bK (ax (by first|rfl|decide))) (ae cm (ai F (aF aI ?_)))
 refine gk F F F (bm L3 (aW YO) ?_)
 rintro vr O' ⟨N,rfl,b3,c3,rfl,rfl⟩
 refine gk F F F (bm Y1 (aX fun w1 hI=>(haveI:=ef hI;(show cn _ _ _ _ _ from by
   have h9:=Qm w1 b4 b3 c4 c3 Hg Hg (hI.gV (mG 4)) (hI.gV (mG 0)) (by decide)
   rw[ax F]at h9
   exact h9))) ?_)
 rintro vr O' ⟨N,rfl,rfl,rfl⟩
 refine ae cm (ak F (ah (aM (aB ?_))))
 refine aT (.bool true) results11 F ?_
 exact⟨[],Sub.z,F,F⟩
theorem TC (w:World) [dA prog w] (b:Option Addr) (c:Nat) (e:List eC) (hE:Sl w b (bQ e)) (uV:e.length<4611686018427387904) (mw: ∀x∈e,x.p<256∧x.n<256) (vars:Int) (wb:Option Addr) (wc:Nat) (l:List Nat) (hW:Sl w wb (pD l)) (Cn: ∀x∈l,x<256):
  cn prog 8 [.slice b e.length c,vI vars,.slice wb l.length wc] w fun r N=>r=.bool true∧N=[]:=by
 refine aE func8 F ntmps8 F ?_
 refine aj (ak F (ah ?_))
 refine fg (fun ρ O=>Sub [] O∧(e.length≤24∧l.length≤12)∧df [(0,(.slice b e.length c)),(1,vI vars),(2,(.slice wb l.length wc))] ρ) ?_ ?_
 ·refine aR ?_
  refine bg (ai F (aq (bm aas (aX fun w1 hI=>(haveI:=ef hI;aaU w1 b e.length c)) ?_)))
  rintro vr O' ⟨N,rfl,rfl,rfl⟩
  by_cases aaV:(24:Int)<((e.length:Nat):Int)
  ·refine ae (aC aI (ax aaV)) ?_
   refine aQ (aQ (aQ (ae cm (ai F (aQ (aQ (ae cm (ah ?_))))))))
   refine b_ ?_
   refine aj (aq (bm Nr (aW FN) ?_))
   rintro vr O' ⟨N,rfl,rfl,rfl⟩
   refine ak F (ah (aM (aB ?_)))
   refine aT (.bool true) results8 F ?_
   exact⟨[],Sub.z,F,F⟩
  refine ae (aC aI (am aaV)) (aF aI (aF (cQ kC) (aF ij (ae bX ?_))))
  by_cases aaW:(l.length:Int)>12
  ·refine ae (aC aI (ax aaW)) ?_
   refine aQ (aQ (ae cm (ah ?_)))
   refine b_ ?_
   refine aj (aq (bm Nr (aW FN) ?_))
   rintro vr O' ⟨N,rfl,rfl,rfl⟩
   refine ak F (ah (aM (aB ?_)))
   refine aT (.bool true) results8 F ?_
   exact⟨[],Sub.z,F,F⟩
  refine ae (aC aI (am aaW)) ?_
  refine gk F F F (bm Nr (aW FN) ?_)
  rintro vr O' ⟨N,rfl,rfl,rfl⟩
  refine aF iV (ae bX (ah (a8 (aL ?_))))
  exact⟨(by exact Sub.rf),⟨by omega,by omega⟩,⟨F,F,F,trivial⟩⟩
 rintro ρ O ⟨hS,⟨I0,h12⟩,hH⟩
 obtain⟨gA,rfl⟩:=hH.elim
 clear hH
 refine dc hS ?_
 refine aj (ai F (ai F (aq (bm L4 (aX fun w1 hI=>(haveI:=ef hI;aaK w1 b c e (hI.sl hE) uV mw vars 4096 (fun _=>I0))) ?_))))
 rintro vr O' ⟨N,rfl,D,k,er,rfl,rfl,hF⟩
 refine ai F (ae (bI (vs:=_)) (ae (bI (vs:=_)) (aq (bs bN (fun z1=>?_)))))
 refine aq (cq (vs:=(dC D k)) 0 bN ?_)
 refine ak F (ah (aj (ai F (ai F (ai F (aq (bm aat (aX fun w1 hI=>(haveI:=ef hI;WH w1 b c e (hI.sl hE) uV mw vars wb wc l (hI.sl hW) (by omega) Cn)) ?_)))))))
 rintro vr O' ⟨N,rfl,rfl,rfl⟩
 refine ai F (ae (bI (vs:=_)) (ae (bI (vs:=_)) (ak F (ak F (ah ?_)))))
 refine I_ [oI z1 25 (dC D k),dI 56 4 3 D k] [(0,(.slice b e.length c)),(1,vI vars),(2,(.slice wb l.length wc)),(7,(.pointer (aD z1))),(8,vN er),(9,.bool (mV vars e l)),(10,vN (mE vars e l))] F (.of F) (fun gA=>?_)
 refine aR (aR ?_)
 have hMc:aaY vars e l D er:=aef I0 hF
 refine bg (ai F (ae dW (ah (aZ F (fun hc=>?_) (fun hc=>?_)))))
 ·have yu:er≠0:=by omega
  refine aj (ai F (ai F (ai F (aq (bm HF (aX fun w1 hI=>(haveI:=ef hI;ux w1 b c e (hI.sl hE) uV mw vars)) ?_)))))
  rintro vr O' ⟨N,rfl,rfl,rfl⟩
  refine ae bK ?_
  by_cases Y7:((er:Nat):Int)=((iz vars e:Nat):Int)
  ·refine ae (aC aI (ax Y7)) ?_
   refine aQ (aQ (aQ (aQ (aQ (aQ (aQ (ae cm (ak F ?_))))))))
   refine ah (aM (aB ?_))
   refine aT (.bool true) results8 F ?_
   exact⟨[],Sub.z,F,F⟩
  refine ae (aC aI (am Y7)) (aF aI (aF (aC bK (ax (by have:=hMc.a (by omega);omega))) (aF aI (aF aI (aF (cQ dR) (aF (aC ij (ax (by have:=hMc.a (by omega);omega))) (aF cm ?_)))))))
  refine ae bX (ak F (ah (aM (aB ?_))))
  refine aT (.bool true) results8 F ?_
  exact⟨[],Sub.z,F,F⟩
 have SK: ¬er≠0:=by omega
 refine aL (aR ?_)
 have hB:=hMc.c (by omega)
 refine bg (ae (eN 0 dj bN) (ai F (aq (bm L5 (aX fun w1 hI=>(haveI:=ef hI;Dv w1 D k.nb k.fb k.nc k.fc (dG k.qs) (hI.at (mG 1)) hB.1 hB.2.1 hB.2.2 wb wc l (hI.sl hW) (by omega) Cn)) ?_))))
 rintro vr O' ⟨N,rfl,rfl,rfl⟩
 refine ai F (ae (bI (vs:=_)) (ae (bI (vs:=_)) (ak F (ak F (ah (aj (ai F (ai F (ae (aC bK (ax (by have:=(hMc.b (by omega)).1;omega))) (ai F (aF aI (aF aI (aF (bL (TT BB F F) (v':=.bool true) (by have h:=(hMc.b (by omega)).2;exact au Value.bool (by rw[h];simp))) (ae cm (ak F ?_)))))))))))))))
 refine ah (aM (aB ?_))
 refine aT (.bool true) results8 F ?_
 exact⟨[],Sub.z,F,F⟩
end Go.Proofs.YtgdbfideeeegmaaGreatDoor

