/- Contracts of functions; conditions: those each theorem names. -/
import Derived.OpenShut
import Derived.Deep.DeepHandedRow
import Derived.Deep.Matrix
import Derived.Deep.Grids
import Derived.WideKeyArgs
import Derived.SizedLaws
import Derived.Shelf.Sort.Plain
import Derived.Shelf.Slices.In.SortNone
import Derived.Shelf.Slices.CompactI
import Derived.Shelf.Slices.SearchI
import Derived.Shelf.Slices.Empties
import Derived.Shelf.Spec.SlicesInsert
import Derived.Shelf.Spec.SlicesInsertGrow
import Derived.Deep.Slices
import Derived.Test.YtgdbfideeeegmaaGreatDoorA1
set_option linter.unusedSectionVars false
set_option linter.unusedSimpArgs false
set_option linter.unusedVariables false
set_option linter.unnecessarySimpa false
set_option maxHeartbeats 8000000
set_option maxRecDepth 20000
namespace Go.Lx
open Go.RowKit
def HH (a b:c_) (s t:Nat):List Int:=(List.range (eE a)).map fun x=>((fm a s x*b.next.length+fm b t x:Nat):Int)
def tG (a b:c_):List (List Int):=(List.range (a.next.length*b.next.length)).map fun c=>HH a b (c/b.next.length) (c%b.next.length)
def Dj (f:Bool→Bool→Bool) (a b:c_):List Bool:=(List.range (a.next.length*b.next.length)).map fun c=>f (dR a (c/b.next.length)) (dR b (c%b.next.length))
def cq (f:Bool→Bool→Bool) (a b:c_):c_:=⟨a.vars,((a.start.toNat*b.next.length+b.start.toNat:Nat):Int),tG a b,Dj f a b⟩
theorem B1 {n s t:Nat} (ht:t<n):(s*n+t)/n=s∧(s*n+t)%n=t:=by
 rw[Nat.mul_comm]
 exact⟨by rw[Nat.mul_add_div (by omega),Nat.div_eq_of_lt ht,Nat.add_zero],by rw[Nat.mul_add_mod,Nat.mod_eq_of_lt ht]⟩
theorem AS {n k s t:Nat} (hs:s<k) (ht:t<n):s*n+t<k*n:=by
 have:=Nat.mul_le_mul_right n (show s+1≤k by omega);rw[Nat.succ_mul]at this;omega
theorem q5 {n k c:Nat} (h:c<k*n):c/n<k∧c%n<n:=by
 have hn:0<n:=by
  rcases Nat.eq_zero_or_pos n with h0|h0
  ·rw[h0,Nat.mul_zero]at h;exact absurd h (Nat.not_lt_zero _)
  ·exact h0
 exact⟨(Nat.div_lt_iff_lt_mul hn).2 h,Nat.mod_lt _ hn⟩
theorem kx (f:Bool→Bool→Bool) (a b:c_):(cq f a b).next.length=a.next.length*b.next.length:=by
 show(tG a b).length=_;unfold tG;simp
theorem k8 {f:Bool→Bool→Bool} {a b:c_} (ha:Val a) (hb:Val b) (hv:a.vars=b.vars):Val (cq f a b):=by
 have a0:=ez ha;have b0:=ez hb
 have gQ:=AS a0 b0
 refine {v0:=ha.v0,v6:=ha.v6,n0:=?_,fin:=?_,s0:=?_,s1:=?_,len:=?_,ok:=?_}
 ·rw[kx];omega
 ·rw[kx];show(Dj f a b).length=_;unfold Dj;simp
 ·show(0:Int)≤((_:Nat):Int);omega
 ·rw[kx];show((_:Nat):Int)<((_:Nat):Int);omega
 ·intro r hr
  obtain⟨c,_,rfl⟩:=List.mem_map.1 (show r∈tG a b from hr)
  unfold HH;simp;rfl
 ·intro r hr x hx
  obtain⟨c,hc,rfl⟩:=List.mem_map.1 (show r∈tG a b from hr)
  obtain⟨y,hy,rfl⟩:=List.mem_map.1 (show x∈HH a b _ _ from hx)
  rw[fE]at hc hy
  obtain⟨h1,h2⟩:=q5 hc
  have h3:=(ha.iw h1 hy).1
  have h4:=(hb.iw h2 (by rw[←hv];exact hy)).1
  have:=AS h3 h4
  rw[kx];omega
theorem F8 {f:Bool→Bool→Bool} {a b:c_} (ha:Val a) (hb:Val b) (hv:a.vars=b.vars) (hn:a.next.length*b.next.length≤4096):Valid (cq f a b):=⟨k8 ha hb hv,by rw[kx];exact hn⟩
theorem Dk {f:Bool→Bool→Bool} {a b:c_} {s t:Nat} (hs:s<a.next.length) (ht:t<b.next.length):dR (cq f a b) (s*b.next.length+t)=f (dR a s) (dR b t):=by
 have hd:=B1 (s:=s) ht
 have hc:=AS hs ht
 show(Dj f a b).getD _ false=_
 unfold Dj
 rw[au,bl,List.getElem?_range hc]
 simp only[Option.map_some,Option.getD_some,hd.1,hd.2]
theorem AT {f:Bool→Bool→Bool} {a b:c_} {s t x:Nat} (hs:s<a.next.length) (ht:t<b.next.length) (hx:x<eE a):fm (cq f a b) (s*b.next.length+t) x=fm a s x*b.next.length+fm b t x:=by
 have hd:=B1 (s:=s) ht
 have hc:=AS hs ht
 show(((tG a b).getD _ []).getD x 0).toNat=_
 unfold tG
 rw[au (l:=List.map _ _),bl,List.getElem?_range hc]
 simp only[Option.map_some,Option.getD_some,hd.1,hd.2]
 unfold HH
 rw[au,bl,List.getElem?_range hx]
 exact Int.toNat_natCast _
theorem ye {f:Bool→Bool→Bool} {a b:c_} (ha:Val a) (hb:Val b) (hv:a.vars=b.vars) {s t:Nat} (hs:s<a.next.length) (ht:t<b.next.length): ∀w,Wd a w→runN (cq f a b) (s*b.next.length+t) w=runN a s w*b.next.length+runN b t w:=by
 refine p9 (fun _=>rfl) ?_
 intro w x ih hw
 have UT:Wd a w:=fun y hy=>hw y (by simp[hy])
 have YH:Wd b w:=fun y hy=>by have:=UT y hy;unfold eE at this⊢;rw[←hv];exact this
 rw[e8,e8,e8,ih UT,AT (kj ha hs w UT) (kj hb ht w YH) (hw x (by simp))]
theorem Dl {f:Bool→Bool→Bool} {a b:c_} (ha:Val a) (hb:Val b) (hv:a.vars=b.vars) {w:List Nat} (hw:Wd a w):jf (cq f a b) w=f (jf a w) (jf b w):=by
 have a0:=ez ha;have b0:=ez hb
 have YH:Wd b w:=fun y hy=>by have:=hw y hy;unfold eE at this⊢;rw[←hv];exact this
 unfold jf
 rw[show(cq f a b).start.toNat=a.start.toNat*b.next.length+b.start.toNat from Int.toNat_natCast _,ye ha hb hv a0 b0 w hw,Dk (kj ha a0 w hw) (kj hb b0 w YH)]
def uz (f:Bool→Bool→Bool) (a b:c_):c_:=jD (cq f a b)
theorem JF {f:Bool→Bool→Bool} {a b:c_} (ha:Val a) (hb:Val b) (hv:a.vars=b.vars) (hn:a.next.length*b.next.length≤4096):Valid (uz f a b):=p_ (F8 ha hb hv hn)
theorem QJ {f:Bool→Bool→Bool} {a b:c_} (ha:Val a) (hb:Val b) (hv:a.vars=b.vars) (hn:a.next.length*b.next.length≤4096) {w:List Nat} (hw:Wd a w):jf (uz f a b) w=f (jf a w) (jf b w):=by
 unfold uz;rw[uA (k8 ha hb hv) hw,Dl ha hb hv hw]
theorem QK {f:Bool→Bool→Bool} {a b:c_} (ha:Val a) (hb:Val b) (hv:a.vars=b.vars) (hn:a.next.length*b.next.length≤4096):jD (uz f a b)=uz f a b:=yf (k8 ha hb hv)
theorem LJ {f:Bool→Bool→Bool} {a b:c_} (ha:Val a) (hb:Val b) (hv:a.vars=b.vars) {w:List Nat} (hw:Wd a w):jf (uz f a b) w=f (jf a w) (jf b w):=by
 unfold uz;rw[uA (k8 ha hb hv) hw,Dl ha hb hv hw]
theorem LL {f:Bool→Bool→Bool} {a b:c_} (ha:Val a) (hb:Val b) (hv:a.vars=b.vars):jD (uz f a b)=uz f a b:=yf (k8 ha hb hv)
theorem yg {d:c_} (hv:Val d):(jD d).next.length≤d.next.length:=by
 have h1:(jD d).next.length≤(qa d).next.length:=by
  show(eB (qa d)).next.length≤_
  unfold eB
  rw[ai];exact sA (ph hv)
 have h2:=(lT d (iL d d.next.length) d.next.length).2
 exact bE h1 h2
theorem HI {f:Bool→Bool→Bool} {a b:c_} (ha:Val a) (hb:Val b) (hv:a.vars=b.vars) (hn:a.next.length*b.next.length≤4096):(uz f a b).next.length≤a.next.length*b.next.length:=by
 rw[←kx f a b];exact yg (k8 ha hb hv)
theorem QL {a b:c_} (ha:Val a) (hb:Val b) (hma:jD a=a) (hmb:jD b=b) (hv:a.vars=b.vars) (h: ∀w,Wd a w→jf a w=jf b w):a=b:=by
 rw[←hma,←hmb];exact q7 ha hb hv h
theorem JK {d:c_} {w:List Nat} (h:k_ d w=0):Av d w=jf d w:=by unfold Av jf;rw[aB h]
def gg (v:Int) (f:Bool):c_:=⟨v,0,[List.replicate (2^v.toNat) 0],[f]⟩
theorem yi {v:Int} (h0:0≤v) (h6:v≤6) (f:Bool):Valid (gg v f):=by
 have n0:0<(gg v f).next.length:=by show 0< [_].length;simp
 have s1:(gg v f).start<((gg v f).next.length:Int):=by show(0:Int)<(([_].length:Nat):Int);simp
 have len: ∀r∈(gg v f).next,r.length=2^(gg v f).vars.toNat:=by
  intro r hr
  rw[List.mem_singleton.1 (show r∈[List.replicate (2^v.toNat) (0:Int)]from hr),jE];rfl
 have ok: ∀r∈(gg v f).next,∀x∈r,0≤x∧x<((gg v f).next.length:Int):=by
  intro r hr x hx
  rw[List.mem_singleton.1 (show r∈[List.replicate (2^v.toNat) (0:Int)]from hr)]at hx
  rw[List.eq_of_mem_replicate hx]
  exact⟨Int.le_refl _,by show(0:Int)<(([_].length:Nat):Int);simp⟩
 exact⟨{v0:=h0,v6:=h6,n0:=n0,fin:=rfl,s0:=Int.le_refl _,s1:=s1,len:=len,ok:=ok},by show[_].length≤4096;simp⟩
theorem LN {v:Int} (h0:0≤v) (h6:v≤6) (f:Bool) {w:List Nat} (hw:Wd (gg v f) w):jf (gg v f) w=f:=by
 have hv:=yi h0 h6 f
 have h1:=kj hv (ez hv) w hw
 have h2:runN (gg v f) (gg v f).start.toNat w=0:=Nat.lt_one_iff.1 h1
 unfold jf;rw[h2];rfl
def iS (v:Int) (w:List Nat):Prop:= ∀x∈w,x<2^v.toNat
structure HasL (v:Int) (n:Nat) (d:c_) (p:List Nat→Bool):Prop where
 valid:Valid d
 len:d.next.length≤n
 vars:d.vars=v
 jf: ∀w,iS v w→jf d w=p w
theorem HasL.wd {v:Int} {n:Nat} {d:c_} {p:List Nat→Bool} (h:HasL v n d p) {w:List Nat}:Wd d w↔iS v w:=by unfold Wd iS eE;rw[h.vars]
structure fV (v:Int) (n:Nat) (d:c_) (p:List Nat→Bool):Prop extends HasL v n d p where
 min:jD d=d
theorem HasL.op {f:Bool→Bool→Bool} {v:Int} {n m:Nat} {a b:c_} {p q:List Nat→Bool} (ha:HasL v n a p) (hb:HasL v m b q) (h:n*m≤4096):fV v (n*m) (uz f a b) (fun w=>f (p w) (q w)):=by
 have hl:a.next.length*b.next.length≤n*m:=Nat.mul_le_mul ha.len hb.len
 have hv:a.vars=b.vars:=by rw[ha.vars,hb.vars]
 refine⟨⟨JF ha.valid hb.valid hv (by omega),bE (HI ha.valid hb.valid hv (by omega)) hl,ha.vars,fun w hw=>?_⟩,QK ha.valid hb.valid hv (by omega)⟩
 rw[QJ ha.valid hb.valid hv (by omega) (ha.wd.2 hw),ha.jf w hw,hb.jf w hw]
theorem HasL.qJ {v:Int} {n:Nat} {d:c_} {p:List Nat→Bool} (h:HasL v n d p):fV v n (jD d) p:=
 ⟨⟨p_ h.valid,bE (yg h.valid) h.len,h.vars,fun w hw=>by rw[uA h.valid (h.wd.2 hw)];exact h.jf w hw⟩,yf h.valid⟩
theorem fV.ext {v:Int} {n m:Nat} {a b:c_} {p q:List Nat→Bool} (ha:fV v n a p) (hb:fV v m b q) (h: ∀w,iS v w→p w=q w):a=b:=
 QL ha.valid hb.valid ha.min hb.min (by rw[ha.vars,hb.vars]) fun w hw=>by rw[ha.jf w (ha.wd.1 hw),hb.jf w (ha.wd.1 hw),h w (ha.wd.1 hw)]
def tH (x y:Bool):Bool:=x&&y
def F9 (x y:Bool):Bool:=x||y
def LO (x y:Bool):Bool:=x !=y
def yj (x y:Bool):Bool:=x&&!y
def q8 (x _y:Bool):Bool:=!x
def pj (d:c_):c_:=uz q8 d d
theorem HasL.not {v:Int} {n:Nat} {d:c_} {p:List Nat→Bool} (h:HasL v n d p) (hn:n*n≤4096):fV v (n*n) (pj d) (fun w=>!p w):=h.op h hn
theorem vL {f:Bool→Bool→Bool} {a b:c_} (ha:Val a) (hb:Val b) (hv:a.vars=b.vars) {o x:Nat} (ho:o<a.next.length*b.next.length) (hx:x<eE a):
  fm (cq f a b) o x=fm a (o/b.next.length) x*b.next.length+fm b (o%b.next.length) x∧fm (cq f a b) o x<a.next.length*b.next.length:=by
 obtain⟨h1,h2⟩:=q5 ho
 have h3:=AT (f:=f) (a:=a) (b:=b) h1 h2 hx
 rw[Nat.div_add_mod']at h3
 refine⟨h3,?_⟩
 rw[h3]
 exact AS (ha.iw h1 hx).1 (hb.iw h2 (by rw[←hv];exact hx)).1
theorem mx {f:Bool→Bool→Bool} {a b:c_} (ha:Val a) (hb:Val b) (hv:a.vars=b.vars): ∀i,(dY (cq f a b) i).Nodup∧ ∀o∈dY (cq f a b) i,o<a.next.length*b.next.length
 |0=>by
  refine⟨by simp[dY],fun o ho=>?_⟩
  simp only[dY,dl]at ho
  rw[ho,show(cq f a b).start.toNat=a.start.toNat*b.next.length+b.start.toNat from Int.toNat_natCast _]
  exact AS (ez ha) (ez hb)
 |i+1=>by
  obtain⟨h1,h2⟩:=mx ha hb hv i
  rw[dY]
  split
  ·rename_i hi
   refine nz _ _ h1 h2 (fun t ht=>?_)
   obtain⟨x,hx,rfl⟩:=List.mem_map.1 ht
   refine(vL ha hb hv (h2 _ ?_) (List.mem_range.1 hx)).2
   rw[au,ak hi]
   exact av hi
  ·exact⟨h1,h2⟩
theorem nW {f:Bool→Bool→Bool} {a b:c_} (ha:Val a) (hb:Val b) (hv:a.vars=b.vars) (i:Nat):(dY (cq f a b) i).length≤a.next.length*b.next.length:=fA (mx ha hb hv i).1 (mx ha hb hv i).2
theorem yk {f:Bool→Bool→Bool} {a b:c_} (ha:Val a) (hb:Val b) (hv:a.vars=b.vars) {i o x:Nat} (ho:o<a.next.length*b.next.length) (hx:x≤eE a):
  (lU (cq f a b) i o x).Nodup∧ ∀t∈lU (cq f a b) i o x,t<a.next.length*b.next.length:=by
 obtain⟨h1,h2⟩:=mx (f:=f) ha hb hv i
 exact nz _ _ h1 h2 (fun t ht=>by
  obtain⟨y,hy,rfl⟩:=List.mem_map.1 ht
  exact(vL ha hb hv ho (by have:=List.mem_range.1 hy;omega)).2)
theorem Dm {f:Bool→Bool→Bool} {a b:c_} (ha:Val a) (hb:Val b) (hv:a.vars=b.vars) {i o x:Nat} (ho:o<a.next.length*b.next.length) (hx:x≤eE a):
  (lU (cq f a b) i o x).length≤a.next.length*b.next.length:=fA (yk ha hb hv ho hx).1 (yk ha hb hv ho hx).2
theorem AU {d:c_} {i o:Nat} (h:(dY d i)[i]? =some o):lU d i o (2^d.vars.toNat)=dY d (i+1):=by rw[vM h];rfl
theorem Dn {d:c_} {i o x:Nat} (h:(dY d i)[i]? =some o) (hx:x≤2^d.vars.toNat):lU d i o x<+:dY d (i+1):=by
 rw[←AU h]
 unfold lU
 have h1:List.range (2^d.vars.toNat)=List.range x++(List.range (2^d.vars.toNat)).drop x:=by
  have h2:=List.take_append_drop x (List.range (2^d.vars.toNat))
  rw[List.take_range,Nat.min_eq_left hx]at h2
  exact h2.symm
 rw[h1,bm,cT]
 exact ig _ _
theorem F_ {d:c_} {i o x:Nat} (h:(dY d i)[i]? =some o) (hx:x≤2^d.vars.toNat) (hi:i+1≤d.next.length):lU d i o x<+:order d:=
 (Dn h hx).trans (ky d _ _ hi)
theorem JG {d:c_} {i o x:Nat} (h:(dY d i)[i]? =some o) (hx:x≤2^d.vars.toNat) (hi:i+1≤d.next.length) {t:Nat} (ht:t∈lU d i o x):ix t (lU d i o x)=ix t (order d):=
 (iM (F_ h hx hi) ht).symm
def QM (z a:c_):Prop:= ∀u u',iS z.vars u→iS z.vars u'→runN z z.start.toNat u=runN z z.start.toNat u'→runN a a.start.toNat u=runN a a.start.toNat u'
theorem lE (d:c_) (s:Nat) (u w:List Nat):runN d s (u++w)=runN d (runN d s u) w:=by simp[runN]
theorem LP {d:c_} {w:List Nat}:Wd d w↔iS d.vars w:=Iff.rfl
theorem QM.refl (z:c_):QM z z:=fun _ _ _ _ h=>h
theorem Ga {d z:c_} (hd:Val d) (hz:Val z) (hv:z.vars=d.vars) (h:QM z d):(order d).length≤z.next.length:=by
 classical
 have hr: ∀o∈order d,∃w,Wd d w∧runN d d.start.toNat w=o:=fun o ho=>qd hd _ o ho
 let g:Nat→Nat:=fun o=>if hx: ∃w,Wd d w∧runN d d.start.toNat w=o then runN z z.start.toNat (Classical.choose hx)else 0
 have hg: ∀o∈order d,∃w,Wd d w∧runN d d.start.toNat w=o∧g o=runN z z.start.toNat w:=fun o ho=>by
  have hx:=hr o ho
  refine⟨Classical.choose hx,(Classical.choose_spec hx).1,(Classical.choose_spec hx).2,?_⟩
  show(if hx:_ then _ else _)=_
  rw[dif_pos hx]
 have wz: ∀w,Wd d w→iS z.vars w:=fun w hw=>by rw[hv];exact hw
 have hn:((order d).map g).Nodup:=AV (xQ hd _).1 fun a ha b hb e=>by
  obtain⟨u,hu,rfl,e1⟩:=hg a ha
  obtain⟨u',LQ,rfl,e2⟩:=hg b hb
  exact h u u' (wz u hu) (wz u' LQ) (by rw[←e1,←e2,e])
 have:=fA (n:=z.next.length) hn fun x hx=>by
  obtain⟨o,ho,rfl⟩:=List.mem_map.1 hx
  obtain⟨u,hu,_,e1⟩:=hg o ho
  rw[e1]
  exact kj hz (ez hz) u (wz u hu)
 simpa using this
theorem q9 {f:Bool→Bool→Bool} {a b z:c_} (ha:Val a) (hb:Val b) (hv:a.vars=b.vars) (hz:Val z) (hzv:z.vars=a.vars) (h1:QM z a) (h2:QM z b):(order (cq f a b)).length≤z.next.length:=by
 refine Ga (k8 ha hb hv) hz hzv fun u u' hu LQ e=>?_
 rw[show(cq f a b).start.toNat=a.start.toNat*b.next.length+b.start.toNat from Int.toNat_natCast _,
  ye ha hb hv (ez ha) (ez hb) u (by rw[LP,←hzv];exact hu),ye ha hb hv (ez ha) (ez hb) u' (by rw[LP,←hzv];exact LQ),h1 u u' hu LQ e,h2 u u' hu LQ e]
def Do:c_:=⟨0,0,[],[]⟩
def iy (a b:c_):Nat:=if di a≠0 then di a else if di b≠0 then di b else if a.vars≠b.vars then 7 else 0
def Lp (f:Bool→Bool→Bool) (a b:c_):c_:=if iy a b=0 then uz f a b else Do
theorem q_ {a b:c_}:iy a b=0↔Valid a∧Valid b∧a.vars=b.vars:=by
 unfold iy
 rw[←eL,←eL]
 split
 ·rename_i h;constructor
  ·intro e;exact absurd e h
  ·intro e;exact absurd e.1 h
 ·rename_i h1;split
  ·rename_i h;constructor
   ·intro e;exact absurd e h
   ·intro e;exact absurd e.2.1 h
  ·rename_i h2;split
   ·rename_i h;constructor
    ·intro e;exact absurd e (by decide)
    ·intro e;exact absurd e.2.2 h
   ·rename_i h;constructor
    ·intro _;exact⟨by omega,by omega,Classical.not_not.1 h⟩
    ·intro _;rfl
theorem Dp {a b:c_} (h:di a≠0):iy a b=di a:=by unfold iy;rw[aB h]
theorem B2 {a b:c_} (h:di a=0) (h2:di b≠0):iy a b=di b:=by unfold iy;rw[aq (by omega),aB h2]
theorem Gb {a b:c_} (h:di a=0) (h2:di b=0) (h3:a.vars≠b.vars):iy a b=7:=by unfold iy;rw[aq (by omega),aq (by omega),aB h3]
theorem LR {f:Bool→Bool→Bool} {a b:c_} (h:iy a b=0):Lp f a b=uz f a b:=by unfold Lp;rw[aB h]
theorem QN {f:Bool→Bool→Bool} {a b:c_} (h:iy a b≠0):Lp f a b=Do:=by unfold Lp;rw[aq h]
def un (n c:Nat):Int×Int:=(((c/n:Nat):Int),((c%n:Nat):Int))
theorem LU {n c e:Nat} (h:un n c=un n e):c=e:=by
 unfold un at h
 simp only[Prod.mk.injEq]at h
 have h1:c/n=e/n:=by omega
 have h2:c%n=e%n:=by omega
 rw[←Nat.div_add_mod c n,←Nat.div_add_mod e n,h1,h2]
abbrev Te (n c:Nat):List Value:=[.int .i64 ((c/n:Nat):Int),.int .i64 ((c%n:Nat):Int)]
def pf (n:Nat) (ks:List Nat):List Value:=ks.flatMap (Te n)
theorem LV (n:Nat) (ks:List Nat) (c:Nat):pf n (ks++[c])=pf n ks++Te n c:=by simp[pf]
theorem B3 (n:Nat): ∀ks:List Nat,(pf n ks).length=ks.length*2
 | []=>rfl
 |c::ks=>by
  have:=B3 n ks
  simp only[pf,List.flatMap_cons,aJ,bQ,dx]at this⊢
  omega
theorem HJ {n:Nat}: ∀ {ks:List Nat} {i c:Nat},ks[i]? =some c→ ∀j (h:j<(Te n c).length),(pf n ks)[i*2+j]? =some (Te n c)[j]
 | [],i,c,h,_,_=>by simp at h
 |e::ks,0,c,h,j,hj=>by
  simp only[List.getElem?_cons_zero,Option.some.injEq]at h
  subst h
  rw[Nat.zero_mul,Nat.zero_add,show pf n (e::ks)=Te n e++pf n ks from F,bG hj]
  exact ak hj
 |e::ks,i+1,c,h,j,hj=>by
  rw[show pf n (e::ks)=Te n e++pf n ks from F,bZ (by show 2≤_;omega),show(i+1)*2+j-(Te n e).length=i*2+j by show(i+1)*2+j-2=_;omega]
  exact HJ (by simpa using h) j hj
abbrev pmap (n:Nat) (ks:List Nat):List ((Int×Int)×Nat):=(ks.map (un n)).zipIdx
theorem Gc {n c:Nat} {ks:List Nat}:un n c∈ks.map (un n)↔c∈ks:=by
 constructor
 ·intro h
  obtain⟨e,he,h2⟩:=List.mem_map.1 h
  rw[←LU h2];exact he
 ·exact fun h=>List.mem_map_of_mem h
theorem LW (n c:Nat): ∀ks:List Nat,ix (un n c) (ks.map (un n))=ix c ks
 | []=>rfl
 |e::ks=>by
  simp only[cJ,ix,LW n c ks]
  by_cases h:c=e
  ·rw[h];simp
  ·rw[aq (fun h2=>h (LU h2)),aq h]
theorem JH (n:Nat) (ks:List Nat) (c:Nat):pmap n (ks++[c])=pmap n ks++[(un n c,ks.length)]:=by
 show((ks++[c]).map (un n)).zipIdx=_
 rw[bm,List.zipIdx_append];simp
theorem LX (n:Nat) (ks:List Nat):(pmap n ks).map Prod.fst=ks.map (un n):=nX _ 0
def FQ (d:c_) (o:Nat):List Int:=(tI d o).map fun x:Nat=>(x:Int)
theorem tJ (d:c_):(eB d).next=(order d).map (FQ d):=Gd d
theorem Ge (d:c_):(eB d).aT=(order d).map (dR d):=rfl
theorem UU {d:c_} {i o:Nat} (h:(dY d i)[i]? =some o) (hi:i≤d.next.length):(order d)[i]? =some o:=by
 obtain⟨hl,e⟩:=List.getElem?_eq_some_iff.1 h
 obtain⟨r,hr⟩:=ky d i d.next.length hi
 show(dY d d.next.length)[i]? =_
 rw[←hr,bG hl];exact h
theorem take_at {α:Type} {l:List α} {i:Nat} {o:α} (h:l[i]? =some o):l.take (i+1)=l.take i++[o]:=by
 obtain⟨hl,e⟩:=List.getElem?_eq_some_iff.1 h
 rw[aC hl,e]
theorem JI {f:Bool→Bool→Bool} {a b:c_} {o:Nat} (ho:o<a.next.length*b.next.length):dR (cq f a b) o=f (dR a (o/b.next.length)) (dR b (o%b.next.length)):=by
 obtain⟨h1,h2⟩:=q5 ho
 have:=Dk (f:=f) h1 h2
 rwa[Nat.div_add_mod']at this
theorem HK {f:Bool→Bool→Bool} {a b:c_} {N:Nat} (va:Valid a) (vb:Valid b) (hv:a.vars=b.vars) (h:(dY (cq f a b) N).length=N):order (cq f a b)=dY (cq f a b) N:=
 ra h (by have:=nW (f:=f) va vb hv N;rw[kx];omega)
theorem JJ (E:TypeId) (qs:List Rec) (r:Rec):cw E (qs++[r])=cw E qs++[r.qW E]:=bm
theorem Sub.fold (A:List Item) (x:Item) (B S S':List Item) (h:S'=S++[x]):Sub ((A++S')++B) ((A++(x::B))++S):=by
 subst h
 refine⟨_,?_,aP _⟩
 have h1:(A++(S++[x]))++B=A++(S++(x::B)):=by simp
 have h2:(A++(x::B))++S=A++((x::B)++S):=by simp
 rw[h1,h2]
 exact List.Perm.append_left A List.perm_append_comm
theorem wN {d:c_}:iy d d=di d:=by
 unfold iy
 by_cases h:di d=0<;>simp[h]
abbrev YI:DK:=⟨none,0,none,0,[]⟩
theorem B4 {P:Program} {base:World} {f:FuncId} {args:List Value} {O:List Item} {R:Value→List Item→Prop} (II Bo I:TypeId) (h:cx P base f args O R):cx P base f args O (fun v O'=> ∃O2,O'=dI II Bo I Do YI::O2∧R v O2):=
 (gK II 1 (gK Bo 1 h)).Tf fun v O' hR=>by
  obtain⟨O2,rfl,O3,rfl,h3⟩:=hR
  exact⟨nums YI.qs=Do.next,[az Option.none 0 II 1 [],az Option.none 0 Bo 1 []]++[],O3,F,F,O3,F,h3⟩
theorem qe {d:c_} (hv:Valid d) {s:Nat} (hs:s<d.next.length):(cO d.aT)[s]? =some (.bool (dR d s)):=by
 have hl:s<d.aT.length:=by rw[hv.fin];exact hs
 rw[j9 hl];unfold dR;rw[au,ak hl];rfl
theorem ym {d:c_} (hv:Valid d) {s x:Nat} (hs:s<d.next.length) (hx:x<2^d.vars.toNat):(ints d.next[s])[x]? =some (.int .i64 ((fm d s x:Nat):Int)):=by
 obtain⟨_,_,h2,e⟩:=hv.iw hs hx
 rw[gL h2,e]
theorem yn {v:Int} {n:Nat} {d:c_} {p:List Nat→Bool} (h:HasL v n d p):d.next.length<9223372036854775807∧(∀r∈d.next,r.length<9223372036854775807)∧d.aT.length<9223372036854775807:=
 ⟨by have:=h.valid.n4;omega,h.valid.wO,by have:=h.valid.fin;have:=h.valid.n4;omega⟩
theorem HasL.le {v:Int} {n m:Nat} {a:c_} {p:List Nat→Bool} (ha:HasL v n a p) (h:a.next.length≤m):HasL v m a p:=⟨ha.valid,h,ha.vars,ha.jf⟩
open Go.RowKit Go.ChangeShapes Go.WideShapes Go.Deep
section
variable {H:Type} {enc:TypeId×Value→H} {P:Program}
theorem tk (hl:laidOutB P=true) {W W':World} {sp':Nat→Bool}: ∀ {ts:List TypeId} {vs:List Value} {ds:List (DataW H)} {ps:List MemPlace},
  (∀t∈ts,P.readableRec t=true∧t<P.types.size)→DataW.TrodAll enc P W 0 (fun _=>true) true ts vs ds ps→(∀p∈ps,W.sameAt W' p)→(∀p∈ps,sp' p.block=true)→DataW.TrodAll enc P W' 0 sp' true ts vs ds ps
 | [],_,_,_,_,h,_,_=>by
  obtain⟨rfl,rfl,rfl⟩:=trodAll_nil h
  rfl
 |t::ts,_,_,_,hr,h,hs,Aw=>by
  obtain⟨v,vs1,d,ds1,p,q,rfl,rfl,rfl,h1,h2⟩:=trodAll_cons h
  have ht:=hr t (by simp)
  exact⟨p,q,WideElems.Trod_stays hl ht.1 ht.2 h1 (fun x hx=>hs x (aH _ hx)) (fun x hx=>Aw x (aH _ hx)),
   tk hl (fun t ht=>hr t (by simp[ht])) h2 (fun x hx=>hs x (ah _ hx)) (fun x hx=>Aw x (ah _ hx)),F⟩
theorem L1 {f:Func} {s:ChangeSpec} {W W':World} {args:Array Value} {ds gs:List (DataW H)} {before:List MemPlace} {tb:TypeId}
  (hl:laidOutB P=true) (hr: ∀t∈f.params.toList,P.readableRec t=true∧t<P.types.size) (YT:f.resultTypes= #[tb]) (hb:P.underlying tb=some .bool) (hv:s.vars=[])
  (hW:DataW.Whole enc P f.params.toList s.vars false W args.toList ds gs before)
  (h1:(s.fn H ds).results=[.lit (.bool true)]) (h2:(s.fn H ds).args=ds) (h3:(s.fn H ds).vars=[])
  (hB:Below W.heap.size W W'):s.post enc P f false true false false W args (.bool true) W':=by
 have hW0:=hW
 obtain⟨p,q,hA,hV,rfl,hz,hn⟩:=hW
 rw[hv]at hV
 obtain⟨rfl,rfl⟩:=trodVars_none hV
 simp only[dp]at hW0 hz hn
 have gQ:=hW0.lt
 have YU: ∀x∈p,W.sameAt W' x:=fun x hx=>hB.same (gQ x hx)
 have HO: ∀sp:Nat→Bool,(∀x∈p,sp x.block=true)→DataW.TrodAll enc P W' 0 sp true f.params.toList args.toList (s.fn H (ds++[])).args p:=fun sp Aw=>by
  rw[dp,h2]
  exact tk hl hr hA YU Aw
 have A5: ∀sp:Nat→Bool,DataW.TrodVars enc P W' sp s.vars (s.fn H (ds++[])).vars []:=fun sp=>by
  rw[dp,hv,h3];rfl
 have HP: ∀(b:Nat) (sp:Nat→Bool) (hd:Bool),DataW.TrodAll enc P W' b sp hd f.resultTypes.toList ((Value.bool true).resultList f.resultTypes.size) (s.fn H (ds++[])).results []:=fun b sp hd=>by
  rw[dp,h1,YT]
  exact trodAll_cons_mk (shut_bool hb _) trodAll_mk0
 have hold: ∀x∈p,(fun b=>decide (b<W.heap.size)) x.block=true:=fun x hx=>by simpa using gQ x hx
 refine⟨ds,[],p,[],p,[],hW0,HP _ _ _,HO _ hold,A5 _,World.keptBut_mono (fun x hx=>⟨hx,?_⟩) (hB.frame _),fun _=>?_⟩
 ·exact Or.inr (by simpa using hx)
 ·refine⟨ok_one YT F (okWide_bool_mk hb _),_,_,([]++p)++[],⟨[]++p,[],trodAll_append (HO _ (fun _ _=>rfl)) (HP _ _ _),A5 _,F,?_,?_⟩,?_⟩
  ·intro b off hx
   have uC:MemPlace.cell b off∈p:=by simpa using hx
   rw[hB.frozen (p:=⟨b,off,none⟩) (gQ _ uC)]
   exact hz b off uC
  ·intro ha;cases ha
  ·intro x hx _
   simpa using hx
theorem Ma {w:World} {a:Addr} {v:Value} (h:w.cell? a=some v):a.spot=none:=by
 unfold World.cell? at h
 cases e:a.spot with
 |none=>rfl
 |some x=>rw[e]at h;split at h<;>simp at h
theorem uD {w:World} {a:Addr} {cs:List Value} (h: ∀i (hi:i<cs.length),w.cell? (a.add i)=some cs[i]):Sl w (some a) cs:=fun i hi=>by
 have h0:=h 0 (by omega)
 have h1:=h i hi
 have h2:a.spot=none:=Ma (a:=a) (by simpa[Addr.add]using h0)
 refine⟨a,F,h2,?_⟩
 have e:a.add i=⟨a.block,a.off+i,none⟩:=by
  unfold Addr.add
  split
  ·rename_i h;subst h
   cases a with
   |mk b o s=>simp at h2;subst h2;rfl
  ·rfl
 rw[←e];exact h1
theorem wP (e:TypeId): ∀ {l:List (DataW H)} {d:DataW H},d∈l→ ∀m∈d.weights P e,m∈DataW.weightsAll P e l
 | [],_,h,_,_=>by cases h
 |x::l,d,h,m,hm=>by
  rw[DataW.weightsAll,iv]
  rcases List.mem_cons.1 h with rfl|h
  ·exact .inl hm
  ·exact .inr (wP e h m hm)
theorem wQ {t e:TypeId} {yw spare:List (DataW H)} (ht:P.underlying t=some (.slice e)) (he:0<P.bytesOf e) (h: ∀m∈(DataW.slice yw spare).weights P t,m≤reachBytes):
  yw.length≤reachBytes∧ ∀d∈yw,∀m∈d.weights P e,m≤reachBytes:=by
 have hw:(DataW.slice yw spare).weights P t=(yw.length+spare.length)*P.bytesOf e::(DataW.weightsAll P e yw++DataW.weightsAll P e spare):=by
  rw[DataW.weights,ht]
 rw[hw]at h
 refine⟨?_,fun d hd m hm=>h m (List.mem_cons_of_mem _ (aH _ (wP e hd m hm)))⟩
 have h1:=h _ List.mem_cons_self
 have h2:=Nat.mul_le_mul_left (yw.length+spare.length) (show 1≤P.bytesOf e from he)
 omega
theorem QR {n:Int} (h:(Lit.int .u8 n).wf=true):0≤n∧n<256:=by
 simp only[Lit.wf,ar,cj]at h
 have h1:(0:Int)≤n:=h.1
 have h2:n≤255:=h.2
 omega
theorem JN {t e:TypeId} {W:World} {r:Reach} {b0:Nat} {v:Value} {d:DataW H} {p:List MemPlace} (ht:P.underlying t=some (.slice e)) (he:P.underlying e=some (.int .u8)) (ce:P.cellsOf e=1) (be:0<P.bytesOf e)
  (nm:Value.okWide P W r b0 t v) (hw: ∀m∈d.weights P t,m≤reachBytes) (h:DataW.Trod enc P W 0 (fun _=>true) true t v d p):
  ∃(l:List Nat) (b:Option Addr) (c:Nat),v=.slice b l.length c∧(Sl W b (nY l)∧ ∀x∈l,x<256)∧l.length≤reachBytes:=by
 obtain⟨gP,hT⟩:=h
 have hv:v.cells.toList=[v]:=by
  unfold Value.okWide at nm
  rw[ht]at nm
  simp only at nm
  unfold Cell.okWide Cell.ok at nm
  rw[ht]at nm
  cases v<;>simp_all[Value.cells]
 rcases open_ints ht he ce hT with⟨yx,_⟩|⟨a,len,cap,zs,yx,_,hl,_,hz,hx,Mb,hwz⟩
 ·rw[hv]at yx
  exact⟨[],none,0,by simpa using yx,⟨Sl.nil _ _,fun x hx=>by cases hx⟩,bj _⟩
 ·rw[hv]at yx
  simp only[if_true]at hz
  have hd:d=_:=am Prod.fst hx
  rw[hd]at hw
  have hb:=(wQ ht be hw).1
  have Lq:(zs.take len).length=len:=by rw[db];omega
  have hwt: ∀z∈zs,0≤z∧z<256:=fun z hz=>QR (hwz z hz)
  refine⟨(zs.take len).map Int.toNat,some a,cap,?_,⟨?_,?_⟩,?_⟩
  ·rw[ai,Lq];simpa using yx
  ·refine uD fun i hi=>?_
   have xx:i<len:=by rw[ai,ai,Lq]at hi;exact hi
   have Yc:i<zs.length:=by omega
   have YV:=(hwt _ (av Yc)).1
   rw[Mb i Yc]
   simp[Yc,cW YV]
  ·intro x hx
   obtain⟨z,hz',rfl⟩:=List.mem_map.1 hx
   have:=hwt z (List.mem_of_mem_take hz')
   omega
  ·rw[ai,Lq]
   have:(lits (H:=H) .u8 (zs.take len)).length=len:=by simp[lits];omega
   omega
end
theorem yy {f:Bool→Bool→Bool} {v:Int} {n m N:Nat} {a b:c_} {p q:List Nat→Bool} (ha:HasL v n a p) (hb:HasL v m b q) (h:(order (cq f a b)).length≤N) (hN:N≤4096):fV v N (uz f a b) (fun w=>f (p w) (q w)):=by
 have hv:a.vars=b.vars:=by rw[ha.vars,hb.vars]
 have vD:Val (cq f a b):=k8 ha.valid.toVal hb.valid.toVal hv
 have vR:Valid (eB (cq f a b)):=vP vD (bE h hN)
 have e:uz f a b=jD (eB (cq f a b)):=(yz vD).symm
 have hl:(jD (eB (cq f a b))).next.length≤(eB (cq f a b)).next.length:=yg vR.toVal
 have hr:(eB (cq f a b)).next.length=(order (cq f a b)).length:=by simp[eB]
 refine⟨⟨?_,?_,ha.vars,fun w hw=>?_⟩,LL ha.valid.toVal hb.valid.toVal hv⟩
 ·rw[e];exact p_ vR
 ·rw[e];omega
 ·rw[LJ ha.valid.toVal hb.valid.toVal hv (ha.wd.2 hw),ha.jf w hw,hb.jf w hw]
abbrev cC (a g:c_) (j k:DK):List Value:=[.int .i64 a.vars,.int .i64 a.start,.slice j.nb a.next.length j.nc,.slice j.fb a.aT.length j.fc,.int .i64 g.vars,.int .i64 g.start,.slice k.nb g.next.length k.nc,.slice k.fb g.aT.length k.fc]
abbrev bC (e:Value) (a g:c_) (j k:DK):List Value:=e::cC a g j k
end Go.Lx
namespace Go.Lx
open Go.RowKit
section
variable {v:Int} {px py p q p1 q1 p2 q2 p3 q3:List Nat→Bool}
end
section
variable {z x a b c d:c_} {px p q p2 q2:List Nat→Bool}
end
section
variable {v:Int} {px py p q p1 q1 p2 q2 p3 q3:List Nat→Bool}
theorem fa {P:List Nat→Prop} (h: ∀w,P w): ∀w,iS v w→P w:=fun w _=>h w
theorem fi {P Q:List Nat→Prop} (h: ∀w,P w↔Q w):(∀w,iS v w→P w)↔ ∀w,iS v w→Q w:=forall_congr' fun w=>forall_congr' fun _=>h w
theorem fc {P Q R:List Nat→Prop} (h: ∀w,P w↔Q w∧R w):(∀w,iS v w→P w)↔(∀w,iS v w→Q w)∧ ∀w,iS v w→R w:=
 ⟨fun a=>⟨fun w hw=>((h w).1 (a w hw)).1,fun w hw=>((h w).1 (a w hw)).2⟩,fun a w hw=>(h w).2 ⟨a.1 w hw,a.2 w hw⟩⟩
end
end Go.Lx
namespace Go.Lx
open Go.RowKit Go.ChangeShapes Go.WideShapes Go.Deep
section
variable {H:Type} {enc:TypeId×Value→H} {P:Program}
end
open Go.RowKit Go.Sort
theorem tA {α:Type} [Inhabited α] (enc:α→Value) (off:Nat) (d:Array α) (c:Array Value):(putCells enc off d c).size=c.size:=by simp[putCells]
theorem xo {α:Type} [Inhabited α] (enc:α→Value) (off:Nat) (d:Array α) (c:Array Value) {i:Nat} (hi:i<d.size) (hc:off+i<c.size):(putCells enc off d c)[off+i]? =some (enc d[i]!):=by
 simp only[putCells,Array.getElem?_mapIdx,Array.getElem?_eq_getElem hc,Option.map_some]
 rw[aB ⟨by omega,by omega⟩,show off+i-off=i by omega]
theorem Inv.OW {base w:World} {O:List Item} {i mq off cap:Nat} {T:TypeId} {zs ys:List Int} (hI:Inv base O w) (hO:O[i]? =some (az (some ⟨mq,off,none⟩) cap T 1 (ints zs))) (hl:ys.length=zs.length) (n:Nat) (os:Array Obj):
  Inv base (O.set i (az (some ⟨mq,off,none⟩) cap T 1 (ints ys))) (Go.Sort.grow (putRow (Value.int .i64) (Sort.ahead w n) mq off ys.toArray) os):=by
 obtain⟨_,full,hb,pm,Xp,Df⟩:=hI.row hO
 have gQ:mq<w.heap.size:=(Array.getElem?_eq_some_iff.1 hb).1
 have zN:(Go.Sort.grow (putRow (Value.int .i64) (Sort.ahead w n) mq off ys.toArray) os).heap=(w.heap.modify mq (onCells (putCells (Value.int .i64) off ys.toArray)))++os:=rfl
 refine hI.tK hO F F F ?_ (fun b hlb hk=>?_) ⟨F,putCells (Value.int .i64) off ys.toArray full,?_,?_,?_,fun j hj=>?_⟩ (fun k hk=>.inl hk) (by simp[az])
 ·rw[zN];simp
 ·rw[zN,Array.getElem?_append_left (by simpa using hlb),Array.getElem?_modify,aq (fun e=>hk (by simp[az,e]))]
 ·rw[zN,Array.getElem?_append_left (by simpa using gQ),Array.getElem?_modify,aB F,hb];rfl
 ·simp only[ai]at pm⊢;omega
 ·rw[tA];exact Xp
 ·have s_:j<ys.length:=by simpa using hj
  have aeH:zs.length≤cap*1:=by simpa using pm
  have aeI:off+cap*1≤full.size:=Xp
  show(putCells (Value.int .i64) off ys.toArray full)[off+j]? =_
  rw[xo _ _ _ _ (by simpa using s_) (by omega)]
  simp[s_]
theorem BW {base w:World} {O:List Item} {i mq off cap:Nat} {T:TypeId} {zs:List Int} (hI:Inv base O w) (hO:O[i]? =some (az (some ⟨mq,off,none⟩) cap T 1 (ints zs))):Holds (Value.int .i64) w mq off zs.toArray∧mq<w.heap.size:=by
 obtain⟨_,full,hb,pm,Xp,Df⟩:=hI.row hO
 refine⟨fun j hj=>?_,(Array.getElem?_eq_some_iff.1 hb).1⟩
 have s_:j<zs.length:=by simpa using hj
 have h9:=Df j (by simpa using s_)
 constructor
 ·simp only[World.cell?,hb]
  simp at h9
  simp[h9,s_]
 ·simp[World.frozen?,hb]
theorem Sk {l m:List Int} (hl:l.Pairwise (· < ·)) (hm:m.Pairwise (· < ·)) (h: ∀y,y∈l↔y∈m):l=m:=
 ((List.perm_ext_iff_of_nodup (hl.imp fun h=>by omega) (hm.imp fun h=>by omega)).2 h).eq_of_pairwise (le:=fun x y:Int=>x<y) (fun a b _ _ h1 h2=>by omega) hl hm
theorem zL {l m:List Nat} (hl:l.Pairwise (· < ·)) (hm:m.Pairwise (· < ·)) (h: ∀y,y∈l↔y∈m):l=m:=
 ((List.perm_ext_iff_of_nodup (hl.imp fun h=>by omega) (hm.imp fun h=>by omega)).2 h).eq_of_pairwise (le:=fun x y:Nat=>x<y) (fun a b _ _ h1 h2=>by omega) hl hm
theorem ET (zs:List Int) (y:Int):y∈Lib.compact zs↔y∈zs:=by
 unfold Lib.compact Lib.compactUpTo
 simp only[i_,List.mem_filter,fE]
 constructor
 ·rintro⟨j,⟨hj,_⟩,rfl⟩
  rw[getElem!_pos zs.toArray j (by simpa using hj)];simp
 ·intro hy
  have hex: ∃j,j<zs.length∧zs.toArray[j]! =y:=by
   obtain⟨j,hj,e⟩:=List.getElem_of_mem hy
   exact⟨j,hj,by rw[getElem!_pos zs.toArray j (by simpa using hj)];simpa using e⟩
  suffices main: ∀j,j<zs.length→zs.toArray[j]! =y→ ∃i,(i<zs.length∧Lib.keeps zs.toArray i=true)∧zs.toArray[i]! =y by
   obtain⟨j,hj,e⟩:=hex;exact main j hj e
  intro j
  induction j with
  |zero=>exact fun hj e=>⟨0,⟨hj,by simp[Lib.keeps]⟩,e⟩
  |succ j ih=>
   intro hj e
   by_cases h:zs.toArray[j]! =y
   ·exact ih (by omega) h
   ·exact⟨j+1,⟨hj,by simp only[Lib.keeps,cj];exact .inr (by rw[e];exact fun h'=>h h'.symm)⟩,e⟩
theorem EU {zs:List Int} (h:zs.Pairwise (· ≤ ·)):(Lib.compact zs).Pairwise (· < ·):=by
 have HR: ∀i j,i≤j→j<zs.length→zs.toArray[i]! ≤zs.toArray[j]! :=fun i j F3 hj=>by
  rw[getElem!_pos zs.toArray i (by simp;omega),getElem!_pos zs.toArray j (by simpa using hj)]
  rcases Nat.lt_or_ge i j with h1|h1
  ·simpa using List.pairwise_iff_getElem.1 h i j (by omega) hj h1
  ·have:i=j:=by omega
   subst this;exact Int.le_refl _
 unfold Lib.compact Lib.compactUpTo
 rw[List.pairwise_map]
 refine List.Pairwise.imp_of_mem ?_ (List.Pairwise.filter _ (List.pairwise_lt_range (n:=zs.length)))
 intro i j hi hj F3
 simp only[List.mem_filter,fE]at hi hj
 have h2:=hj.2
 simp only[Lib.keeps,cj]at h2
 have h1:=HR i (j-1) (by omega) (by omega)
 have h3:=HR (j-1) j (by omega) hj.1
 omega
def KH (n:Nat) (p:Nat→Bool):List Nat:=(List.range n).filter p
theorem si {n:Nat} {p:Nat→Bool} {y:Nat}:y∈KH n p↔y<n∧p y=true:=by simp[KH]
theorem pR (n:Nat) (p:Nat→Bool):(KH n p).Pairwise (· < ·):=List.Pairwise.filter _ List.pairwise_lt_range
theorem NC (n:Nat) (p:Nat→Bool):(KH n p).length≤n:=bE (List.length_filter_le _ _) (by simp)
def gw (d:c_) (l:List Nat) (x:Nat):List Nat:=KH d.next.length fun y=>l.any fun s=>fm d s x==y
theorem sU {d:c_} (hv:Val d) {l:List Nat} (hl: ∀s∈l,s<d.next.length) {x y:Nat} (hx:x<2^d.vars.toNat):y∈gw d l x↔ ∃s∈l,fm d s x=y:=by
 unfold gw;rw[si]
 simp only[df,beq_iff_eq]
 constructor
 ·exact fun h=>h.2
 ·rintro⟨s,hs,rfl⟩
  exact⟨(hv.iw (hl s hs) hx).1,s,hs,F⟩
def Cr (n:Nat) (l:List Nat) (s:Nat):List Nat:=KH n fun y=>l.contains y||y==s
theorem x5 {n:Nat} {l:List Nat} (hl: ∀s∈l,s<n) {s y:Nat} (hs:s<n):y∈Cr n l s↔y∈l∨y=s:=by
 unfold Cr;rw[si]
 simp only[Bool.or_eq_true,List.contains_eq_mem,cj,beq_iff_eq]
 exact⟨fun h=>h.2,fun h=>⟨h.elim (hl y) (fun e=>e▸hs),h⟩⟩
theorem RJ {n:Nat} {l:List Nat} (ha:l.Pairwise (· < ·)) (hl: ∀s∈l,s<n) {s:Nat} (hs:s∈l):Cr n l s=l:=
 zL (pR _ _) ha fun y=>by rw[x5 hl (hl s hs)];exact⟨fun h=>h.elim id (fun e=>e▸hs),.inl⟩
abbrev rR (l:List Int):List Int:=l.mergeSort fun x y=>decide (x≤y)
theorem AM (l:List Int):(rR l).Pairwise fun x y=>x≤y:=by
 have:=List.pairwise_mergeSort (le:=fun x y:Int=>decide (x≤y)) (fun a b c h1 h2=>by simp at*;omega) (fun a b=>by simp;omega) l
 exact this.imp fun h=>by simpa using h
theorem Kk {d:c_} (hv:Val d) {l:List Nat} (hl: ∀s∈l,s<d.next.length) {x:Nat} (hx:x<2^d.vars.toNat):
  Lib.compact (rR (l.map fun s=>((fm d s x:Nat):Int)))=(gw d l x).map fun y:Nat=>(y:Int):=by
 refine Sk (EU (AM _)) (List.pairwise_map.2 ((pR _ _).imp fun h=>by omega)) fun y=>?_
 rw[ET,List.mem_mergeSort,i_,i_]
 constructor
 ·rintro⟨s,hs,rfl⟩;exact⟨_,(sU hv hl hx).2 ⟨s,hs,F⟩,F⟩
 ·rintro⟨y,hy,rfl⟩
  obtain⟨s,hs,rfl⟩:=(sU hv hl hx).1 hy
  exact⟨s,hs,F⟩
theorem IQ: ∀ {l:List Nat} {s:Nat},l.Pairwise (· < ·)→s∉l→(l.take (l.countP (· <s))++s::l.drop (l.countP (· <s))).Pairwise (· < ·)
 | [],s,_,_=>by simp
 |a::l,s,h,hs=>by
  rw[List.pairwise_cons]at h
  simp only[dt,not_or]at hs
  by_cases c:a<s
  ·rw[List.countP_cons,aB (by simpa using c)]
   simp only[List.take_succ_cons,List.drop_succ_cons,cN,List.pairwise_cons]
   refine⟨fun y hy=>?_,IQ h.2 hs.2⟩
   rcases List.mem_append.1 hy with hy|hy
   ·exact h.1 y (List.mem_of_mem_take hy)
   ·rcases List.mem_cons.1 hy with rfl|hy
    ·exact c
    ·exact h.1 y (List.mem_of_mem_drop hy)
  ·have h0:(a::l).countP (· <s)=0:=by
    rw[List.countP_eq_zero]
    intro y hy
    rcases List.mem_cons.1 hy with rfl|hy
    ·simpa using c
    ·have:=h.1 y hy;simp;omega
   rw[h0]
   simp only[List.take_zero,dM,List.drop_zero,List.pairwise_cons]
   exact⟨fun y hy=>by
    rcases List.mem_cons.1 hy with rfl|hy
    ·omega
    ·have:=h.1 y hy;omega,h.1,h.2⟩
theorem Ig {n:Nat} {l:List Nat} (ha:l.Pairwise (· < ·)) (hl: ∀s∈l,s<n) {s:Nat} (hs:s<n) (hn:s∉l):l.take (l.countP (· <s))++s::l.drop (l.countP (· <s))=Cr n l s:=
 zL (IQ ha hn) (pR _ _) fun y=>by
  rw[x5 hl hs,iv,dt]
  have h9:y∈l↔y∈l.take (l.countP (· <s))∨y∈l.drop (l.countP (· <s)):=by rw[←iv,List.take_append_drop]
  rw[h9]
  constructor
  ·rintro(h|h|h)
   ·exact .inl (.inl h)
   ·exact .inr h
   ·exact .inl (.inr h)
  ·rintro((h|h)|h)
   ·exact .inl h
   ·exact .inr (.inr h)
   ·exact .inr (.inl h)
theorem Inv.drewN {base w:World} {O:List Item} (h:Inv base O w) (q:Nat):Inv base O (w.drewN q):=h.same F F F F
theorem gN (l:List Nat):ints (l.map fun y:Nat=>(y:Int))=cm l:=by simp
theorem IR {w:World} {b:Nat} {o:Obj} (h:w.heap[b]? =some o):kN w b o=w:=by
 have gQ:=(Array.getElem?_eq_some_iff.1 h).1
 have e:w.heap.setIfInBounds b o=w.heap:=by
  apply Array.ext_getElem?
  intro i
  rw[Array.getElem?_setIfInBounds]
  by_cases c:b=i
  ·subst c;rw[aB F,aB gQ,h]
  ·rw[aq c]
 show({w with heap:=_}:World)=w
 rw[e]
theorem mR {b:Nat} {T:TypeId}: ∀(vs:List Value) (o:Nat) (cs:List Value) (w:World),w.heap[b]? =some (.cells cs.toArray T (0,0))→w.setCells b o vs=kN w b (.cells (fC cs o vs).toArray T (0,0))
 | [],o,cs,w,h=>by
  rw[World.setCells,fC,IR h]
 |v::vs,o,cs,w,h=>by
  have gQ:=(Array.getElem?_eq_some_iff.1 h).1
  rw[World.setCells,fC,uF h,mR vs (o+1) (cs.set o v) (kN w b _) (mz gQ),Bc]
theorem Inv.setCells {base w:World} {O:List Item} {i b o c p:Nat} {T:TypeId} {cs B5 vs:List Value} (hI:Inv base O w) (hO:O[i]? =some (az (some ⟨b,o,none⟩) c T 1 cs)) (hp:p+vs.length≤c) (hl:B5.length≤c)
  (hc: ∀j (h:j<B5.length),B5[j]? =if p≤j∧j<p+vs.length then vs[j-p]? else cs[j]?):Inv base (O.set i (az (some ⟨b,o,none⟩) c T 1 B5)) (w.setCells b (o+p) vs):=by
 obtain⟨_,full,hb,h1,h2,h3⟩:=hI.row hO
 obtain⟨fl,rfl⟩: ∃fl:List Value,full=fl.toArray:=⟨full.toList,by simp⟩
 simp only[Nat.mul_one,List.size_toArray]at h1 h2
 rw[mR vs (o+p) fl w hb]
 refine hI.setRow hO (by omega) (by simp[jl];omega) fun j hj=>?_
 have hg:=nZ vs fl (o+p) (o+j) (by omega)
 simp only[List.getElem?_toArray]
 rw[hg]
 have h9:=hc j hj
 by_cases Gm:p≤j∧j<p+vs.length
 ·rw[aB (by omega)]
  rw[aB Gm]at h9
  rw[show o+j-(o+p)=j-p by omega,←h9,ak hj]
 ·rw[aq (by omega)]
  rw[aq Gm]at h9
  have hjc:j<cs.length:=by
   rcases Nat.lt_or_ge j cs.length with h|h
   ·exact h
   ·rw[cn h,ak hj]at h9;cases h9
  have:=h3 j hjc
  simp only[List.getElem?_toArray]at this
  rw[this,←ak hjc,←h9,ak hj]
theorem Inv.KI {base w:World} {O:List Item} {i mq off cap:Nat} {T:TypeId} {zs ys Xn:List Int} (hI:Inv base O w) (hO:O[i]? =some (az (some ⟨mq,off,none⟩) cap T 1 (ints zs))) (hl:(ys++Xn).length=zs.length) (n:Nat):
  Inv base (O.set i (az (some ⟨mq,off,none⟩) cap T 1 (ints ys))) (putRow (Value.int .i64) (Sort.ahead w n) mq off (ys++Xn).toArray):=by
 have h:=hI.OW (ys:=ys++Xn) hO hl n #[]
 have e:Go.Sort.grow (putRow (Value.int .i64) (Sort.ahead w n) mq off (ys++Xn).toArray) #[]=putRow (Value.int .i64) (Sort.ahead w n) mq off (ys++Xn).toArray:=by
  simp[Go.Sort.grow];rfl
 rw[e]at h
 have gQ:i<O.length:=(List.getElem?_eq_some_iff.1 hO).1
 have h2:(O.set i (az (some ⟨mq,off,none⟩) cap T 1 (ints (ys++Xn))))[i]? =some (az (some ⟨mq,off,none⟩) cap T 1 (ints (ys++Xn))):=by simp[gQ]
 obtain⟨_,full,hb,h3,h4,h5⟩:=h.row h2
 have h6:=h.setRow h2 (B5:=ints ys) (full:=full) (by simp at h3⊢;omega) h4 fun j hj=>by
  have s_:j<ys.length:=by simpa using hj
  have:=h5 j (by simp;omega)
  rw[this];simp[iU,s_]
 rw[List.set_set]at h6
 rwa[IR hb]at h6
theorem vn (xs:List Int) (x:Int) {i:Nat} (hi:i≤xs.length) (j:Nat):(ints (xs.take i++x::xs.drop i))[j]? =if j<i then(ints xs)[j]? else if j=i then some (.int .i64 x)else(ints xs)[j-1]? :=by
 rw[bl]
 by_cases c1:j<i
 ·rw[aB c1,bG (by simp;omega),List.getElem?_take,aB c1,bl]
 ·rw[aq c1,bZ (by simp;omega)]
  simp only[db,Nat.min_eq_left hi]
  by_cases c2:j=i
  ·subst c2;rw[aB F,fX];rfl
  ·obtain⟨k,rfl⟩: ∃k,j=i+(k+1):=⟨j-i-1,by omega⟩
   rw[aq c2,show i+(k+1)-i=k+1 by omega,List.getElem?_cons_succ,List.getElem?_drop,bl,show i+(k+1)-1=i+k by omega]
abbrev Key:=List UInt8
theorem ws {α:Type} [DecidableEq α]: ∀ {l m:List α},l.Nodup→(∀x∈l,x∈m)→l.length≤m.length
 | [],_,_,_=>bj _
 |a::l,m,hn,h=>by
  rw[List.nodup_cons]at hn
  have ha:=h a (by simp)
  have:=ws (l:=l) (m:=m.erase a) hn.2 fun x hx=>(List.mem_erase_of_ne (fun e:x=a=>hn.1 (by rw[←e];exact hx))).2 (h x (by simp[hx]))
  rw[List.length_erase_of_mem ha]at this
  have:=List.length_pos_of_mem ha
  simp only[bQ];omega
def IT (tr:Key→Nat→Key) (L:Nat) (start:Key) (C:List Key):Prop:=start∈C∧ ∀k∈C,∀x,x<L→tr k x∈C
def Ih (tr:Key→Nat→Key) (L:Nat) (start:Key) (B:Nat):Prop:= ∃C,IT tr L start C∧C.length≤B
structure Ed (tr:Key→Nat→Key) (L:Nat) (start:Key) (ks:List Key):Prop where
 nodup:ks.Nodup
 st:ks[0]? =some start
 sub: ∀C,IT tr L start C→ ∀k∈ks,k∈C
theorem Ed.one (tr:Key→Nat→Key) (L:Nat) (start:Key):Ed tr L start [start]:=⟨by simp,F,fun C h k hk=>by simp at hk;subst hk;exact h.1⟩
theorem Ed.pos {tr:Key→Nat→Key} {L:Nat} {start:Key} {ks:List Key} (h:Ed tr L start ks):0<ks.length:=(List.getElem?_eq_some_iff.1 h.st).1
theorem Ed.add {tr:Key→Nat→Key} {L:Nat} {start:Key} {ks:List Key} (h:Ed tr L start ks) {k:Key} (hk:k∈ks) {x:Nat} (hx:x<L):Ed tr L start (add ks (tr k x)):=
 ⟨nP h.nodup,by obtain⟨t,ht⟩:=kH ks (tr k x);rw[←ht,bG h.pos];exact h.st,fun C hC y hy=>(sV.1 hy).elim (h.sub C hC y) fun e=>e▸hC.2 k (h.sub C hC k hk) x hx⟩
theorem Ed.Z5 {tr:Key→Nat→Key} {L:Nat} {start:Key} {ks:List Key} (h:Ed tr L start ks) {B:Nat} (hB:B<ks.length): ¬Ih tr L start B:=fun⟨C,hC,hl⟩=>by
 have:=ws h.nodup (fun k hk=>h.sub C hC k hk)
 omega
theorem Ii {ks:List Key} {k:Key} (h:k∉ks):add ks k=ks++[k]:=by unfold add;rw[aq h]
theorem Ij {ks:List Key} {k:Key} (h:k∈ks):add ks k=ks:=by unfold add;rw[aB h]
theorem Ej {tr:Key→Nat→Key} {L:Nat} {start:Key} {ks:List Key} {rs:List (List Int)} (h:Ed tr L start ks) (hE:rT tr L ks ks.length rs) {B:Nat} (hB:ks.length≤B):Ih tr L start B:=
 ⟨ks,⟨bT h.st,fun k hk x hx=>by
  obtain⟨i,hi,rfl⟩:=List.getElem_of_mem hk
  have:=hE.mem i hi x hx
  rwa[show ks.getD i []=ks[i] by simp[hi]]at this⟩,hB⟩
def Lv (v:Nat) (rs:List (List Int)) (fs:List Bool):c_:=⟨(v:Int),0,rs,fs⟩
section
variable {tr:Key→Nat→Key} {fin:Key→Bool} {v:Nat} {start:Key} {ks:List Key} {rs:List (List Int)}
theorem Hh (hv:v≤6) (hp:0<ks.length) (hE:rT tr (2^v) ks ks.length rs) (hn:ks.length≤4096):Valid (Lv v rs (ks.map fin)):=by
 refine⟨⟨by simp[Lv],by simp[Lv];omega,by show 0<rs.length;rw[hE.len];exact hp,by show(ks.map fin).length=rs.length;rw[hE.len,ai],Int.le_refl _,by show(0:Int)<(rs.length:Int);rw[hE.len];omega,fun r hr=>?_,fun r hr x hx=>?_⟩,by show rs.length≤4096;rw[hE.len];exact hn⟩
 ·obtain⟨i,hi,rfl⟩:=List.getElem_of_mem (show r∈rs from hr)
  have JR:i<ks.length:=by have:i<rs.length:=hi;rw[hE.len]at this;exact this
  have h9:=hE.row i JR
  rw[ak hi]at h9
  rw[dn h9];simp[l9,Lv]
 ·obtain⟨i,hi,rfl⟩:=List.getElem_of_mem (show r∈rs from hr)
  have JR:i<ks.length:=by have:i<rs.length:=hi;rw[hE.len]at this;exact this
  have h9:=hE.row i JR
  rw[ak hi]at h9
  rw[dn h9]at hx
  simp only[l9,i_,fE]at hx
  obtain⟨y,hy,rfl⟩:=hx
  have:=tB (hE.mem i JR y hy)
  exact⟨by omega,by show _<(rs.length:Int);rw[hE.len];omega⟩
theorem IU (hE:rT tr (2^v) ks ks.length rs): ∀(w:List Nat) (k:Key),iS (v:Int) w→k∈ks→runN (Lv v rs (ks.map fin)) (ix k ks) w=ix (w.foldl tr k) ks∧w.foldl tr k∈ks
 | [],k,_,hk=>⟨F,hk⟩
 |x::w,k,hw,hk=>by
  have hx:x<2^v:=by have:=hw x (by simp);simpa using this
  have hi:=tB hk
  have hg:ks.getD (ix k ks) []=k:=by rw[au,qB hk];rfl
  have hm:tr k x∈ks:=by have:=hE.mem _ hi x hx;rwa[hg]at this
  have ht:fm (Lv v rs (ks.map fin)) (ix k ks) x=ix (tr k x) ks:=by
   have h9:=hE.row _ hi
   unfold fm Lv
   simp only[au,h9,Option.getD_some,l9,bl,List.getElem?_range hx,Option.map_some]
   rw[←au,hg];simp
  have:=IU hE w (tr k x) (fun y hy=>hw y (by simp[hy])) hm
  unfold runN at this⊢
  rw[cU,ht,cU]
  exact this
theorem EY (hv:v≤6) (Az:ks[0]? =some start) (hE:rT tr (2^v) ks ks.length rs) (hn:ks.length≤4096):HasL (v:Int) ks.length (Lv v rs (ks.map fin)) (fun w=>fin (w.foldl tr start)):=by
 refine⟨Hh hv (List.getElem?_eq_some_iff.1 Az).1 hE hn,by show rs.length≤_;rw[hE.len];exact aI _,F,fun w hw=>?_⟩
 have hs:start∈ks:=bT Az
 have h0:ix start ks=0:=by
  cases ks with
  |nil=>simp at hs
  |cons k l=>have:=Az;simp at this;subst this;simp[ix]
 obtain⟨h1,h2⟩:=IU (fin:=fin) hE w start hw hs
 rw[h0]at h1
 unfold jf dR
 show List.getD (ks.map fin) (runN (Lv v rs (ks.map fin)) 0 w) false=_
 rw[h1,au,bl,qB h2];rfl
theorem Il (hv:v≤6) (h:Ed tr (2^v) start ks) (hE:rT tr (2^v) ks ks.length rs) (hn:ks.length≤4096):HasL (v:Int) ks.length (Lv v rs (ks.map fin)) (fun w=>fin (w.foldl tr start)):=EY hv h.st hE hn
theorem ID (hv:v≤6) {B:Nat} (hB:B≤4096) (h:Ih tr (2^v) start B): ∃M,fV (v:Int) B M (fun w=>fin (w.foldl tr start)):=by
 obtain⟨C,⟨h1,h2⟩,h3⟩:=h
 obtain⟨D,hD⟩: ∃D,D=start::C.filter (fun k=>decide (k≠start)):=⟨_,F⟩
 have hm: ∀k,k∈D↔k∈C:=fun k=>by
  rw[hD]
  by_cases e:k=start
  ·subst e;simp[h1]
  ·simp[e]
 have hl:D.length≤B:=by
  have hf:(C.filter (fun k=>decide (k≠start))).length<C.length:=by
   have:=List.length_filter_lt_length_iff_exists (p:=fun k=>decide (k≠start)) (l:=C)
   exact this.2 ⟨start,h1,by simp⟩
  rw[hD,bQ];omega
 have hE:rT tr (2^v) D D.length ((List.range D.length).map (l9 tr (2^v) D)):=by
  refine⟨by simp,aI _,fun i hi=>by rw[bl,List.getElem?_range hi];rfl,fun i hi y hy=>?_⟩
  rw[hm]
  refine h2 _ ?_ y hy
  rw[←hm,au,ak hi]
  exact av hi
 have h4:=EY (fin:=fin) hv (show D[0]? =some start by rw[hD];rfl) hE (by omega)
 have h5:=HasL.qJ h4
 exact⟨_,⟨h5.valid,bE h5.len hl,h5.vars,h5.jf⟩,h5.min⟩
end
structure SR where
 a:Value
 b:Value
 lX:List Item
abbrev c1 (r:SR):List Value:=[r.a]
abbrev c2 (r:SR):List Value:=[r.a,r.b]
def fq (f:SR→List Value) (qs:List SR):List Value:=qs.flatMap f
def j5 (qs:List SR):List Item:=qs.flatMap SR.lX
theorem w7 (f:SR→List Value) (qs:List SR) (r:SR):fq f (qs++[r])=fq f qs++f r:=by simp[fq]
theorem Bv (qs:List SR) (r:SR):j5 (qs++[r])=j5 qs++r.lX:=by simp[j5]
theorem lD {f:SR→List Value} {n:Nat} (h: ∀r,(f r).length=n): ∀(qs:List SR),(fq f qs).length=qs.length*n
 | []=>by simp[fq]
 |r::qs=>by
  have:=lD h qs
  have h0:=h r
  simp only[fq,List.flatMap_cons,aJ,bQ]at this⊢
  rw[this,h0,Nat.succ_mul];omega
theorem ug {f:SR→List Value} {n:Nat} (h: ∀r,(f r).length=n): ∀ {qs:List SR} {i j:Nat} (hi:i<qs.length),j<n→(fq f qs)[i*n+j]? =(f qs[i])[j]?
 |r::qs,0,j,_,hj=>by
  have h0:=h r
  simp only[fq,List.flatMap_cons,Nat.zero_mul,Nat.zero_add,List.getElem_cons_zero]
  rw[bG (by omega)]
 |r::qs,i+1,j,hi,hj=>by
  have h0:=h r
  have ih:=ug h (qs:=qs) (i:=i) (j:=j) (by simpa using hi) hj
  simp only[fq,List.flatMap_cons,List.getElem_cons_succ]at ih⊢
  rw[bZ (by rw[h0,Nat.succ_mul];omega),h0,show(i+1)*n+j-n=i*n+j by rw[Nat.succ_mul];omega]
  exact ih
theorem u7 {qs:List SR} {i:Nat} (hi:i<qs.length) {it:Item} (h:it∈qs[i].lX):it∈j5 qs:=List.mem_flatMap.2 ⟨_,av hi,h⟩
theorem TV {qs:List SR} {i:Nat} (hi:i<qs.length): ∀j (h:j< [qs[i].a,qs[i].b].length),(fq c2 qs)[i*2+j]? =some [qs[i].a,qs[i].b][j]:=fun j hj=>by
 rw[ug (f:=c2) (fun _=>rfl) hi (by simpa using hj)];exact ak hj
theorem TW {qs:List SR} {i:Nat} (hi:i<qs.length):(fq c1 qs)[i]? =some qs[i].a:=by
 have:=ug (f:=c1) (n:=1) (fun _=>rfl) (j:=0) hi (by omega)
 simpa using this
def Nj (Rp:Key→SR→Prop) (ks:List Key) (qs:List SR):Prop:=qs.length=ks.length∧ ∀i (h:i<qs.length),Rp (ks.getD i []) qs[i]
theorem Nj.one {Rp:Key→SR→Prop} {k:Key} {r:SR} (h:Rp k r):Nj Rp [k] [r]:=⟨F,fun i hi=>by simp at hi;subst hi;exact h⟩
theorem Nj.snoc {Rp:Key→SR→Prop} {ks:List Key} {qs:List SR} {k:Key} {r:SR} (h:Nj Rp ks qs) (hr:Rp k r):Nj Rp (ks++[k]) (qs++[r]):=by
 refine⟨by simp[h.1],fun i hi=>?_⟩
 rcases Nat.lt_or_ge i qs.length with c|c
 ·have:=h.2 i c
  rw[iU c,au,bG (by rw[←h.1];exact c),←au]
  exact this
 ·simp only[aJ,bQ,dx]at hi
  have e:i=qs.length:=by omega
  subst e
  rw[List.getElem_append_right (aI _),au,bZ (by rw[h.1];exact aI _)]
  simpa[h.1]using hr
theorem zh (A B Y Z X:List Item) (h:Sub A B):Sub (A++(Y++(Z++X))) (B++(X++(Y++Z))):=by
 obtain⟨l,h1,h2⟩:=h
 refine⟨l++(X++(Y++Z)),h1.append ?_,h2.append (aP _)⟩
 rw[←aV Y Z X]
 exact List.perm_append_comm
theorem w_ (A B Y Z:List Item) (h:Sub A B):Sub (A++Y) (B++(Y++Z)):=by
 obtain⟨l,h1,h2⟩:=h
 exact⟨l++Y,h1.append_right Y,h2.append (List.sublist_append_left Y Z)⟩
theorem rU (A B X Y:List Item) (c:Item) (h:Sub (A++[c]) B):Sub (A++((X++[c])++Y)) (B++(X++Y)):=by
 obtain⟨l,h1,h2⟩:=h
 refine⟨l++(X++Y),?_,h2.append (aP _)⟩
 refine List.Perm.trans ?_ (h1.append_right (X++Y))
 rw[aV X,aV A]
 exact List.Perm.append_left A ((List.perm_append_comm_assoc X [c] Y))
theorem fP (A B X Y:List Item) (h:Sub A B):Sub (A++Y) (B++(X++Y)):=by
 obtain⟨l,h1,h2⟩:=h
 exact⟨l++Y,h1.append_right Y,h2.append (List.sublist_append_right X Y)⟩
def nH (n:Int):Prop:=n= -1∨(0≤n∧n<1000000000000)
def lB (n:Int):List UInt8:=if n= -1 then[45,49]else Lib.decDigits n.toNat
def jw (l:List Int):List UInt8:=l.flatMap fun n=>lB n++[32]
theorem IG:jw []=[]:=rfl
theorem pQ (n:Int) (l:List Int):jw (n::l)=lB n++32::jw l:=by simp[jw]
theorem tW (l m:List Int):jw (l++m)=jw l++jw m:=by simp[jw]
theorem Ea {l:List Int} {i:Nat} (h:i<l.length):jw (l.take (i+1))=jw (l.take i)++lB l[i]++[32]:=by
 rw[aC h,tW,pQ];simp[jw]
theorem rO {n:Int} (h:nH n):(lB n).length≤12:=by
 unfold lB
 split
 ·decide
 ·rcases h with h|⟨h0,h1⟩
  ·contradiction
  ·exact uO 11 _ (by omega)
theorem qu: ∀ {l:List Int},(∀n∈l,nH n)→(jw l).length≤13*l.length
 | [],_=>by simp[jw]
 |n::l,h=>by
  have h1:=rO (h n (by simp));have h2:=qu (l:=l) fun x hx=>h x (by simp[hx])
  rw[pQ];simp only[aJ,bQ];omega
theorem sS (n:Int): ∀b∈lB n,b.toNat=45∨(48≤b.toNat∧b.toNat<58):=by
 unfold lB
 split
 ·intro b hb;simp at hb;rcases hb with rfl|rfl<;>decide
 ·exact fun b hb=>.inr (sF _ b hb)
theorem OR {a b:Int} (ha:nH a) (hb:nH b) (h:lB a=lB b):a=b:=by
 unfold lB at h
 by_cases h1:a= -1<;>by_cases h2:b= -1
 ·rw[h1,h2]
 ·rw[aB h1,aq h2]at h
  have:=sF b.toNat 45 (h▸by simp);simp at this
 ·rw[aq h1,aB h2]at h
  have:=sF a.toNat 45 (h▸by simp);simp at this
 ·rw[aq h1,aq h2]at h
  have:=qo _ _ h
  rcases ha with ha|ha<;>rcases hb with hb|hb<;>first|contradiction|omega
theorem zE: ∀ {x y p q:List UInt8},(∀b∈x,b≠32)→(∀b∈y,b≠32)→x++32::p=y++32::q→x=y∧p=q
 | [],[],p,q,_,_,h=>⟨F,by simpa using h⟩
 | [],c::y,p,q,_,hy,h=>by simp only[dM,cN,List.cons.injEq]at h;exact absurd h.1.symm (hy c (by simp))
 |c::x,[],p,q,hx,_,h=>by simp only[dM,cN,List.cons.injEq]at h;exact absurd h.1 (hx c (by simp))
 |c::x,c'::y,p,q,hx,hy,h=>by
  simp only[cN,List.cons.injEq]at h
  obtain⟨h1,h2⟩:=zE (fun b hb=>hx b (by simp[hb])) (fun b hb=>hy b (by simp[hb])) h.2
  exact⟨by rw[h.1,h1],h2⟩
theorem IH (n:Int): ∀b∈lB n,b≠32:=fun b hb e=>by subst e;have:=sS n 32 hb;simp at this
theorem CU: ∀ {l m:List Int} {p q:List UInt8},(∀n∈l,nH n)→(∀n∈m,nH n)→(∀b t,p=b::t→b.toNat=124)→(∀b t,q=b::t→b.toNat=124)→jw l++p=jw m++q→l=m∧p=q
 | [],[],p,q,_,_,_,_,h=>⟨F,by simpa[jw]using h⟩
 | [],n::m,p,q,_,_,hp,_,h=>by
  rw[pQ,IG,dM]at h
  cases hd:lB n with
  |nil=>rw[hd]at h;have:=hp 32 _ (by simpa using h);simp at this
  |cons c r=>
   rw[hd]at h
   have h1:=hp c _ (by simpa using h);have h2:=sS n c (by simp[hd]);omega
 |n::l,[],p,q,_,_,_,hq,h=>by
  rw[pQ,IG,dM]at h
  cases hd:lB n with
  |nil=>rw[hd]at h;have:=hq 32 _ (by simpa using h.symm);simp at this
  |cons c r=>
   rw[hd]at h
   have h1:=hq c _ (by simpa using h.symm);have h2:=sS n c (by simp[hd]);omega
 |n::l,n'::m,p,q,hl,hm,hp,hq,h=>by
  rw[pQ,pQ,aV,aV,cN,cN]at h
  obtain⟨h1,h2⟩:=zE (IH n) (IH n') h
  obtain⟨h3,h4⟩:=CU (fun x hx=>hl x (by simp[hx])) (fun x hx=>hm x (by simp[hx])) hp hq h2
  exact⟨by rw[OR (hl n (by simp)) (hm n' (by simp)) h1,h3],h4⟩
theorem zG {l m:List Int} (hl: ∀n∈l,nH n) (hm: ∀n∈m,nH n) (h:jw l=jw m):l=m:=
 (CU (p:=[]) (q:=[]) hl hm (by simp) (by simp) (by simpa using h)).1
theorem sT: ∀ {l m:List Nat},l.map (fun y:Nat=>(y:Int))=m.map (fun y:Nat=>(y:Int))→l=m
 | [],[],_=>rfl
 | [],_::_,h=>by simp at h
 |_::_,[],h=>by simp at h
 |x::l,y::m,h=>by
  simp only[cJ,List.cons.injEq]at h
  rw[sT h.2,show x=y by omega]
section
variable {α:Type} [Nonempty α] (G:α→Prop) (kf:α→Key) (nx:α→Nat→α) (fn:α→Bool)
noncomputable def Cw (k:Key) (x:Nat):Key:=kf (nx (Classical.epsilon fun a=>G a∧kf a=k) x)
noncomputable def Ko (k:Key):Bool:=fn (Classical.epsilon fun a=>G a∧kf a=k)
structure Sh (L:Nat):Prop where
 Qt: ∀a b x,G a→G b→kf a=kf b→x<L→kf (nx a x)=kf (nx b x)
 hfn: ∀a b,G a→G b→kf a=kf b→fn a=fn b
 FR: ∀a x,G a→x<L→G (nx a x)
variable {G kf nx fn}
theorem tX {L:Nat} (h:Sh G kf nx fn L) {a:α} (ha:G a) {x:Nat} (hx:x<L):Cw G kf nx (kf a) x=kf (nx a x):=by
 have:=Classical.epsilon_spec (p:=fun b=>G b∧kf b=kf a) ⟨a,ha,F⟩
 exact h.Qt _ _ x this.1 ha this.2 hx
theorem Cx {L:Nat} (h:Sh G kf nx fn L) {a:α} (ha:G a):Ko G kf fn (kf a)=fn a:=by
 have:=Classical.epsilon_spec (p:=fun b=>G b∧kf b=kf a) ⟨a,ha,F⟩
 exact h.hfn _ _ this.1 ha this.2
theorem IJ {L:Nat} (h:Sh G kf nx fn L): ∀(u:List Nat) {a:α},G a→(∀x∈u,x<L)→u.foldl (Cw G kf nx) (kf a)=kf (u.foldl nx a)∧G (u.foldl nx a)
 | [],a,ha,_=>⟨F,ha⟩
 |x::u,a,ha,hu=>by
  have hx:=hu x (by simp)
  rw[cU,tX h ha hx]
  exact IJ h u (h.FR a x ha hx) fun y hy=>hu y (by simp[hy])
theorem CS {L:Nat} (h:Sh G kf nx fn L) {a:α} (ha:G a) {u:List Nat} (hu: ∀x∈u,x<L):Ko G kf fn (u.foldl (Cw G kf nx) (kf a))=fn (u.foldl nx a):=by
 obtain⟨h1,h2⟩:=IJ h u ha hu
 rw[h1,Cx h h2]
end
abbrev Lg:=List Nat→Bool
def iV (p q:Lg):Lg:=fun w=>(List.range (w.length+1)).any fun i=>p (w.take i)&&q (w.drop i)
def zH (p:Lg):Nat→Lg
 |0,w=>w.isEmpty
 |n+1,w=>w.isEmpty||(List.range w.length).any fun i=>p (w.take (i+1))&&zH p n (w.drop (i+1))
def rM (p:Lg):Lg:=fun w=>zH p w.length w
theorem ir {p q:Lg} {w:List Nat}:iV p q w=true↔ ∃x y,w=x++y∧p x=true∧q y=true:=by
 unfold iV
 simp only[df,fE,ar]
 constructor
 ·rintro⟨i,_,h1,h2⟩;exact⟨_,_,(List.take_append_drop i w).symm,h1,h2⟩
 ·rintro⟨x,y,rfl,h1,h2⟩;exact⟨x.length,by simp;omega,by simpa using h1,by simpa using h2⟩
inductive jh (p:Lg):List Nat→Prop
 |nil:jh p []
 |tP {x y:List Nat}:p x=true→jh p y→jh p (x++y)
theorem jh.snoc {p:Lg} {x y:List Nat} (h:jh p x) (hy:p y=true):jh p (x++y):=by
 induction h with
 |nil=>simpa using jh.tP hy .nil
 |tP h1 _ ih=>rw[aV];exact .tP h1 ih
theorem jh.last {p:Lg} {w:List Nat} (h:jh p w):w≠ []→ ∃x y,w=x++y∧jh p x∧p y=true∧y≠ []:=by
 induction h with
 |nil=>exact fun h=>absurd F h
 | @tP x y h1 h2 ih=>
  intro hw
  by_cases hy:y=[]
  ·subst hy
   refine⟨[],x,by simp,.nil,h1,?_⟩
   rintro rfl;exact hw F
  ·obtain⟨a,b,e,h3,h4,h5⟩:=ih hy
   exact⟨x++a,b,by rw[e,aV],.tP h1 h3,h4,h5⟩
theorem wq {p:Lg}: ∀(n:Nat) (w:List Nat),w.length≤n→(zH p n w=true↔jh p w)
 |0,w,h=>by
  have:w=[]:=List.length_eq_zero_iff.1 (by omega)
  subst this;simp[zH,jh.nil]
 |n+1,w,h=>by
  unfold zH
  simp only[Bool.or_eq_true,List.isEmpty_iff,df,fE,ar]
  constructor
  ·rintro(rfl|⟨i,hi,h1,h2⟩)
   ·exact .nil
   ·rw[←List.take_append_drop (i+1) w]
    exact .tP h1 ((wq n _ (by simp;omega)).1 h2)
  ·intro hs
   have key: ∀w,jh p w→w≠ []→ ∃x y,w=x++y∧x≠ []∧p x=true∧jh p y:=by
    intro w hw
    induction hw with
    |nil=>exact fun h=>absurd F h
    | @tP x y h1 h2 ih=>
     intro qm
     by_cases hx:x=[]
     ·subst hx;exact ih qm
     ·exact⟨x,y,F,hx,h1,h2⟩
   by_cases hw:w=[]
   ·exact .inl hw
   ·obtain⟨x,y,rfl,hx,h1,h2⟩:=key w hs hw
    have Gi:=List.length_pos_iff.2 hx
    refine .inr ⟨x.length-1,by simp;omega,?_,?_⟩
    ·rw[show x.length-1+1=x.length by omega];simpa using h1
    ·rw[show x.length-1+1=x.length by omega]
     simpa using(wq n y (by simp at h;omega)).2 h2
theorem sK {p:Lg} {w:List Nat}:rM p w=true↔jh p w:=wq _ _ (aI _)
section
variable (a b:c_)
def xa (s:Nat) (l:List Nat):List Nat:=if dR a s then Cr b.next.length l b.start.toNat else l
def Lw (q:Nat×List Nat) (x:Nat):Nat×List Nat:=(fm a q.1 x,xa a b (fm a q.1 x) (gw b q.2 x))
def RQ:Nat×List Nat:=(a.start.toNat,xa a b a.start.toNat [])
def VZ (q:Nat×List Nat):Bool:=q.2.any (dR b)
def Bw (q:Nat×List Nat):Key:=jw ((q.1:Int)::q.2.map fun y:Nat=>(y:Int))
structure GC (q:Nat×List Nat):Prop where
 s:q.1<a.next.length
 V2:q.2.Pairwise (· < ·)
 lt: ∀t∈q.2,t<b.next.length
abbrev Cy (L B:Nat):Prop:=Ih (Cw (GC a b) Bw (Lw a b)) L (Bw (RQ a b)) B
variable {a b}
theorem oq {n:Nat} (h:n<1000000):nH (n:Int):=.inr ⟨by omega,by omega⟩
theorem IK (hn:a.next.length≤4096) (hm:b.next.length≤4096) {q:Nat×List Nat} (h:GC a b q): ∀n∈((q.1:Int)::q.2.map fun y:Nat=>(y:Int)),nH n:=fun n hn=>by
 rcases List.mem_cons.1 hn with rfl|hn
 ·exact oq (by have:=h.s;omega)
 ·obtain⟨y,hy,rfl⟩:=List.mem_map.1 hn
  exact oq (by have:=h.lt y hy;omega)
theorem IL (hn:a.next.length≤4096) (hm:b.next.length≤4096) {q r:Nat×List Nat} (hq:GC a b q) (hr:GC a b r) (h:Bw q=Bw r):q=r:=by
 have:=zG (IK hn hm hq) (IK hn hm hr) h
 simp only[List.cons.injEq]at this
 have h2:q.2=r.2:=sT this.2
 exact Prod.ext (by omega) h2
theorem OT (hb:Val b) {s:Nat} {l:List Nat} (ha:l.Pairwise (· < ·)) (hl: ∀t∈l,t<b.next.length):(xa a b s l).Pairwise (· < ·)∧ ∀t∈xa a b s l,t<b.next.length:=by
 unfold xa
 split
 ·exact⟨pR _ _,fun t ht=>(si.1 ht).1⟩
 ·exact⟨ha,hl⟩
theorem ot (d:c_) (l:List Nat) (x:Nat):(gw d l x).Pairwise (· < ·)∧ ∀t∈gw d l x,t<d.next.length:=⟨pR _ _,fun t ht=>(si.1 ht).1⟩
theorem IM (hb:Val b) {s:Nat} {l:List Nat} (hl: ∀t∈l,t<b.next.length) {t:Nat}:t∈xa a b s l↔t∈l∨(dR a s=true∧t=b.start.toNat):=by
 unfold xa
 split
 ·rename_i h;rw[x5 hl (ez hb)];simp[h]
 ·rename_i h;simp[h]
theorem GC.len {q:Nat×List Nat} (h:GC a b q) (hn:b.next.length≤4096):q.2.length≤4096:=bE (fA (h.V2.imp fun h=>Nat.ne_of_lt h) h.lt) hn
theorem GC.start (ha:Val a) (hb:Val b):GC a b (RQ a b):=by
 have:=OT (a:=a) (s:=a.start.toNat) hb (l:=[]) List.Pairwise.nil (by simp)
 exact⟨ez ha,this.1,this.2⟩
theorem GC.next (ha:Val a) (hb:Val b) {q:Nat×List Nat} (h:GC a b q) {x:Nat} (hx:x<eE a):GC a b (Lw a b q x):=by
 have h2:=ot b q.2 x
 have:=OT (a:=a) (s:=fm a q.1 x) hb h2.1 h2.2
 exact⟨(ha.iw h.s hx).1,this.1,this.2⟩
theorem Iq (ha:Valid a) (hb:Valid b):Sh (GC a b) Bw (Lw a b) (VZ b) (eE a):=
 ⟨fun q r x hq hr h _=>by rw[IL ha.n4 hb.n4 hq hr h],fun q r hq hr h=>by rw[IL ha.n4 hb.n4 hq hr h],fun q x h hx=>h.next ha.toVal hb.toVal hx⟩
theorem zI {α:Type} {p:List α→Prop} (h0:p []) (h1: ∀u x,p u→p (u++[x])): ∀u,p u:=fun u=>by
 have: ∀n (u:List α),u.length=n→p u:=by
  intro n
  induction n with
  |zero=>exact fun u hu=>(List.length_eq_zero_iff.1 hu)▸h0
  |succ n ih=>
   intro u hu
   have qm:u≠ []:=by rintro rfl;simp at hu
   rw[←List.dropLast_concat_getLast qm]
   exact h1 _ _ (ih _ (by simp[hu]))
 exact this _ u F
theorem Si (ha:Val a) (hb:Val b) (hv:a.vars=b.vars): ∀(u:List Nat),(∀x∈u,x<eE a)→(u.foldl (Lw a b) (RQ a b)).1=runN a a.start.toNat u∧ ∀t,t∈(u.foldl (Lw a b) (RQ a b)).2↔ ∃x y,u=x++y∧jf a x=true∧runN b b.start.toNat y=t:=by
 have aeF:eE b=eE a:=by unfold eE;rw[hv]
 apply zI
 ·intro _
  refine⟨F,fun t=>?_⟩
  show t∈xa a b a.start.toNat []↔_
  rw[IM hb (by simp)]
  constructor
  ·rintro(h|⟨h,rfl⟩)
   ·cases h
   ·exact⟨[],[],F,h,F⟩
  ·rintro⟨x,y,e,h,rfl⟩
   obtain⟨rfl,rfl⟩:=List.append_eq_nil_iff.1 e.symm
   exact .inr ⟨h,F⟩
 ·intro u z ih hu
  have QA: ∀x∈u,x<eE a:=fun x hx=>hu x (by simp[hx])
  have hz:z<eE a:=hu z (by simp)
  obtain⟨h1,h2⟩:=ih QA
  rw[cT,cU,List.foldl_nil]
  have hG:GC a b (u.foldl (Lw a b) (RQ a b)):=by
   have: ∀(u:List Nat) (q:Nat×List Nat),GC a b q→(∀x∈u,x<eE a)→GC a b (u.foldl (Lw a b) q):=by
    intro u
    induction u with
    |nil=>exact fun q h _=>h
    |cons x u ih=>exact fun q h hx=>ih _ (h.next ha hb (hx x (by simp))) fun y hy=>hx y (by simp[hy])
   exact this u _ (.start ha hb) QA
  refine⟨by rw[e8,←h1];rfl,fun t=>?_⟩
  show t∈xa a b (fm a (u.foldl (Lw a b) (RQ a b)).1 z) (gw b (u.foldl (Lw a b) (RQ a b)).2 z)↔_
  rw[IM hb (ot b _ z).2,sU hb hG.lt (by have:=hz;rw[←aeF]at this;exact this),h1,←e8]
  constructor
  ·rintro(⟨s,hs,rfl⟩|⟨h,rfl⟩)
   ·obtain⟨x,y,rfl,hx,rfl⟩:=(h2 s).1 hs
    exact⟨x,y++[z],by rw[aV],hx,e8 _ _ _ _⟩
   ·exact⟨u++[z],[],by simp,h,F⟩
  ·rintro⟨x,y,e,hx,rfl⟩
   by_cases hy:y=[]
   ·subst hy
    simp only[dp]at e;subst e
    exact .inr ⟨hx,F⟩
   ·have e2:=List.dropLast_concat_getLast hy
    rw[←e2,←aV]at e
    obtain⟨e3,e4⟩:=List.append_inj' e F
    simp only[List.cons.injEq,and_true]at e4
    refine .inl ⟨runN b b.start.toNat y.dropLast,(h2 _).2 ⟨x,y.dropLast,e3,hx,F⟩,?_⟩
    rw[e4,←e8,e2]
theorem El (ha:Valid a) (hb:Valid b) (hv:a.vars=b.vars) {u:List Nat} (hu: ∀x∈u,x<eE a):Ko (GC a b) Bw (VZ b) (u.foldl (Cw (GC a b) Bw (Lw a b)) (Bw (RQ a b)))=iV (jf a) (jf b) u:=by
 rw[CS (Iq ha hb) (.start ha.toVal hb.toVal) hu]
 obtain⟨_,h2⟩:=Si ha.toVal hb.toVal hv u hu
 rw[dN,ir]
 unfold VZ
 rw[df]
 constructor
 ·rintro⟨t,ht,hf⟩
  obtain⟨x,y,rfl,hx,rfl⟩:=(h2 t).1 ht
  exact⟨x,y,F,hx,hf⟩
 ·rintro⟨x,y,rfl,hx,hf⟩
  exact⟨_,(h2 _).2 ⟨x,y,F,hx,F⟩,hf⟩
end
section
variable (a:c_)
def vd (q:Bool×List Nat) (x:Nat):Bool×List Nat:=(false,if(gw a q.2 x).any (dR a)then Cr a.next.length (gw a q.2 x) a.start.toNat else gw a q.2 x)
def GM:Bool×List Nat:=(true,[a.start.toNat])
def RV (q:Bool×List Nat):Bool:=q.1||q.2.any (dR a)
def ki (q:Bool×List Nat):List Int:=if q.1 then-1::q.2.map (fun y:Nat=>(y:Int))else q.2.map (fun y:Nat=>(y:Int))
def De (q:Bool×List Nat):Key:=jw (ki q)
structure GS (q:Bool×List Nat):Prop where
 V2:q.2.Pairwise (· < ·)
 lt: ∀t∈q.2,t<a.next.length
abbrev GL (L B:Nat):Prop:=Ih (Cw (GS a) De (vd a)) L (De (GM a)) B
variable {a}
theorem zk (hn:a.next.length≤4096) {q:Bool×List Nat} (h:GS a q): ∀n∈ki q,nH n:=fun n hn=>by
 have h2: ∀n∈q.2.map (fun y:Nat=>(y:Int)),nH n:=fun n hn=>by
  obtain⟨y,hy,rfl⟩:=List.mem_map.1 hn
  exact oq (by have:=h.lt y hy;omega)
 unfold ki at hn
 split at hn
 ·rcases List.mem_cons.1 hn with rfl|hn
  ·exact .inl F
  ·exact h2 n hn
 ·exact h2 n hn
theorem IN (hn:a.next.length≤4096) {q r:Bool×List Nat} (hq:GS a q) (hr:GS a r) (h:De q=De r):q=r:=by
 have:=zG (zk hn hq) (zk hn hr) h
 obtain⟨f,l⟩:=q
 obtain⟨g,m⟩:=r
 unfold ki at this
 have hi: ∀ {l m:List Nat},l.map (fun y:Nat=>(y:Int))=m.map (fun y:Nat=>(y:Int))→l=m:=fun h=>sT h
 cases f<;>cases g<;>simp only[if_true,Bool.false_eq_true,if_false,List.cons.injEq,true_and]at this
 ·rw[hi this]
 ·cases l with
  |nil=>simp at this
  |cons y l=>simp only[cJ,List.cons.injEq]at this;omega
 ·cases m with
  |nil=>simp at this
  |cons y l=>simp only[cJ,List.cons.injEq]at this;omega
 ·rw[hi this]
theorem GS.start (ha:Val a):GS a (GM a):=⟨by simp[GM],fun t ht=>by simp[GM]at ht;subst ht;exact ez ha⟩
theorem GS.next {q:Bool×List Nat} (x:Nat):GS a (vd a q x):=by
 unfold vd
 refine⟨?_,?_⟩<;>dsimp only<;>split
 ·exact pR _ _
 ·exact(ot a _ x).1
 ·exact fun t ht=>(si.1 ht).1
 ·exact(ot a _ x).2
theorem Cz (ha:Valid a):Sh (GS a) De (vd a) (RV a) (eE a):=
 ⟨fun q r x hq hr h _=>by rw[IN ha.n4 hq hr h],fun q r hq hr h=>by rw[IN ha.n4 hq hr h],fun q x h hx=>GS.next x⟩
theorem OU (ha:Val a): ∀(u:List Nat),(∀x∈u,x<eE a)→((u.foldl (vd a) (GM a)).1=u.isEmpty)∧ ∀t,t∈(u.foldl (vd a) (GM a)).2↔ ∃x y,u=x++y∧jh (jf a) x∧runN a a.start.toNat y=t:=by
 apply zI
 ·intro _
  refine⟨F,fun t=>?_⟩
  show t∈[a.start.toNat]↔_
  rw[dl]
  constructor
  ·rintro rfl;exact⟨[],[],F,.nil,F⟩
  ·rintro⟨x,y,e,h,rfl⟩
   obtain⟨rfl,rfl⟩:=List.append_eq_nil_iff.1 e.symm
   rfl
 ·intro u z ih hu
  have QA: ∀x∈u,x<eE a:=fun x hx=>hu x (by simp[hx])
  have hz:z<eE a:=hu z (by simp)
  obtain⟨_,h2⟩:=ih QA
  have hG:GS a (u.foldl (vd a) (GM a)):=by
   have: ∀(u:List Nat) (q:Bool×List Nat),GS a q→GS a (u.foldl (vd a) q):=by
    intro u
    induction u with
    |nil=>exact fun q h=>h
    |cons x u ih=>exact fun q h=>ih _ (GS.next x)
   exact this u _ (.start ha)
  rw[cT,cU,List.foldl_nil]
  refine⟨by simp[vd],fun t=>?_⟩
  have hm: ∀t,t∈gw a (u.foldl (vd a) (GM a)).2 z↔ ∃x y,u=x++y∧jh (jf a) x∧runN a a.start.toNat (y++[z])=t:=fun t=>by
   rw[sU ha hG.lt hz]
   constructor
   ·rintro⟨s,hs,rfl⟩
    obtain⟨x,y,e,hx,rfl⟩:=(h2 s).1 hs
    exact⟨x,y,e,hx,e8 _ _ _ _⟩
   ·rintro⟨x,y,e,hx,rfl⟩
    exact⟨_,(h2 _).2 ⟨x,y,e,hx,F⟩,(e8 _ _ _ _).symm⟩
  have iO:(gw a (u.foldl (vd a) (GM a)).2 z).any (dR a)=true↔jh (jf a) (u++[z]):=by
   rw[df]
   constructor
   ·rintro⟨t,ht,hf⟩
    obtain⟨x,y,rfl,hx,rfl⟩:=(hm t).1 ht
    rw[aV];exact hx.snoc hf
   ·intro h
    obtain⟨x,y,e,hx,hy,qm⟩:=h.last (by simp)
    have e2:=List.dropLast_concat_getLast qm
    rw[←e2,←aV]at e
    obtain⟨e3,e4⟩:=List.append_inj' e F
    simp only[List.cons.injEq,and_true]at e4
    refine⟨_,(hm _).2 ⟨x,y.dropLast,e3,hx,F⟩,?_⟩
    rw[e4,e2];exact hy
  show t∈(if(gw a (u.foldl (vd a) (GM a)).2 z).any (dR a)then Cr a.next.length (gw a (u.foldl (vd a) (GM a)).2 z) a.start.toNat else gw a (u.foldl (vd a) (GM a)).2 z)↔_
  have Uw: ∀ {x y:List Nat},u++[z]=x++y→y≠ []→ ∃y',y=y'++[z]∧u=x++y':=fun {x y} e qm=>by
   have e2:=List.dropLast_concat_getLast qm
   rw[←e2,←aV]at e
   obtain⟨e3,e4⟩:=List.append_inj' e F
   simp only[List.cons.injEq,and_true]at e4
   exact⟨y.dropLast,by rw[e4,e2],e3⟩
  by_cases hA:(gw a (u.foldl (vd a) (GM a)).2 z).any (dR a)=true
  ·rw[aB hA,x5 (ot a _ z).2 (ez ha),hm]
   constructor
   ·rintro(⟨x,y,e,hx,h⟩|rfl)
    ·exact⟨x,y++[z],by rw[e,aV],hx,h⟩
    ·exact⟨u++[z],[],by simp,iO.1 hA,F⟩
   ·rintro⟨x,y,e,hx,h⟩
    by_cases hy:y=[]
    ·subst hy;exact .inr h.symm
    ·obtain⟨y',rfl,e3⟩:=Uw e hy
     exact .inl ⟨x,y',e3,hx,h⟩
  ·rw[aq hA,hm]
   constructor
   ·rintro⟨x,y,e,hx,h⟩
    exact⟨x,y++[z],by rw[e,aV],hx,h⟩
   ·rintro⟨x,y,e,hx,h⟩
    by_cases hy:y=[]
    ·subst hy
     simp only[dp]at e;subst e
     exact absurd (iO.2 hx) hA
    ·obtain⟨y',rfl,e3⟩:=Uw e hy
     exact⟨x,y',e3,hx,h⟩
theorem Bx (ha:Valid a) {u:List Nat} (hu: ∀x∈u,x<eE a):Ko (GS a) De (RV a) (u.foldl (Cw (GS a) De (vd a)) (De (GM a)))=rM (jf a) u:=by
 rw[CS (Cz ha) (.start ha.toVal) hu]
 obtain⟨h1,h2⟩:=OU ha.toVal u hu
 rw[dN,sK]
 unfold RV
 rw[Bool.or_eq_true,h1,List.isEmpty_iff,df]
 constructor
 ·rintro(rfl|⟨t,ht,hf⟩)
  ·exact .nil
  ·obtain⟨x,y,rfl,hx,rfl⟩:=(h2 t).1 ht
   exact hx.snoc hf
 ·intro h
  by_cases QA:u=[]
  ·exact .inl QA
  ·obtain⟨x,y,rfl,hx,hy,_⟩:=h.last QA
   exact .inr ⟨_,(h2 _).2 ⟨x,y,F,hx,F⟩,hy⟩
end
def gl (p n x:Nat):Bool:=decide (x&&&p=p∧x&&&n=0)
def Kq (n:Nat) (h:Nat→Bool):Lg:=fun u=>u.length==n&&u.all h
def T1 (n:Nat) (h:Nat→Bool) (s x:Nat):Int:=if s<n∧h x=true then((s+1:Nat):Int)else((n+1:Nat):Int)
def xe (L n:Nat) (h:Nat→Bool) (s:Nat):List Int:=(List.range L).map (T1 n h s)
def GN (v n:Nat) (h:Nat→Bool):c_:=⟨v,0,(List.range (n+2)).map (xe (2^v) n h),(List.replicate (n+2) false).set n true⟩
theorem KF {v n:Nat} (h:Nat→Bool) (hv:v≤6) (hn:n≤1):Valid (GN v n h):=by
 have n0:(GN v n h).next.length=n+2:=by show((List.range (n+2)).map _).length=_;simp
 refine⟨{v0:=Int.natCast_nonneg _,v6:=by show(v:Int)≤6;omega,n0:=by omega,fin:=by rw[n0];show((List.replicate (n+2) false).set n true).length=_;simp,s0:=Int.le_refl _,s1:=by rw[n0];show(0:Int)<_;omega,len:=?_,ok:=?_},by omega⟩
 ·intro r hr
  obtain⟨s,_,rfl⟩:=List.mem_map.1 (show r∈(List.range (n+2)).map _ from hr)
  show((List.range (2^v)).map _).length=2^((v:Int).toNat)
  simp
 ·intro r hr x hx
  rw[n0]
  obtain⟨s,hs,rfl⟩:=List.mem_map.1 (show r∈(List.range (n+2)).map _ from hr)
  obtain⟨y,_,rfl⟩:=List.mem_map.1 (show x∈(List.range (2^v)).map _ from hx)
  unfold T1
  split<;>omega
theorem Xk {v n:Nat} {h:Nat→Bool} {s x:Nat} (hs:s<n+2) (hx:x<2^v):fm (GN v n h) s x=if s<n∧h x=true then s+1 else n+1:=by
 have h1:(GN v n h).next[s]? =some (xe (2^v) n h s):=by show((List.range (n+2)).map _)[s]? =_;rw[bl,List.getElem?_range hs];rfl
 have h2:(xe (2^v) n h s)[x]? =some (T1 n h s x):=by unfold xe;rw[bl,List.getElem?_range hx];rfl
 unfold fm
 simp only[au,h1,Option.getD_some,h2]
 unfold T1
 split<;>exact Int.toNat_natCast _
theorem CT {v n:Nat} {h:Nat→Bool}: ∀(u:List Nat) (s:Nat),s≤n+1→(∀x∈u,x<2^v)→runN (GN v n h) s u=if s+u.length≤n∧u.all h=true then s+u.length else if u=[]then s else n+1
 | [],s,hs,_=>by
  simp only[dx,Nat.add_zero,List.all_nil]
  show s=_
  split<;>rfl
 |x::u,s,hs,hu=>by
  have hu2: ∀y∈u,y<2^v:=fun y hy=>hu y (by simp[hy])
  unfold runN
  rw[cU,Xk (by omega) (hu x (by simp))]
  by_cases hh:s<n∧h x=true
  ·rw[aB hh]
   have h1:=CT (h:=h) (n:=n) u (s+1) (by omega) hu2
   unfold runN at h1
   rw[h1]
   simp only[bQ,List.all_cons,hh.2,Bool.true_and,reduceCtorEq,if_false]
   have e:s+1+u.length=s+(u.length+1):=by omega
   rw[e]
   by_cases QA:u=[]
   ·subst QA
    simp only[dx,List.all_nil,Nat.zero_add]
    rw[aB ⟨by omega,trivial⟩,aB ⟨by omega,trivial⟩]
   ·rw[aq QA]
  ·rw[aq hh]
   have h1:=CT (h:=h) (n:=n) u (n+1) (by omega) hu2
   unfold runN at h1
   rw[h1]
   simp only[bQ,List.all_cons,reduceCtorEq,if_false]
   rw[aq (show¬(n+1+u.length≤n∧u.all h=true)from fun h9=>by omega),aq (show¬(s+(u.length+1)≤n∧(h x&&u.all h)=true)from fun h9=>hh ⟨by omega,(Bool.and_eq_true_iff.1 h9.2).1⟩)]
   split<;>rfl
theorem oU {v n:Nat} (h:Nat→Bool) (hv:v≤6) (hn:n≤1):HasL (v:Int) 3 (GN v n h) (Kq n h):=by
 have n0:(GN v n h).next.length=n+2:=by show((List.range (n+2)).map _).length=_;simp
 refine⟨KF h hv hn,by omega,F,fun u hu=>?_⟩
 have hu2: ∀x∈u,x<2^v:=fun x hx=>by simpa using hu x hx
 unfold jf dR Kq
 show((List.replicate (n+2) false).set n true).getD (runN (GN v n h) 0 u) false=_
 rw[CT u 0 (by omega) hu2,Nat.zero_add]
 have hf: ∀k,k≤n+1→((List.replicate (n+2) false).set n true).getD k false=decide (k=n):=fun k hk=>by
  rw[au]
  by_cases e:k=n
  ·subst e;rw[List.getElem?_set_self (by simp)];simp
  ·rw[List.getElem?_set_ne (fun h=>e h.symm),List.getElem?_replicate];simp[e];split<;>rfl
 by_cases c1:u.length≤n∧u.all h=true
 ·rw[aB c1,hf _ (by omega),c1.2,Bool.and_true]
  by_cases e:u.length=n<;>simp[e]
 ·rw[aq c1]
  by_cases e:u=[]
  ·subst e;exact absurd ⟨by simp,by simp⟩ c1
  ·rw[aq e,hf _ (by omega)]
   rw[a8 (by omega)]
   symm
   rw[Bool.and_eq_false_iff]
   by_cases e2:u.length=n
   ·exact .inr (by cases h9:u.all h with|false=>rfl|true=>exact absurd ⟨by omega,h9⟩ c1)
   ·exact .inl (by simp[e2])
theorem fw {v:Nat} (hv:v≤6):HasL (v:Int) 1 (gg (v:Int) true) (fun _=>true):=
 ⟨yi (by omega) (by omega) true,by show[_].length≤1;simp,F,fun w hw=>LN (by omega) (by omega) true hw⟩
inductive Rx where
 |none|empty
 |letter (p n:Nat)
 |iG (a b:Rx)|iR (a b:Rx)|and (a b:Rx)
 |not (a:Rx)|star (a:Rx)|ahead (a:Rx)|behind (a:Rx)
structure ei where
 op:Nat
 p:Nat
 n:Nat
 a:Int
 b:Int
def ei.cells (x:ei):List Value:=[.int .u8 (x.op:Int),.int .u8 (x.p:Int),.int .u8 (x.n:Int),.int .i64 x.a,.int .i64 x.b]
abbrev ei.cl (x:ei):List Value:=[.int .u8 (x.op:Int),.int .u8 (x.p:Int),.int .u8 (x.n:Int),.int .i64 x.a,.int .i64 x.b]
abbrev ei.ag (x:ei):Value:=.agg #[.int .u8 (x.op:Int),.int .u8 (x.p:Int),.int .u8 (x.n:Int),.int .i64 x.a,.int .i64 x.b]
def bX (e:List ei):List Value:=e.flatMap ei.cells
theorem cE (e:List ei):(bX e).length=e.length*5:=by
 induction e with
 |nil=>rfl
 |cons x e ih=>simp only[bX,List.flatMap_cons,aJ,bQ]at ih⊢;rw[ih];simp[ei.cells];omega
theorem lA {e:List ei}: ∀ {i:Nat} (hi:i<e.length) (j:Nat) (h:j<e[i].cells.length),(bX e)[i*5+j]? =some e[i].cells[j]:=by
 induction e with
 |nil=>intro i hi;simp at hi
 |cons x e ih=>
  intro i hi j hj
  simp only[bX,List.flatMap_cons]
  cases i with
  |zero=>rw[Nat.zero_mul,Nat.zero_add,bG (show j<x.cells.length from hj)];exact ak hj
  |succ i=>
   have h5:x.cells.length=5:=rfl
   rw[bZ (by rw[h5];omega),show(i+1)*5+j-x.cells.length=i*5+j by rw[h5];omega]
   exact ih (by simpa using hi) j hj
def ve (e:List ei):Rx→Nat→Prop
 | .none,i=>e[i]? =some ⟨1,0,0,0,0⟩
 | .empty,i=>e[i]? =some ⟨2,0,0,0,0⟩
 | .letter p n,i=>e[i]? =some ⟨3,p,n,0,0⟩∧p<256∧n<256
 | .iG a b,i=> ∃j k:Nat,e[i]? =some ⟨4,0,0,(j:Int),(k:Int)⟩∧ve e a j∧ve e b k
 | .iR a b,i=> ∃j k:Nat,e[i]? =some ⟨5,0,0,(j:Int),(k:Int)⟩∧ve e a j∧ve e b k
 | .and a b,i=> ∃j k:Nat,e[i]? =some ⟨6,0,0,(j:Int),(k:Int)⟩∧ve e a j∧ve e b k
 | .not a,i=> ∃j:Nat,e[i]? =some ⟨7,0,0,(j:Int),0⟩∧ve e a j
 | .star a,i=> ∃j:Nat,e[i]? =some ⟨8,0,0,(j:Int),0⟩∧ve e a j
 | .ahead a,i=> ∃j:Nat,e[i]? =some ⟨9,0,0,(j:Int),0⟩∧ve e a j
 | .behind a,i=> ∃j:Nat,e[i]? =some ⟨10,0,0,(j:Int),0⟩∧ve e a j
theorem ve.lt {e:List ei} {t:Rx} {i:Nat} (h:ve e t i):i<e.length:=by
 have g: ∀ {x:ei},e[i]? =some x→i<e.length:=fun h=>(List.getElem?_eq_some_iff.1 h).1
 cases t with
 |none=>exact g h
 |empty=>exact g h
 |letter p n=>exact g h.1
 |iG a b=>obtain⟨_,_,h,_⟩:=h;exact g h
 |iR a b=>obtain⟨_,_,h,_⟩:=h;exact g h
 |and a b=>obtain⟨_,_,h,_⟩:=h;exact g h
 |not a=>obtain⟨_,h,_⟩:=h;exact g h
 |star a=>obtain⟨_,h,_⟩:=h;exact g h
 |ahead a=>obtain⟨_,h,_⟩:=h;exact g h
 |behind a=>obtain⟨_,h,_⟩:=h;exact g h
theorem jp {e:List ei} {i:Nat} {x:ei} (h:e[i]? =some x): ∃hi:i<e.length,e[i]=x:=by
 obtain⟨hi,h⟩:=List.getElem?_eq_some_iff.1 h;exact⟨hi,h⟩
def Rx.plain:Rx→Bool
 | .ahead _| .behind _=>false
 | .iG a b| .iR a b| .and a b=>a.plain&&b.plain
 | .not a| .star a=>a.plain
 |_=>true
def fM:Rx→Lg
 | .none=>fun _=>false
 | .empty=>Kq 0 (gl 0 0)
 | .letter p n=>Kq 1 (gl p n)
 | .iG a b=>iV (fM a) (fM b)
 | .iR a b=>fun u=>fM a u||fM b u
 | .and a b=>fun u=>fM a u&&fM b u
 | .not a=>fun u=>!fM a u
 | .star a=>rM (fM a)
 | .ahead a=>fM a
 | .behind a=>fM a
instance:Nonempty c_:=⟨Do⟩
noncomputable def minOf (v:Nat) (p:Lg):c_:=Classical.epsilon fun M=>fV (v:Int) 4096 M p
theorem iC {v B:Nat} {M:c_} {p:Lg} (h:fV (v:Int) B M p) (hB:B≤4096):M=minOf v p:=by
 have h2:fV (v:Int) 4096 M p:=⟨h.toHasL.le (bE h.len hB),h.min⟩
 have h3:=Classical.epsilon_spec (p:=fun M=>fV (v:Int) 4096 M p) ⟨M,h2⟩
 exact fV.ext h2 h3 fun _ _=>rfl
def Xm (f:Bool→Bool→Bool) (a b:c_) (B:Nat):Prop:=(order (cq f a b)).length≤4096∧(uz f a b).next.length≤B
def kZ (v:Nat):Rx→Nat→Prop
 | .none,B=>(pj (gg (v:Int) true)).next.length≤B
 | .empty,B=>(jD (GN v 0 (gl 0 0))).next.length≤B
 | .letter p n,B=>(jD (GN v 1 (gl p n))).next.length≤B
 | .iG a b,B=>kZ v a B∧kZ v b B∧Cy (minOf v (fM a)) (minOf v (fM b)) (eE (minOf v (fM a))) B
 | .iR a b,B=>kZ v a B∧kZ v b B∧Xm F9 (minOf v (fM a)) (minOf v (fM b)) B
 | .and a b,B=>kZ v a B∧kZ v b B∧Xm tH (minOf v (fM a)) (minOf v (fM b)) B
 | .not a,B=>kZ v a B∧(pj (minOf v (fM a))).next.length≤B
 | .star a,B=>kZ v a B∧GL (minOf v (fM a)) (eE (minOf v (fM a))) B
 | .ahead a,B=>kZ v a B
 | .behind a,B=>kZ v a B
theorem notM {v:Int} {B C:Nat} {M:c_} {p:Lg} (h:HasL v B M p) (hl:(pj M).next.length≤C):fV v C (pj M) (fun u=>!p u):=by
 have hv:=h.valid.toVal
 have h1:=yy (f:=q8) h h (N:=M.next.length) (q9 hv hv F hv F (QM.refl M) (QM.refl M)) h.valid.n4
 exact⟨h1.toHasL.le hl,h1.min⟩
theorem NR {v B:Nat} (hv:v≤6) (hl:(pj (gg (v:Int) true)).next.length≤B):fV (v:Int) B (pj (gg (v:Int) true)) (fM .none):=notM (fw hv) hl
theorem opM {f:Bool→Bool→Bool} {v:Int} {B C:Nat} {a b:c_} {p q:Lg} (ha:fV v B a p) (hb:fV v B b q) (ho:(order (cq f a b)).length≤4096) (hl:(uz f a b).next.length≤C):fV v C (uz f a b) (fun u=>f (p u) (q u)):=by
 have h1:=yy (f:=f) ha.toHasL hb.toHasL ho (aI _)
 exact⟨h1.toHasL.le hl,h1.min⟩
theorem iS.take {v:Int} {w:List Nat} (h:iS v w) (n:Nat):iS v (w.take n):=fun x hx=>h x (List.mem_of_mem_take hx)
theorem iS.drop {v:Int} {w:List Nat} (h:iS v w) (n:Nat):iS v (w.drop n):=fun x hx=>h x (List.mem_of_mem_drop hx)
theorem zK {α:Type} {l:List α} {f g:α→Bool} (h: ∀x∈l,f x=g x):l.any f=l.any g:=by
 induction l with
 |nil=>rfl
 |cons x l ih=>rw[List.any_cons,List.any_cons,h x (by simp),ih fun y hy=>h y (by simp[hy])]
theorem qv {v:Int} {p q p' q':Lg} (hp: ∀w,iS v w→p w=p' w) (hq: ∀w,iS v w→q w=q' w) {w:List Nat} (hw:iS v w):iV p q w=iV p' q' w:=
 zK fun i _=>by rw[hp _ (hw.take i),hq _ (hw.drop i)]
theorem xn {v:Int} {p p':Lg} (hp: ∀w,iS v w→p w=p' w): ∀(n:Nat) {w:List Nat},iS v w→zH p n w=zH p' n w
 |0,w,_=>rfl
 |n+1,w,hw=>by
  show(w.isEmpty||_)=(w.isEmpty||_)
  congr 1
  exact zK fun i _=>by rw[hp _ (hw.take _),xn hp n (hw.drop _)]
theorem xf {v:Int} {p p':Lg} (hp: ∀w,iS v w→p w=p' w) {w:List Nat} (hw:iS v w):rM p w=rM p' w:=xn hp _ hw
theorem fV.to {v:Int} {B:Nat} {M:c_} {p q:Lg} (h:fV v B M p) (hq: ∀w,iS v w→p w=q w):fV v B M q:=
 ⟨⟨h.valid,h.len,h.vars,fun u hu=>by rw[h.jf u hu];exact hq u hu⟩,h.min⟩
theorem gk {e:List ei} {i:Nat} {x:ei} (h:e[i]? =some x): ∀j (hj:j<x.cells.length),(bX e)[i*5+j]? =some x.cells[j]:=fun j hj=>by
 obtain⟨hi,rfl⟩:=jp h
 exact lA hi j hj
section
variable {H:Type} {enc:TypeId×Value→H} {P:Program}
theorem QS {te e ti tu:TypeId} {f0 f1 f2 f3 f4:Field} {W:World} {r:Reach} {b0:Nat} {v:Value} {d:DataW H} {p:List MemPlace} (ht:P.underlying te=some (.slice e)) (he:P.underlying e=some (.struct #[f0,f1,f2,f3,f4])) (ce:P.cellsOf e=5) (be:0<P.bytesOf e)
  (h0:f0.type=tu) (h1:f1.type=tu) (h2:f2.type=tu) (h3:f3.type=ti) (h4:f4.type=ti) (o0:f0.offset=0) (o1:f1.offset=1) (o2:f2.offset=2) (o3:f3.offset=3) (o4:f4.offset=4)
  (hi:P.underlying ti=some (.int .i64)) (hu:P.underlying tu=some (.int .u8)) (ci:P.cellsOf ti=1) (cu:P.cellsOf tu=1)
  (nm:Value.okWide P W r b0 te v) (hw: ∀m∈d.weights P te,m≤reachBytes) (g:DataW.Trod enc P W 0 (fun _=>true) true te v d p):
  ∃(b:Option Addr) (cp:Nat) (es:List ei),v=.slice b es.length cp∧es.length≤reachBytes∧es.length≤cp∧Sl W b (bX es)∧ ∀x∈es,x.p<256∧x.n<256:=by
 obtain⟨gP,g⟩:=g
 have hv:v.cells.toList=[v]:=by
  unfold Value.okWide at nm
  rw[ht]at nm
  simp only at nm
  unfold Cell.okWide Cell.ok at nm
  rw[ht]at nm
  cases v<;>simp_all[Value.cells]
 rw[hv]at g
 rcases open_slice ht g with⟨h,_⟩|⟨a,len,cap,m,n,D,Pl,h,_,hl,_,hm,hx,ld⟩
 ·exact⟨none,0,[],by simpa using h,bj _,bj _,Sl.nil _ _,fun e h=>by cases h⟩
 ·simp only[if_true]at hm
  have hm':=hm.symm
  subst hm'
  have hd:d=_:=am Prod.fst hx
  rw[hd]at hw
  have hb:=(wQ ht be hw).1
  have Am:len≤reachBytes:=by simpa using hb
  have each: ∀i,i<cap→ ∃q:ei,(q.p<256∧q.n<256)∧ ∀j,j<5→W.cell? (a.add (i*5+j))=q.cells[j]? :=by
   intro i Lr
   obtain⟨B5,k1,k2⟩:=ld i Lr
   rw[ce]at k1
   obtain⟨_,iH,Mb⟩:=World.cells?_some k1
   obtain⟨xs,k,hk,hxy,_,Gi,hf⟩:=DataW.trod_struct he k2
   match xs,Gi,B5,iH with
   | [y0,y1,y2,y3,y4],_,[v0,v1,v2,v3,v4],_=>
    have g0:=hf 0 f0 F
    have g1:=hf 1 f1 F
    have g2:=hf 2 f2 F
    have g3:=hf 3 f3 F
    have g4:=hf 4 f4 F
    rw[h0,o0,cu]at g0
    rw[h1,o1,cu]at g1
    rw[h2,o2,cu]at g2
    rw[h3,o3,ci]at g3
    rw[h4,o4,ci]at g4
    obtain⟨n0,e0,_,w0⟩:=DataW.trod_int hu g0
    obtain⟨n1,e1,_,w1⟩:=DataW.trod_int hu g1
    obtain⟨n2,e2,_,w2⟩:=DataW.trod_int hu g2
    obtain⟨n3,e3,_,w3⟩:=DataW.trod_int hi g3
    obtain⟨n4,e4,_,w4⟩:=DataW.trod_int hi g4
    have e0':v0=.int .u8 n0:=by simpa using e0
    have e1':v1=.int .u8 n1:=by simpa using e1
    have e2':v2=.int .u8 n2:=by simpa using e2
    have e3':v3=.int .i64 n3:=by simpa using e3
    have e4':v4=.int .i64 n4:=by simpa using e4
    subst e0' e1' e2' e3' e4'
    have b0:=QR w0
    have b1:=QR w1
    have b2:=QR w2
    refine⟨⟨n0.toNat,n1.toNat,n2.toNat,n3,n4⟩,⟨by simp only;omega,by simp only;omega⟩,fun j hj=>?_⟩
    have q:=Mb j hj
    rw[add_add]at q
    rw[q]
    match j,hj with
    |0,_=>simp[ei.cells,cW b0.1]
    |1,_=>simp[ei.cells,cW b1.1]
    |2,_=>simp[ei.cells,cW b2.1]
    |3,_=>rfl
    |4,_=>rfl
  have:Inhabited ei:=⟨⟨0,0,0,0,0⟩⟩
  obtain⟨q,hq⟩:=choose_lt each
  refine⟨some a,cap,(List.range len).map q,by simpa using h,by simp;omega,by simp;omega,uD fun i Lr=>?_,fun e he9=>?_⟩
  ·have xx:i<len*5:=by rw[cE]at Lr;simpa using Lr
   have h4:=(hq (i/5) (by omega)).2 (i%5) (by omega)
   rw[show i/5*5+i%5=i by omega]at h4
   rw[h4]
   have h5:=lA (e:=(List.range len).map q) (i:=i/5) (by simp;omega) (i%5) (by simp[ei.cells];omega)
   rw[show i/5*5+i%5=i by omega,ak Lr]at h5
   rw[dn h5]
   simp only[jU,List.getElem_range]
   exact ak _
  ·obtain⟨j,hj,rfl⟩:=List.mem_map.1 he9
   exact(hq j (by have:=List.mem_range.1 hj;omega)).1
end
theorem j_ {P:Program} {r:Option Nat} {base:World} {n:Nat} {c:Code} {Q:kv} {ρ:Env} {O:List Item} (O':List Item) (L:List (Nat×Value)) (e:O=O') (h:dh L ρ) (k: ∀gv,T P r base n c Q (Dy L gv) O'):T P r base n c Q ρ O:=by
 obtain⟨gv,rfl⟩:=h.elim
 subst e
 exact k gv
theorem oP {P:Program} {r:Option Nat} {base:World} {n m:Nat} {c:Code} {Q:kv} {ρ:Env} {O:List Item} (O':List Item) (L:List (Nat×Value)) (e:O=O') (h:dh L ρ) (k: ∀gv,Tu P r base n c Q m (Dy L gv) O'):Tu P r base n c Q m ρ O:=by
 obtain⟨gv,rfl⟩:=h.elim
 subst e
 exact k gv
section
variable {P:Program} {base:World} {ρ:Env} {O:List Item} {dst:Option Nat} {t:TypeId} {p:String} {af:Array Edge} {g:Option (Nat×Bool)}
end
def dT (P:Program) (base:World) (tm:Value) (f:FuncId) (args:List Value) (O:List Item) (R:Value→List Item→Prop) (Z:Prop):Prop:=
 ∀w M,Inv base (O++M) w→Calls P f args.toArray w fun e w'=>(∃v O',e=.returned v∧Inv base (O'++M) w'∧R v O')∨(e=.panicked [{v:=tm,recovered:=false}]∧Inv base M w'∧Z)
theorem dT.mono {P:Program} {base:World} {tm:Value} {f:FuncId} {args:List Value} {O:List Item} {R R':Value→List Item→Prop} {Z Z':Prop} (h:dT P base tm f args O R Z) (hr: ∀v O',R v O'→R' v O') (hz:Z→Z'):dT P base tm f args O R' Z':=
 fun w M hI=>(h w M hI).mono fun _ _ h=>h.imp (fun⟨v,O',h1,h2,h3⟩=>⟨v,O',h1,h2,hr v O' h3⟩) (fun⟨h1,h2,h3⟩=>⟨h1,h2,hz h3⟩)
theorem dT.under {P:Program} {base:World} {tm:Value} {f:FuncId} {args:List Value} {A B O:List Item} {R:Value→List Item→Prop} {Z:Prop} (h:dT P base tm f args A R Z) (hs:Sub (A++B) O):dT P base tm f args O (fun v O'=> ∃A',O'=A'++B∧R v A') Z:=
 fun w M hI=>(h w (B++M) (by have:=hI.lz hs.tP;rwa[aV]at this)).mono fun _ _ h=>h.imp (fun⟨v,A',h1,h2,h3⟩=>⟨v,A'++B,h1,by rwa[aV],A',F,h3⟩) (fun⟨h1,h2,h3⟩=>⟨h1,h2.lz ⟨M,List.Perm.refl _,List.sublist_append_right B M⟩,h3⟩)
theorem dT.pure {P:Program} {base:World} {tm:Value} {f:FuncId} {args:List Value} {O:List Item} {R:Value→List Item→Prop} {Z:Prop} (h: ∀w,Inv base O w→dT P w tm f args [] R Z):dT P base tm f args O (fun v O'=> ∃N,O'=N++O∧R v N) Z:=
 fun w M hI=>(h w hI.left w [] (Inv.refl w)).mono fun _ _ h=>h.imp (fun⟨v,N,h1,h2,h3⟩=>⟨v,N++O,h1,by
  have:=hI.call h2
  simpa[aV]using this,N,F,h3⟩) (fun⟨h1,h2,h3⟩=>⟨h1,by
  have:=hI.call h2
  exact this.lz ⟨M,List.Perm.refl _,by simp⟩,h3⟩)
theorem cx.fJ {P:Program} {base:World} {f:FuncId} {args:List Value} {O:List Item} {R:Value→List Item→Prop} (E:TypeId) (k:Nat) (h:cx P base f args (az none 0 E k []::O) R):cx P base f args O R:=
 fun w M hI=>h w M (Inv.fJ hI E k)
theorem Inv.lj {base w:World} {O:List Item} (hI:Inv base O w) {b:Nat} {cs:List Value} {T:TypeId} (h:eu b (.cells cs.toArray T (0,0))∈O):Sl w (aD b) cs:=fun i hi=>by
 have hb:w.heap[b]? =some (.cells cs.toArray T (0,0)):=hI.holds _ h
 exact⟨⟨b,0,none⟩,F,F,by simp[World.cell?,hb,hi]⟩
theorem eK {P:Program} {base:World} {O:List Item} {fv:Value} {args:List Value} {R:Value→List Item→Prop} (h: ∀w,Inv base O w→fh P w fv args [] R):fh P base fv args O (fun v O'=> ∃N,O'=N++O∧R v N):=fun w M hI=>by
 have h1:=h w hI.left w [] (Inv.refl w)
 have key: ∀w' N,Inv w (N++[]) w'→Inv base (N++O++M) w':=fun w' N h2=>by
  have:=hI.call h2
  simpa[aV]using this
 revert h1
 cases(lW fv args.toArray).run P w with
 |halt e w=>exact id
 |ok y w=>
  cases y<;>first
   |exact id
   |exact fun h=>Calls.mono h fun _ _ ⟨v,N,h1,h2,h3⟩=>⟨v,N++O,h1,key _ N h2,N,F,h3⟩
   |exact fun h=>RoundIn.mono h fun _ _ ⟨v,N,h1,h2,h3⟩=>⟨v,N++O,h1,key _ N h2,N,F,h3⟩
section
variable {P:Program} {r:Option Nat} {base:World} {n:Nat} {Q:kv} {ρ:Env} {O S S2:List Item} {tail dG:List Nat} {ops:Array Oper} {K:Env→List Item→Prop} {X:PX}
def SJ (X:PX) (P:Program) (r:Option Nat) (base:World) (n:Nat) (o:Oper) (ρ:Env) (O:List Item) (K:Env→List Item→Prop):Prop:=
 ∀a w M ds,Ag n ds a ρ→Inv base (O++M) w→ ∀(next:Act→World→Prop) (Qx:Exit→Act→World→Prop),
  (∀a' iA O' w',Ag n ds a' iA→Inv base (O'++M) w'→K iA O'→next a' w')→(∀c w',X c→Inv base M w'→Qx (.panic c) a w')→o.wpIn (Fr r) 0 P a w next Qx
theorem eU {l:List Oper} {o:Oper} (hg:o.guard=none) (h:SJ X P r base n o ρ O (fun iA O'=>TO X P r base n ops l K iA O')):TO X P r base n ops (o::l) K ρ O:=
 fun Q a w M D hk ha hi=>wpListIn_plain hg fun next fN=>h a w _ _ ha hi next _ (fun a' _ _ w' h1 h2 h3=>fN a' w' (h3 Q a' w' M D hk h1 h2)) fun c w' hx hI=>⟨ρ,[],D,ha,hI,hk.2 c ρ hx⟩
theorem Ad {gP:Nat} {listed:Array Bool} (i:Nat) {o:Oper} (hi:ops[i]? =some o) (hg:o.guard=none) (hr:Region.ready .any ops listed=[i])
  (h:SJ X P r base n o ρ O (fun iA O'=>(i∈tail∨Sub S O')∧(i∈dG∨Sub S2 O')∧RO X P r base n ops S tail S2 dG gP (listed.setIfInBounds i true) K iA O')):RO X P r base n ops S tail S2 dG (gP+1) listed K ρ O:=by
 intro Q a w M D hq hp ha hI pm hS
 refine⟨fun h0=>(by rw[hr]at h0;cases h0),fun j hj=>?_⟩
 rw[hr]at hj
 obtain rfl:j=i:=by simpa using hj
 have A_:j∈Region.ready .any ops listed:=by rw[hr];simp
 have gQ:j<listed.size:=by
  have:=(mem_ready.1 A_).1
  rcases Nat.lt_or_ge j listed.size with h'|h'
  ·exact h'
  ·simp[Array.getElem?_eq_none h']at this
 unfold wpOpIn
 simp only[hi]
 rw[aB (by simp[Region.wanted,hg])]
 refine h a w _ _ ha hI _ _ (fun a' iA O' w' h1 h2 h3=>?_) fun c w' hx hI=>⟨ρ,[],D,ha,hI,hp.pan c ρ hx⟩
 have tp: ∀(tl:List Nat) (Z:List Item),(j∈tl∨Sub Z O')→(tl.any fun b=>(listed.setIfInBounds j true).getD b false)=true∨Inv base Z w':=fun tl Z h3=>by
  rcases h3 with h4|h4
  ·refine .inl (List.any_eq_true.2 ⟨j,h4,?_⟩)
   simp[gQ]
  ·exact .inr (h2.left.lz h4)
 have rl:jF base S tail S2 dG (listed.setIfInBounds j true) w':=⟨h2.oE,tp _ _ h3.1,tp _ _ h3.2.1⟩
 exact⟨rl,h3.2.2 Q a' w' M D hq hp h1 h2 (jQ pm A_) rl⟩
theorem SJ.mono {o:Oper} {K':Env→List Item→Prop} (h:SJ X P r base n o ρ O K) (hk: ∀iA O',K iA O'→K' iA O'):SJ X P r base n o ρ O K':=
 fun a w M ds ha hI next Qx fN hx=>h a w M ds ha hI next Qx (fun a' iA O' w' h1 h2 h3=>fN a' iA O' w' h1 h2 (hk _ _ h3)) hx
theorem iY {l:List (Nat×Nat)} {i:Nat} {o:Oper} (hi:ops[i]? =some o) (hg:o.guard=none)
  (h:SJ X P r base n o ρ O (fun iA O'=>Sub S O'∧DO X P r base n ops S tail [] dG l K iA O')):DO X P r base n ops S tail [] dG ((i,1)::l) K ρ O:=fun hs my hl listed hb=>by
 simp only[kE,ar,beq_iff_eq]at hb
 refine Ad i hi hg hb.1 (h.mono fun iA O' h3=>⟨.inr h3.1,.inr (cd (bV _)),h3.2 hs my (fun q hq=>hl q (List.mem_cons_of_mem _ hq)) _ hb.2⟩)
theorem tY {l:List (Nat×Nat)} {i:Nat} {o:Oper} (hi:ops[i]? =some o) (hg:o.guard=none)
  (h:SJ X P r base n o ρ O (fun iA O'=>DO X P r base n ops S tail S2 dG l K iA O')):DO X P r base n ops S tail S2 dG ((i,2)::l) K ρ O:=fun hs my hl listed hb=>by
 simp only[kE,ar,beq_iff_eq]at hb
 refine Ad i hi hg hb.1 (h.mono fun iA O' h3=>⟨.inl ((hl (i,2) (by simp)).1.1 F),.inl ((hl (i,2) (by simp)).2.1 (.inl F)),h3 hs my (fun q hq=>hl q (List.mem_cons_of_mem _ hq)) _ hb.2⟩)
theorem fD {d:Nat} {t:TypeId} {p:String} {af:Array Edge} {g:Option (Nat×Bool)} {f:FuncId} {fn:Func} {tm:Value} {args:List Operand} {yF:Array TypeId} {vs:List Value} {R:Value→List Item→Prop} {Z:Prop} (he:Enters P f fn)
  (hc:dT P base tm f vs O R Z) (ha:HQ ρ args=vs) (hz:Z→X [{v:=tm,recovered:=false}]) (h: ∀v O',R v O'→K (kz ρ d v) O') (hn:Nat.blt d n=true:=by rfl):
  SJ X P r base n ⟨some d,.call ⟨.value (.func f),args.toArray,yF⟩,t,p,af,g⟩ ρ O K:=by
 subst ha
 intro a w M ds ha hi next Qx fN hx
 have uI: ¬fn.name= "runtime.NumGoroutine" :=by simpa using he.2.1
 obtain⟨bd,Q0⟩:=Option.isSome_iff_exists.1 he.2.2
 have hr:(execOp a.eval ⟨some d,.call ⟨.value (.func f),args.toArray,yF⟩,t,p,af,g⟩).run P w=.ok (.enter f (HQ ρ args).toArray) w:=by
  rw[ha.eval,tS]
  simp[lW,ev,Deferred.ofValue,invoke,callFunc,he.1,uI,Q0]
 refine mL (by intro c e;cases e) ?_
 rw[hr,Oper.uponIn_enter]
 refine⟨fun e=>by simp[Fr,Fence.wide]at e,n6 (Calls.mono (hc w M hi) ?_)⟩
 rintro e w' (⟨v,O',rfl,oM,hR⟩|⟨rfl,oM,hZ⟩)
 ·exact fN _ _ _ _ (ha.put hn v) oM (h v O' hR)
 ·exact hx _ _ (hz hZ) oM
theorem xX {dst:Option Nat} {t:TypeId} {p:String} {af:Array Edge} {g:Option (Nat×Bool)} {x:Operand} {T:TypeId} {u:Value} (hx:ev ρ x=.iface T u) (h:X [{v:=.iface T u,recovered:=false}]):SJ X P r base n ⟨dst,.panic x,t,p,af,g⟩ ρ O K:=by
 intro a w M ds ha hi next Qx fN hq
 refine mL (by intro c e;cases e) ?_
 have hr:(execOp a.eval ⟨dst,.panic x,t,p,af,g⟩).run P w=.halt (.panic (.iface T u)) w:=by
  rw[ha.eval];simp[execOp,hx,Instr.panic]
 rw[hr,Oper.uponIn_panic]
 exact hq _ _ h (hi.lz ⟨M,List.Perm.refl _,List.sublist_append_right O M⟩)
theorem sL {dst:Option Nat} {t:TypeId} {p:String} {af:Array Edge} {g:Option (Nat×Bool)} {x:Operand} {T:TypeId} {fs:Array Field} {v:Value} (hu:P.underlying T=some (.struct fs)) (hx:ev ρ x=v):QT P base ⟨dst,.makeInterface T x,t,p,af,g⟩ ρ O (.iface T v):=fun w _=>by
 simp[execOp,hx,Instr.makeInterface,bL hu]
theorem ZY {dst:Option Nat} {t:TypeId} {p:String} {af:Array Edge} {g:Option (Nat×Bool)} {x:Operand} {T:TypeId} {k:IntKind} {a:Int} (hx:ev ρ x=.int k a):QT P base ⟨dst,.unOp .neg T x,t,p,af,g⟩ ρ O (.int k (k.wrap (-a))):=fun w _=>by
 simp[execOp,hx,Op.unary,Op.intArith]
theorem NA (i:Nat) {t:TypeId} {p:String} {af:Array Edge} {g:Option (Nat×Bool)} {x:Operand} {T E:TypeId} {b o m c lo h_:Nat} {cs:List Value} {z:Value} (hu:P.underlying T=some (.slice E)) (hi:gj P E z 1 h_) (hz:z.cells= #[z]) (hz1:fS z=true)
  (hx:ev ρ x=.slice (DC (some ⟨b,o,none⟩) c lo 1) (m-lo) (c-lo)) (hlo:lo<m) (hm:m≤c) (hO:O[i]? =some (az (some ⟨b,o,none⟩) c E 1 cs)) (h:K ρ (O.set i (az (some ⟨b,o,none⟩) c E 1 (cs.take lo)))):
  LT P r base n ⟨none,.call ⟨.builtin .clear,#[x],#[T]⟩,t,p,af,g⟩ ρ O K:=by
 intro a w M ds ha hI next Qx fN
 obtain⟨_,full,hb,h1,h2,h3⟩:=hI.row (n5 hO)
 obtain⟨fl,rfl⟩: ∃fl:List Value,full=fl.toArray:=⟨full.toList,by simp⟩
 simp only[Nat.mul_one,List.size_toArray]at h1 h2
 have hs:DC (some ⟨b,o,none⟩) c lo 1=some ⟨b,o+lo,none⟩:=by
  unfold DC;rw[aq (by omega),Option.map_some,Nat.mul_one,sC]
 have hzs:(Builtin.zeroCells z.cells (m-lo)).toList=List.replicate (m-lo) z:=by
  have:=sB z (m-lo)
  rw[hz];simp only[Builtin.zeroCells]
  simpa using am Array.toList this
 have Mq:=lV (P:=P) (b:=b) (o:=o+lo) (T:=E) (List.replicate (m-lo) z) fl 0 w hb (by simp;omega) (by simp[hz1])
 have hr:(execOp a.eval ⟨none,.call ⟨.builtin .clear,#[x],#[T]⟩,t,p,af,g⟩).run P w=.ok (.value (.tuple #[])) (kN w b (.cells (fC fl (o+lo) (List.replicate (m-lo) z)).toArray E (0,0))):=by
  rw[ha.eval]
  obtain⟨k,hk⟩: ∃k,m-lo=k+1:=⟨m-lo-1,by omega⟩
  rw[hk]at hzs Mq hx⊢
  simp only[Nat.add_zero]at Mq
  simp[execOp,resolve,hx,hs,invoke,builtin,Builtin.clear_,bL hu,io hi,hzs,Mq]
 refine mL (by intro c e;cases e) ?_
 rw[hr]
 refine fN _ _ _ _ ha ?_ h
 rw[←qh hO]
 refine hI.setRow (n5 hO) (by simp;omega) (by simp[jl];omega) fun j hj=>?_
 have s_:j<lo∧j<cs.length:=by simp at hj;omega
 have:=h3 j s_.2
 simp only[List.getElem?_toArray]at this⊢
 rw[nZ _ _ _ _ (by simp;omega),aq (by omega),this]
 simp
def abV (P:Program) (base:World) (fn:Func) (tm:Value) (R:Value→List Item→Prop) (Z:Prop):kv
 | .normal,ρ,O=>qS P base fn ρ O R
 | .ret,ρ,O=>qS P base fn ρ O R
 | .panic c,_,_=>c=[{v:=tm,recovered:=false}]∧Z
 |_,_,_=>False
theorem tD {fn:Func} {tmps:Array Value} {M O':List Item} {c:List PanicEntry} {Rx:Ending→World→Prop} (h: ∀w,Inv base (O'++M) w→Rx (.panicked c) w):
  ∀(D:List Nat) (w:World),Inv base (O'++(mI D++M)) w→LeavesInM Fence.wide 0 P fn tmps Rx (mD D) (.panicking c) w
 | [],w,hI=>h w hI
 |b::D,w,hI=>by
  have oM:Inv base (O'++wS b::(mI D++M)) w:=hI
  have hb:w.heap[b]? =some (.deferred (some [])):=oM.holds (wS b) (by simp)
  refine⟨by simp,.inl ⟨b,w.putObj b (.deferred none),F,run_takeDeferred hb,tD h D _ ?_⟩⟩
  have:=Inv.step (N:=[]) (w':=w.putObj b (.deferred none)) oM F F F (by simp) (fun k _ hk=>World.putObj_heap_other (fun e=>hk (by simp[wS,eu,e]))) (by simp) (by simp) (by simp)
  simpa using this
theorem ek {f:FuncId} {fn:Func} {tm:Value} {c:Code} {args:List Value} {R:Value→List Item→Prop} {Z:Prop} (hf:P.funcs[f]? =some fn) (hb:fn.body=some c) (hn:fn.ntmps=n) (hl:Nat.ble args.length n=true)
  (h:T P none base n c (abV P base fn tm R Z) (entry args) O):dT P base tm f args O R Z:=by
 have hl:=Nat.le_of_ble_eq_true hl
 intro w M hI
 rw[←callsIn_wide (n:=0)]
 refine callsIn_of_wp_marks hf hb trivial (wpIn_mono (h _ w M [] trivial ⟨?_,?_,F⟩ hI) ?_)
 ·intro t
  show(args.toArray++Array.replicate (fn.ntmps-args.toArray.size) undef).getD t undef=args.getD t undef
  rw[dF,au]
  by_cases h:t<args.length
  ·rw[Array.getElem?_append_left (by simpa using h)];simp
  ·rw[Array.getElem?_append_right (by simpa using h)]
   have:args[t]? =none:=by simp;omega
   rw[this,Array.getElem?_replicate]
   split<;>rfl
 ·simp;omega
 ·have key: ∀(a':Act) (w':World) (iA:Env) (O':List Item) (D:List Nat),Ag n (mD D) a' iA→Inv base (O'++(mI D++M)) w'→qS P base fn iA O' R→
    LeavesInM Fence.wide 0 P fn a'.tmps (fun e QW=>(∃v O',e=.returned v∧Inv base (O'++M) QW∧R v O')∨(e=.panicked [{v:=tm,recovered:=false}]∧Inv base M QW∧Z)) a'.defers .returning w':=by
   intro a' w' iA O' D h1 h2 h3
   obtain⟨v,An,Ax,hR,hr⟩:=h3.ex
   rw[h1.defers]
   exact qj (fun w hI=>⟨v,hr w a'.tmps hI.left h1.tmp,.inl ⟨v,An,F,hI.lz Ax.tP,hR⟩⟩) D w' h2
  rintro e a' w' ⟨iA,O',D,h1,h2,h3⟩
  cases e with
  |normal=>exact key a' w' iA O' D h1 h2 h3
  |ret=>exact key a' w' iA O' D h1 h2 h3
  |panic ch=>
   obtain⟨rfl,hz⟩:=h3
   show LeavesInM Fence.wide 0 P fn a'.tmps _ a'.defers _ w'
   rw[h1.defers]
   exact tD (O':=O') (fun w hI=>.inr ⟨F,hI.lz ⟨M,List.Perm.refl _,List.sublist_append_right O' M⟩,hz⟩) D w' h2
  |_=>exact h3.elim
end
structure Lf where
 op:Nat
 d:c_
 fo:List Nat
 la:Bool
instance:Inhabited Lf:=⟨⟨0,Do,[],false⟩⟩
abbrev Ob:=Nat×Nat
structure Cf where
 k:Int
 s:Nat
 o:List Ob
deriving DecidableEq
def t_ (o:List Ob):List Int:=o.flatMap fun p=>[(p.1:Int),(p.2:Int)]
def Cf.nums (c:Cf):List Int:=c.k::(c.s:Int)::t_ c.o
def Cf.key (c:Cf):Key:=jw c.nums
structure St where
 bh:List Nat
 cf:List Cf
def xZ (x y:Key):Bool:=decide (x≤y)
def St.key (s:St):Key:=jw (s.bh.map fun y:Nat=>(y:Int))++((s.cf.map Cf.key).mergeSort xZ).flatMap (fun k=>124::k)
theorem IP: ∀ {o p:List Ob},t_ o=t_ p→o=p
 | [],[],_=>rfl
 | [],(a,b)::p,h=>by simp[t_]at h
 |(a,b)::o,[],h=>by simp[t_]at h
 |(a,b)::o,(c,d)::p,h=>by
  simp only[t_,List.flatMap_cons,cN,dM,List.cons.injEq]at h
  rw[IP (o:=o) (p:=p) h.2.2,show a=c by omega,show b=d by omega]
theorem OV {a b:Cf} (h:a.nums=b.nums):a=b:=by
 obtain⟨k,s,o⟩:=a
 obtain⟨k2,s2,o2⟩:=b
 simp only[Cf.nums,List.cons.injEq]at h
 obtain⟨h1,h2,h3⟩:=h
 rw[h1,show s=s2 by omega,IP h3]
theorem NZ (o:List Ob) (p:Ob):t_ (o++[p])=t_ o++[(p.1:Int),(p.2:Int)]:=by simp[t_]
theorem Is (o:List Ob):(t_ o).length=o.length*2:=by
 induction o with
 |nil=>rfl
 |cons p o ih=>simp only[t_,List.flatMap_cons,aJ,bQ,dx]at ih⊢;omega
section
variable (ls:List Lf)
abbrev lf (k:Nat):Lf:=ls.getD k default
def ow (o:List Ob) (x:Ob):List Ob:=if dR (lf ls x.1).d x.2=true then o else o++[x]
mutual
def fL:Nat→List Nat→Nat→List Ob→List Cf
 |0,_,_,_=>[]
 |f+1,bh,k,o=>
  if(lf ls k).op=9 then gm f bh k (ow ls o (k,(lf ls k).d.start.toNat))
  else if(lf ls k).op=10 then(if dR (lf ls k).d (bh.getD k 0)=true then gm f bh k o else[])
  else⟨(k:Int),(lf ls k).d.start.toNat,o⟩::(if dR (lf ls k).d (lf ls k).d.start.toNat=true then gm f bh k o else[])
def gm:Nat→List Nat→Nat→List Ob→List Cf
 |0,_,_,_=>[]
 |f+1,bh,k,o=>((lf ls k).fo.flatMap fun j=>fL f bh j o)++(if(lf ls k).la=true then[⟨-1,0,o⟩]else[])
end
def me (o:List Ob) (x:Nat):List Ob:=o.foldl (fun o p=>ow ls o (p.1,fm (lf ls p.1).d p.2 x)) []
def iD (bh:List Nat) (x:Nat) (c:Cf):List Cf:=
 if c.k<0 then[]else
  ⟨c.k,fm (lf ls c.k.toNat).d c.s x,me ls c.o x⟩::(if dR (lf ls c.k.toNat).d (fm (lf ls c.k.toNat).d c.s x)=true then gm ls (2*ls.length) bh c.k.toNat (me ls c.o x)else[])
def jq (bh:List Nat) (x:Nat):List Nat:=(List.range ls.length).map fun k=>if(lf ls k).op=10 then fm (lf ls k).d (bh.getD k 0) x else 0
def iz (first:List Nat):St:=⟨ls.map fun l=>l.d.start.toNat,(first.flatMap fun k=>fL ls (2*ls.length) (ls.map fun l=>l.d.start.toNat) k []).foldl add []⟩
def jJ (s:St) (x:Nat):St:=⟨jq ls s.bh x,(s.cf.flatMap (iD ls (jq ls s.bh x) x)).foldl add []⟩
def qt (s:St):Bool:=s.cf.any fun c=>decide (c.k<0)&&c.o.isEmpty
structure iW (vs:Nat):Prop where
 len:ls.length≤12
 val: ∀l∈ls,Valid l.d
 vars: ∀l∈ls,l.d.vars=(vs:Int)
 op: ∀l∈ls,l.op=0∨l.op=9∨l.op=10
 fo: ∀k,k<ls.length→ ∀j∈(lf ls k).fo,k<j∧j<ls.length
 fol: ∀l∈ls,l.fo.length≤1000000
def gy (k:Nat) (o:List Ob):Prop:=o.Pairwise (fun p q=>p.1<q.1)∧ ∀p∈o,p.1<k∧p.2<(lf ls p.1).d.next.length
def jT (c:Cf):Prop:=(c.k= -1∧c.s=0∧gy ls ls.length c.o)∨ ∃k:Nat,c.k=(k:Int)∧k<ls.length∧c.s<(lf ls k).d.next.length∧gy ls k c.o
structure qP (bh:List Nat):Prop where
 len:bh.length=ls.length
 lt: ∀k,k<ls.length→bh.getD k 0<(lf ls k).d.next.length
structure lm (s:St):Prop where
 bh:qP ls s.bh
 nd:s.cf.Nodup
 cf: ∀c∈s.cf,jT ls c
def rN (K:Nat):Prop:= ∀l:List Cf,l.Nodup→(∀c∈l,jT ls c)→l.length≤K
variable {ls}
theorem kX {k:Nat} (h:k<ls.length):lf ls k∈ls:=by
 unfold lf;rw[au,ak h];exact av h
theorem wj {k:Nat} (h:k<ls.length):lf ls k=ls[k]:=by
 unfold lf;rw[au,ak h];rfl
theorem iW.kW {vs:Nat} (h:iW ls vs) {k:Nat} (hk:k<ls.length):Valid (lf ls k).d:=h.val _ (kX hk)
theorem gy.nil {k:Nat}:gy ls k []:=⟨List.Pairwise.nil,fun p hp=>by simp at hp⟩
theorem gy.mono {k m:Nat} {o:List Ob} (h:gy ls k o) (hm:k≤m):gy ls m o:=⟨h.1,fun p hp=>⟨by have:=(h.2 p hp).1;omega,(h.2 p hp).2⟩⟩
theorem Xl: ∀ {o:List Ob} {k:Nat},o.Pairwise (fun p q=>p.1<q.1)→(∀p∈o,p.1<k)→o.length≤k:=fun {o k} h1 h2=>by
 have h3:(o.map Prod.fst).Nodup:=by
  rw[List.nodup_iff_pairwise_ne]
  exact List.pairwise_map.2 (h1.imp fun h=>Nat.ne_of_lt h)
 have:=fA h3 (n:=k) fun x hx=>by obtain⟨p,hp,rfl⟩:=List.mem_map.1 hx;exact h2 p hp
 simpa using this
theorem gy.len {k:Nat} {o:List Ob} (h:gy ls k o):o.length≤k:=Xl h.1 fun p hp=>(h.2 p hp).1
theorem wi {k:Nat} {o:List Ob} {x:Ob} (h:gy ls k o) (hk:k≤x.1) (hx:x.2<(lf ls x.1).d.next.length):gy ls (x.1+1) (ow ls o x):=by
 unfold ow
 split
 ·exact h.mono (by omega)
 ·refine⟨List.pairwise_append.2 ⟨h.1,List.pairwise_singleton _ _,fun p hp q hq=>?_⟩,fun p hp=>?_⟩
  ·rw[List.mem_singleton.1 hq];exact eQ (h.2 p hp).1 hk
  ·rcases List.mem_append.1 hp with hp|hp
   ·exact⟨by have:=(h.2 p hp).1;omega,(h.2 p hp).2⟩
   ·rw[List.mem_singleton.1 hp];exact⟨by omega,hx⟩
theorem wk {vs:Nat} (hG:iW ls vs) {x:Nat} (hx:x<2^vs): ∀ {o o1:List Ob} {m k:Nat},k≤ls.length→gy ls m o1→o.Pairwise (fun p q=>p.1<q.1)→(∀p∈o,m≤p.1∧p.1<k∧p.2<(lf ls p.1).d.next.length)→m≤k→gy ls k (o.foldl (fun o p=>ow ls o (p.1,fm (lf ls p.1).d p.2 x)) o1)
 | [],o1,m,k,_,h1,_,_,hm=>h1.mono hm
 |p::o,o1,m,k,hk,h1,h2,h3,hm=>by
  rw[cU]
  have hp:=h3 p (by simp)
  have EA:p.1<ls.length:=by omega
  have vh:fm (lf ls p.1).d p.2 x<(lf ls p.1).d.next.length:=((hG.kW EA).toVal.iw hp.2.2 (by rw[hG.vars _ (kX EA)];exact hx)).1
  have h4:=wi (x:=(p.1,fm (lf ls p.1).d p.2 x)) h1 hp.1 vh
  refine wk hG hx hk h4 (List.pairwise_cons.1 h2).2 (fun q hq=>?_) (by show p.1+1≤k;omega)
  have:=(List.pairwise_cons.1 h2).1 q hq
  have h5:=h3 q (by simp[hq])
  exact⟨by show p.1+1≤q.1;omega,h5.2⟩
theorem zr {vs:Nat} (hG:iW ls vs) {x:Nat} (hx:x<2^vs) {k:Nat} {o:List Ob} (hk:k≤ls.length) (h:gy ls k o):gy ls k (me ls o x):=
 wk hG hx hk (m:=0) .nil h.1 (fun p hp=>⟨bj _,h.2 p hp⟩) (bj _)
mutual
theorem xm {vs:Nat} (hG:iW ls vs) {bh:List Nat}: ∀(f:Nat) {k:Nat} {o:List Ob},k<ls.length→gy ls k o→ ∀c∈fL ls f bh k o,jT ls c
 |0,k,o,_,_,c,hc=>by simp[fL]at hc
 |f+1,k,o,hk,ho,c,hc=>by
  have hs:=ez (hG.kW hk).toVal
  have hko:gy ls (k+1) o:=ho.mono (by omega)
  unfold fL at hc
  split at hc
  ·exact oZ hG f hk (wi (x:=(k,_)) ho (aI _) hs) c hc
  ·split at hc
   ·split at hc
    ·exact oZ hG f hk hko c hc
    ·simp at hc
   ·rcases List.mem_cons.1 hc with rfl|hc
    ·exact .inr ⟨k,F,hk,hs,ho⟩
    ·split at hc
     ·exact oZ hG f hk hko c hc
     ·simp at hc
theorem oZ {vs:Nat} (hG:iW ls vs) {bh:List Nat}: ∀(f:Nat) {k:Nat} {o:List Ob},k<ls.length→gy ls (k+1) o→ ∀c∈gm ls f bh k o,jT ls c
 |0,k,o,_,_,c,hc=>by simp[gm]at hc
 |f+1,k,o,hk,ho,c,hc=>by
  unfold gm at hc
  rcases List.mem_append.1 hc with hc|hc
  ·obtain⟨j,hj,hc⟩:=List.mem_flatMap.1 hc
   have:=hG.fo k hk j hj
   exact xm hG f this.2 (ho.mono (by omega)) c hc
  ·split at hc
   ·rw[List.mem_singleton.1 hc];exact .inl ⟨F,F,ho.mono (by omega)⟩
   ·simp at hc
end
theorem nK: ∀(l ks:List Cf),ks.Nodup→(l.foldl add ks).Nodup
 | [],ks,h=>h
 |k::l,ks,h=>nK l _ (nP h)
theorem sa {vs:Nat} (hG:iW ls vs):qP ls (ls.map fun l=>l.d.start.toNat):=
 ⟨by simp,fun k hk=>by rw[au,bl,ak hk];rw[wj hk];exact ez (hG.val _ (av hk)).toVal⟩
theorem zq {vs:Nat} (hG:iW ls vs) {bh:List Nat} (hb:qP ls bh) {x:Nat} (hx:x<2^vs):qP ls (jq ls bh x):=
 ⟨by simp[jq],fun k hk=>by
  unfold jq
  rw[au,bl,List.getElem?_range hk]
  show(if _ then _ else _)<_
  split
  ·exact((hG.kW hk).toVal.iw (hb.lt k hk) (by rw[hG.vars _ (kX hk)];exact hx)).1
  ·exact(hG.kW hk).n0⟩
theorem qx {vs:Nat} (hG:iW ls vs) {first:List Nat} (hf: ∀k∈first,k<ls.length):lm ls (iz ls first):=by
 refine⟨sa hG,nK _ _ List.nodup_nil,fun c hc=>?_⟩
 rcases(et _ _).1 hc with hc|hc
 ·simp at hc
 ·obtain⟨k,hk,hc⟩:=List.mem_flatMap.1 hc
  exact xm hG _ (hf k hk) .nil c hc
theorem zJ {vs:Nat} (hG:iW ls vs) {bh:List Nat} {x:Nat} (hx:x<2^vs) {c:Cf} (h:jT ls c): ∀d∈iD ls bh x c,jT ls d:=fun d hd=>by
 rcases h with⟨h1,_,_⟩|⟨k,h1,hk,hs,ho⟩
 ·unfold iD at hd;rw[aB (by omega)]at hd;simp at hd
 ·unfold iD at hd
  rw[aq (by omega),h1]at hd
  have uw:=zr hG hx (Nat.le_of_lt hk) ho
  have vh:fm (lf ls k).d c.s x<(lf ls k).d.next.length:=((hG.kW hk).toVal.iw hs (by rw[hG.vars _ (kX hk)];exact hx)).1
  rcases List.mem_cons.1 hd with rfl|hd
  ·exact .inr ⟨k,F,hk,vh,uw⟩
  ·split at hd
   ·exact oZ hG _ hk (uw.mono (by omega)) d hd
   ·simp at hd
theorem pM {vs:Nat} (hG:iW ls vs) {s:St} (h:lm ls s) {x:Nat} (hx:x<2^vs):lm ls (jJ ls s x):=by
 refine⟨zq hG h.bh hx,nK _ _ List.nodup_nil,fun c hc=>?_⟩
 rcases(et _ _).1 hc with hc|hc
 ·simp at hc
 ·obtain⟨y,hy,hc⟩:=List.mem_flatMap.1 hc
  exact zJ hG hx (h.cf y hy) c hc
theorem gy.num {vs:Nat} (hG:iW ls vs) {k:Nat} {o:List Ob} (hk:k≤ls.length) (h:gy ls k o): ∀n∈t_ o,nH n:=fun n hn=>by
 obtain⟨p,hp,hn⟩:=List.mem_flatMap.1 hn
 have h1:=h.2 p hp
 have:=hG.len;have:=(hG.kW (show p.1<ls.length by omega)).n4
 simp only[dt,List.not_mem_nil,or_false]at hn
 rcases hn with rfl|rfl<;>exact .inr ⟨by omega,by omega⟩
theorem jT.num {vs:Nat} (hG:iW ls vs) {c:Cf} (h:jT ls c): ∀n∈c.nums,nH n:=fun n hn=>by
 have:=hG.len
 unfold Cf.nums at hn
 rcases h with⟨h1,h2,h3⟩|⟨k,h1,hk,h2,h3⟩
 ·rw[h1,h2]at hn
  rcases List.mem_cons.1 hn with rfl|hn
  ·exact .inl F
  ·rcases List.mem_cons.1 hn with rfl|hn
   ·exact .inr ⟨by omega,by omega⟩
   ·exact h3.num hG (aI _) n hn
 ·have:=(hG.kW hk).n4
  rw[h1]at hn
  rcases List.mem_cons.1 hn with rfl|hn
  ·exact .inr ⟨by omega,by omega⟩
  ·rcases List.mem_cons.1 hn with rfl|hn
   ·exact .inr ⟨by omega,by omega⟩
   ·exact h3.num hG (Nat.le_of_lt hk) n hn
theorem jT.Ws {vs:Nat} (hG:iW ls vs) {c:Cf} (h:jT ls c):c.o.length≤64:=by
 have:=hG.len
 rcases h with⟨_,_,h3⟩|⟨k,_,hk,_,h3⟩
 ·have:=h3.len;omega
 ·have:=h3.len;omega
theorem key_inj {vs:Nat} (hG:iW ls vs) {c d:Cf} (hc:jT ls c) (hd:jT ls d) (h:c.key=d.key):c=d:=
 OV (zG (hc.num hG) (hd.num hG) h)
end
end Go.Lx

namespace Go.Lx
open Go.RowKit
section
variable {P:Program} {base:World} {O:List Item} {ρ:Env} {dst:Option Nat} {t:TypeId} {p:String} {af:Array Edge} {g:Option (Nat×Bool)}
theorem N0 {x y:Operand} {T U:TypeId} {a b:List UInt8} (hx:ev ρ x=str a) (hy:ev ρ y=str b):QT P base ⟨dst,.binOp .eql T x y U,t,p,af,g⟩ ρ O (.bool (decide (a=b))):=fun w _=>by
 simp[execOp,hx,hy,eqGuard,binOp,str,Op.stringOp]
 by_cases e:a=b
 ·subst e;simp
 ·simp[e]
end
structure OB where
 b:Option Addr
 c:Nat
 o:List Ob
def OB.val (r:OB):Value:=.slice r.b r.o.length r.c
def fY (o:List Ob):List Value:=o.flatMap fun p=>[.int .i64 (p.1:Int),.int .i64 (p.2:Int)]
def OB.qW (T:TypeId) (r:OB):Item:=az r.b r.c T 2 (fY r.o)
def gG (T:TypeId) (p:List OB):List Item:=p.map (OB.qW T)
def nf (p:List OB) (r:OB):Prop:=r∈p∨r.o=[]
theorem kJ (o:List Ob):(fY o).length=o.length*2:=by
 induction o with
 |nil=>rfl
 |cons p o ih=>simp only[fY,List.flatMap_cons,aJ,bQ,dx]at ih⊢;omega
def BH (p:Ob):List Value:=[.int .i64 (p.1:Int),.int .i64 (p.2:Int)]
theorem ou {o:List Ob}: ∀ {i:Nat} (hi:i<o.length) (j:Nat) (h:j<(BH o[i]).length),(fY o)[i*2+j]? =some (BH o[i])[j]:=by
 induction o with
 |nil=>intro i hi;simp at hi
 |cons p o ih=>
  intro i hi j hj
  show(BH p++fY o)[i*2+j]? =_
  cases i with
  |zero=>rw[Nat.zero_mul,Nat.zero_add,bG (show j<(BH p).length from hj)];exact ak hj
  |succ i=>
   have h2:(BH p).length=2:=rfl
   rw[bZ (by rw[h2];omega),show(i+1)*2+j-(BH p).length=i*2+j by rw[h2];omega]
   exact ih (by simpa using hi) j hj
theorem xh (o:List Ob) (p:Ob):fY (o++[p])=fY o++[.int .i64 (p.1:Int),.int .i64 (p.2:Int)]:=by simp[fY]
structure CR where
 k:Int
 s:Nat
 r:OB
def CR.cf (c:CR):Cf:=⟨c.k,c.s,c.r.o⟩
def CR.cells (c:CR):List Value:=[.int .i64 c.k,.int .i64 (c.s:Int),.slice c.r.b c.r.o.length c.r.c]
def dK (l:List CR):List Value:=l.flatMap CR.cells
theorem qw (l:List CR):(dK l).length=l.length*3:=by
 induction l with
 |nil=>rfl
 |cons p l ih=>simp only[dK,List.flatMap_cons,aJ,bQ]at ih⊢;rw[ih];simp[CR.cells];omega
theorem tZ {l:List CR}: ∀ {i:Nat} (hi:i<l.length) (j:Nat) (h:j<l[i].cells.length),(dK l)[i*3+j]? =some l[i].cells[j]:=by
 induction l with
 |nil=>intro i hi;simp at hi
 |cons p l ih=>
  intro i hi j hj
  show(p.cells++dK l)[i*3+j]? =_
  cases i with
  |zero=>rw[Nat.zero_mul,Nat.zero_add,bG (show j<p.cells.length from hj)];exact ak hj
  |succ i=>
   have h3:p.cells.length=3:=rfl
   rw[bZ (by rw[h3];omega),show(i+1)*3+j-p.cells.length=i*3+j by rw[h3];omega]
   exact ih (by simpa using hi) j hj
theorem Ex (l:List CR) (c:CR):dK (l++[c])=dK l++c.cells:=by simp[dK]
def AK (l:List CR) (c:CR):List CR:=if c.cf∈l.map CR.cf then l else l++[c]
theorem It (l:List CR) (c:CR):(AK l c).map CR.cf=add (l.map CR.cf) c.cf:=by
 unfold AK add;split<;>simp
theorem nf.sl {T:TypeId} {w base:World} {O:List Item} {p:List OB} {r:OB} (hI:Inv base O w) (hO: ∀it∈gG T p,it∈O) (h:nf p r):Sl w r.b (fY r.o):=by
 rcases h with h|h
 ·exact hI.ij (hO _ (List.mem_map.2 ⟨r,h,F⟩))
 ·rw[h];exact fun i hi=>absurd hi (by simp[fY])
theorem nf.mono {p q:List OB} {r:OB} (h:nf p r) (hq: ∀x∈p,x∈q):nf q r:=h.elim (fun h=>.inl (hq _ h)) .inr
structure LK where
 k:DK
 b:Option Addr
 c:Nat
instance:Inhabited LK:=⟨⟨⟨none,0,none,0,[]⟩,none,0⟩⟩
def lK (l:Lf) (k:LK):List Value:=[.int .u8 (l.op:Int)]++dC l.d k.k++[.slice k.b l.fo.length k.c,.bool l.la]
def dA (ls:List Lf) (ks:List LK):List Value:=(ls.zip ks).flatMap fun p=>lK p.1 p.2
abbrev lk (ks:List LK) (k:Nat):LK:=ks.getD k default
theorem zn: ∀ {ls:List Lf} {ks:List LK} {i:Nat} (hk:ks.length=ls.length) (hi:i<ls.length) (j:Nat) (h:j<(lK (lf ls i) (lk ks i)).length),(dA ls ks)[i*7+j]? =some (lK (lf ls i) (lk ks i))[j]:=by
 intro ls
 induction ls with
 |nil=>intro ks i _ hi;simp at hi
 |cons l ls ih=>
  intro ks i hk hi j hj
  cases ks with
  |nil=>simp at hk
  |cons k ks=>
   show(lK l k++dA ls ks)[i*7+j]? =_
   cases i with
   |zero=>rw[Nat.zero_mul,Nat.zero_add,bG (show j<(lK l k).length from hj)];exact ak hj
   |succ i=>
    have h7:(lK l k).length=7:=rfl
    rw[bZ (by rw[h7];omega),show(i+1)*7+j-(lK l k).length=i*7+j by rw[h7];omega]
    exact ih (by simpa using hk) (by simpa using hi) j hj
theorem ey {ls:List Lf} {ks:List LK} (hk:ks.length=ls.length):(dA ls ks).length=ls.length*7:=by
 have: ∀(z:List (Lf×LK)),(z.flatMap fun p=>lK p.1 p.2).length=z.length*7:=by
  intro z
  induction z with
  |nil=>rfl
  |cons p z ih=>rw[List.flatMap_cons,aJ,ih,show(lK p.1 p.2).length=7 from F,bQ];omega
 unfold dA;rw[this,List.length_zip,hk,Nat.min_self]
structure l_ (w:World) (ob:Nat) (lb:Option Addr) (lc:Nat) (cv fv:Value) (ls:List Lf) (ks:List LK):Prop where
 bx:Sl w (some ⟨ob,0,none⟩) [cv,.slice lb ls.length lc,fv]
 rw:Sl w lb (dA ls ks)
 kl:ks.length=ls.length
 dk: ∀k,k<ls.length→At w (lf ls k).d (lk ks k).k
 fo: ∀k,k<ls.length→Sl w (lk ks k).b (cm (lf ls k).fo)
theorem Inv.out {base w:World} {O:List Item} (hI:Inv base O w) {ob:Nat} {lb:Option Addr} {lc:Nat} {cv fv:Value} {ls:List Lf} {ks:List LK} (h:l_ base ob lb lc cv fv ls ks):l_ w ob lb lc cv fv ls ks:=
 ⟨hI.sl h.bx,hI.sl h.rw,h.kl,fun k hk=>hI.sE (h.dk k hk),fun k hk=>hI.sl (h.fo k hk)⟩
theorem EB (T:TypeId) (p q:List OB):gG T (p++q)=gG T p++gG T q:=bm
structure ml (ls:List Lf) (l:List CR) (p:List OB):Prop where
 ua: ∀y∈l,jT ls y.cf
 nd:(l.map CR.cf).Nodup
 N8: ∀y∈l,nf p y.r
theorem ml.mono {ls:List Lf} {l:List CR} {p q:List OB} (h:ml ls l p) (hq: ∀x∈p,x∈q):ml ls l q:=⟨h.ua,h.nd,fun y hy=>(h.N8 y hy).mono hq⟩
theorem ml.len {ls:List Lf} {l:List CR} {p:List OB} (h:ml ls l p) {K:Nat} (hK:rN ls K):l.length≤K:=by
 have:=hK (l.map CR.cf) h.nd fun c hc=>by obtain⟨y,hy,rfl⟩:=List.mem_map.1 hc;exact h.ua y hy
 simpa using this
theorem ml.add {ls:List Lf} {l:List CR} {p:List OB} (h:ml ls l p) {x:CR} (hx:jT ls x.cf) (hp:nf p x.r):ml ls (AK l x) p:=by
 have hm: ∀y∈AK l x,y∈l∨y=x:=fun y hy=>by
  unfold AK at hy;split at hy
  ·exact .inl hy
  ·simpa using hy
 refine⟨fun y hy=>(hm y hy).elim (h.ua y) (fun e=>e▸hx),by rw[It];exact nP h.nd,fun y hy=>(hm y hy).elim (h.N8 y) (fun e=>e▸hp)⟩
theorem cx.post {P:Program} {base:World} {f:FuncId} {args:List Value} {O:List Item} {R R':Value→List Item→Prop} (h:cx P base f args O R) (hr: ∀v O',R v O'→ ∃O2,Sub O2 O'∧R' v O2):cx P base f args O R':=fun w M hI=>
 (h w M hI).mono fun e w' ⟨v,O',he,oM,hv⟩=>by
  obtain⟨O2,hs,h2⟩:=hr v O' hv
  exact⟨v,O2,he,oM.lz hs.tP,h2⟩
theorem r8 (A B C X:List Item) (h:Sub (A++B) C):Sub ((A++X)++B) (C++X):=by
 obtain⟨l,h1,h2⟩:=h
 refine⟨l++X,?_,h2.append (aP _)⟩
 refine List.Perm.trans ?_ (h1.append_right X)
 rw[aV,aV]
 exact List.Perm.append_left A List.perm_append_comm
theorem r_ (A B X:List Item):Sub ((A++B)++X) ((A++X)++B):=by
 refine⟨_,?_,aP _⟩
 rw[aV,aV]
 exact List.Perm.append_left A List.perm_append_comm
theorem KJ: ∀ {l m:List Key},(∀k∈l,∀b∈k,b≠124)→(∀k∈m,∀b∈k,b≠124)→l.flatMap (fun k=>(124:UInt8)::k)=m.flatMap (fun k=>(124:UInt8)::k)→l=m:=by
 have split: ∀ {x y p q:Key},(∀b∈x,b≠124)→(∀b∈y,b≠124)→(∀b t,p=b::t→b=124)→(∀b t,q=b::t→b=124)→x++p=y++q→x=y∧p=q:=by
  intro x
  induction x with
  |nil=>
   intro y p q _ hy hp _ h
   cases y with
   |nil=>exact⟨F,h⟩
   |cons c y=>
    rw[dM,cN]at h
    exact absurd (hp _ _ h) (hy c (by simp))
  |cons c x ih=>
   intro y p q hx hy hp hq h
   cases y with
   |nil=>
    rw[dM,cN]at h
    exact absurd (hq _ _ h.symm) (hx c (by simp))
   |cons d y=>
    simp only[cN,List.cons.injEq]at h
    obtain⟨h1,h2⟩:=ih (fun b hb=>hx b (by simp[hb])) (fun b hb=>hy b (by simp[hb])) hp hq h.2
    exact⟨by rw[h.1,h1],h2⟩
 have hd: ∀(l:List Key) b t,l.flatMap (fun k=>(124:UInt8)::k)=b::t→b=124:=by
  intro l b t h
  cases l with
  |nil=>simp at h
  |cons k l=>simp only[List.flatMap_cons,cN,List.cons.injEq]at h;exact h.1.symm
 intro l
 induction l with
 |nil=>
  intro m _ _ h
  cases m with
  |nil=>rfl
  |cons k m=>simp at h
 |cons k l ih=>
  intro m hl hm h
  cases m with
  |nil=>simp at h
  |cons k2 m=>
   simp only[List.flatMap_cons,cN,List.cons.injEq,true_and]at h
   obtain⟨h1,h2⟩:=split (hl k (by simp)) (hm k2 (by simp)) (hd l) (hd m) h
   rw[h1,ih (fun x hx=>hl x (by simp[hx])) (fun x hx=>hm x (by simp[hx])) h2]
theorem KK (l:List Int): ∀b∈jw l,b≠124:=fun b hb e=>by
 obtain⟨n,_,hb⟩:=List.mem_flatMap.1 hb
 rcases List.mem_append.1 hb with hb|hb
 ·have:=sS n b hb;rw[e]at this;simp at this
 ·rw[List.mem_singleton.1 hb]at e;exact absurd e (by decide)
theorem BI (a b c:Key) (h1:xZ a b=true) (h2:xZ b c=true):xZ a c=true:=by
 unfold xZ at*;exact aZ (List.le_trans (of_decide_eq_true h1) (of_decide_eq_true h2))
theorem BJ (a b:Key):(xZ a b||xZ b a)=true:=by
 unfold xZ;rcases List.le_total a b with h|h<;>simp[h]
theorem EV {l m:List Key} (h:l.Perm m):l.mergeSort xZ=m.mergeSort xZ:=by
 refine List.Perm.eq_of_pairwise (le:=fun a b=>xZ a b=true) (fun a b _ _ h1 h2=>?_) (List.pairwise_mergeSort BI BJ l) (List.pairwise_mergeSort BI BJ m) ?_
 ·unfold xZ at h1 h2;exact List.le_antisymm (of_decide_eq_true h1) (of_decide_eq_true h2)
 ·exact(List.mergeSort_perm l xZ).trans (h.trans (List.mergeSort_perm m xZ).symm)
section
variable {ls:List Lf} {vs:Nat}
theorem qP.num (hG:iW ls vs) {bh:List Nat} (h:qP ls bh): ∀n∈bh.map (fun y:Nat=>(y:Int)),nH n:=fun n hn=>by
 obtain⟨y,hy,rfl⟩:=List.mem_map.1 hn
 obtain⟨k,hk,rfl⟩:=List.mem_iff_getElem.1 hy
 have h1:=h.lt k (by rw[←h.len];exact hk)
 rw[au,ak hk,Option.getD_some]at h1
 have:=(hG.kW (k:=k) (by rw[←h.len];exact hk)).n4
 exact oq (by omega)
theorem EW (hG:iW ls vs) {a b:St} (ha:lm ls a) (hb:lm ls b) (h:a.key=b.key):a.bh=b.bh∧ ∀c,c∈a.cf↔c∈b.cf:=by
 unfold St.key at h
 have hd: ∀(l:List Key) b t,l.flatMap (fun k=>(124:UInt8)::k)=b::t→b.toNat=124:=by
  intro l b t h
  cases l with
  |nil=>simp at h
  |cons k l=>simp only[List.flatMap_cons,cN,List.cons.injEq]at h;rw[←h.1];rfl
 obtain⟨h1,h2⟩:=CU (ha.bh.num hG) (hb.bh.num hG) (hd _) (hd _) h
 have hn: ∀s:St,∀k∈(s.cf.map Cf.key).mergeSort xZ,∀b∈k,b≠124:=fun s k hk=>by
  obtain⟨c,_,rfl⟩:=List.mem_map.1 (List.mem_mergeSort.1 hk)
  exact KK _
 have h3:=KJ (hn a) (hn b) h2
 have h4: ∀k,k∈a.cf.map Cf.key↔k∈b.cf.map Cf.key:=fun k=>by
  rw[←List.mem_mergeSort (le:=xZ),h3,List.mem_mergeSort]
 have one: ∀ {s t:St},lm ls s→lm ls t→(∀k,k∈s.cf.map Cf.key→k∈t.cf.map Cf.key)→ ∀c,c∈s.cf→c∈t.cf:=fun {s t} hs ht h c hc=>by
  obtain⟨d,hd,e⟩:=List.mem_map.1 (h _ (List.mem_map_of_mem hc))
  rw[key_inj hG (hs.cf c hc) (ht.cf d hd) e.symm];exact hd
 exact⟨sT h1,fun c=>⟨one ha hb (fun k=>(h4 k).1) c,one hb ha (fun k=>(h4 k).2) c⟩⟩
theorem zM {a b:St} (ha:lm ls a) (hb:lm ls b) (h1:a.bh=b.bh) (h2: ∀c,c∈a.cf↔c∈b.cf):a.key=b.key:=by
 unfold St.key
 rw[h1,EV (((List.perm_ext_iff_of_nodup ha.nd hb.nd).2 h2).map Cf.key)]
theorem EK (hG:iW ls vs):Sh (lm ls) St.key (jJ ls) qt (2^vs):=by
 refine⟨fun a b x ha hb h hx=>?_,fun a b ha hb h=>?_,fun a x ha hx=>pM hG ha hx⟩
 ·obtain⟨h1,h2⟩:=EW hG ha hb h
  refine zM (pM hG ha hx) (pM hG hb hx) (by show jq ls a.bh x=jq ls b.bh x;rw[h1]) fun c=>?_
  show c∈List.foldl add [] _↔c∈List.foldl add [] _
  rw[et,et,h1]
  simp only[List.mem_flatMap,List.not_mem_nil,false_or]
  exact⟨fun⟨y,hy,hc⟩=>⟨y,(h2 y).1 hy,hc⟩,fun⟨y,hy,hc⟩=>⟨y,(h2 y).2 hy,hc⟩⟩
 ·obtain⟨_,h2⟩:=EW hG ha hb h
  unfold qt
  rw[dN,df,df]
  exact⟨fun⟨c,hc,h⟩=>⟨c,(h2 c).1 hc,h⟩,fun⟨c,hc,h⟩=>⟨c,(h2 c).2 hc,h⟩⟩
end
end Go.Lx

