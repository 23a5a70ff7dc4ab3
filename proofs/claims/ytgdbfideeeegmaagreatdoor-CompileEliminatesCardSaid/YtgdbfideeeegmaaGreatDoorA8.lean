/- Contracts of functions of the program, and what they answer. Conditions: those each theorem names. -/
import Derived.Test.YtgdbfideeeegmaaGreatDoorA6
import Derived.Shelf.Slices.Clone
import Derived.Lib.RowBridge
import Derived.Test.YtgdbfideeeegmaaGreatDoorProg
import Derived.Test.YtgdbfideeeegmaaGreatDoorA2
import Derived.Test.YtgdbfideeeegmaaGreatDoorA7
import Derived.Test.YtgdbfideeeegmaaGreatDoorA3
set_option linter.unusedSectionVars false
set_option linter.unusedSimpArgs false
set_option linter.unusedVariables false
set_option linter.unnecessarySimpa false
set_option maxHeartbeats 8000000
set_option maxRecDepth 20000
namespace Go.Proofs
open Go.Shelf
def Tryz.tJ:Go.Shelf.Ren:=⟨fun|189=>192|125=>159|257=>220|128=>208|129=>209|294=>245|295=>246|296=>247|297=>248|298=>249|299=>250|216=>221|300=>251|301=>252|328=>260|329=>226|330=>227|331=>261|332=>262|215=>240|343=>265|n=>n,fun|28=>56|3=>3|46=>101|0=>0|51=>254|53=>256|4=>4|183=>247|182=>246|131=>161|5=>5|9=>9|218=>268|222=>272|228=>289|229=>290|n=>n,fun|n=>n⟩
theorem Tryz.y5:Go.Proofs.Lays.n189 Tryz.prog Tryz.tJ:= {
 mixed:=by kernel_rfl
 f125:=func159.trans (congrArg some (by kernel_rfl))
 f128:=func208.trans (congrArg some (by kernel_rfl))
 f129:=func209.trans (congrArg some (by kernel_rfl))
 f189:=func192.trans (congrArg some (by kernel_rfl))
 f215:=func240.trans (congrArg some (by kernel_rfl))
 f216:=func221.trans (congrArg some (by kernel_rfl))
 f257:=func220.trans (congrArg some (by kernel_rfl))
 f294:=func245.trans (congrArg some (by kernel_rfl))
 f295:=func246.trans (congrArg some (by kernel_rfl))
 f296:=func247.trans (congrArg some (by kernel_rfl))
 f297:=func248.trans (congrArg some (by kernel_rfl))
 f298:=func249.trans (congrArg some (by kernel_rfl))
 f299:=func250.trans (congrArg some (by kernel_rfl))
 f300:=func251.trans (congrArg some (by kernel_rfl))
 f301:=func252.trans (congrArg some (by kernel_rfl))
 f328:=func260.trans (congrArg some (by kernel_rfl))
 f329:=func226.trans (congrArg some (by kernel_rfl))
 f330:=func227.trans (congrArg some (by kernel_rfl))
 f331:=func261.trans (congrArg some (by kernel_rfl))
 f332:=func262.trans (congrArg some (by kernel_rfl))
 f343:=func265.trans (congrArg some (by kernel_rfl))
 t0:=underlying0
 a0:=Tryz.isAgg0
 z0:=Tryz.sizeOf0
 v0:=Tryz.zeroValue0
 t3:=underlying3
 a3:=Tryz.isAgg3
 z3:=Tryz.sizeOf3
 v3:=Tryz.zeroValue3
 t4:=underlying4
 a4:=Tryz.isAgg4
 z4:=Tryz.sizeOf4
 v4:=Tryz.zeroValue4
 t5:=underlying5
 a5:=Tryz.isAgg5
 z5:=Tryz.sizeOf5
 v5:=Tryz.zeroValue5
 t9:=underlying9
 a9:=Tryz.isAgg9
 z9:=Tryz.sizeOf9
 v9:=Tryz.zeroValue9
 t28:=underlying56
 a28:=Tryz.isAgg56
 z28:=Tryz.sizeOf56
 v28:=Tryz.zeroValue56
 t46:=underlying101
 a46:=Tryz.isAgg101
 z46:=Tryz.sizeOf101
 v46:=Tryz.zeroValue101
 t51:=underlying254
 a51:=Tryz.isAgg254
 z51:=Tryz.sizeOf254
 v51:=Tryz.zeroValue254
 t53:=underlying256
 a53:=Tryz.isAgg256
 z53:=Tryz.sizeOf256
 v53:=Tryz.zeroValue256
 t131:=underlying161
 a131:=Tryz.isAgg161
 z131:=Tryz.sizeOf161
 v131:=Tryz.zeroValue161
 t182:=underlying246
 a182:=Tryz.isAgg246
 z182:=Tryz.sizeOf246
 v182:=Tryz.zeroValue246
 t183:=underlying247
 a183:=Tryz.isAgg247
 z183:=Tryz.sizeOf247
 v183:=Tryz.zeroValue247
 t218:=underlying268
 a218:=Tryz.isAgg268
 z218:=Tryz.sizeOf268
 v218:=Tryz.zeroValue268
 t222:=underlying272
 a222:=Tryz.isAgg272
 z222:=Tryz.sizeOf272
 v222:=Tryz.zeroValue272
 t228:=underlying289
 a228:=Tryz.isAgg289
 z228:=Tryz.sizeOf289
 v228:=Tryz.zeroValue289
 t229:=underlying290
 a229:=Tryz.isAgg290
 z229:=Tryz.sizeOf290
 v229:=Tryz.zeroValue290}
open Go.RowKit Go.Sort Go.Lib in
theorem Tryz.slices_Sort_int (jP off cap:Nat) (zs:List Int) (w:World) (hH:Holds (Value.int .i64) w jP off zs.toArray) (QH:jP<w.heap.size) (qo:zs.length<4611686018427387904):
  Calls Tryz.prog 192 #[.slice (some ⟨jP,off,none⟩) zs.length cap] w fun e w'=>
   e=.returned (.tuple #[])∧ ∃n os,w'=grow (putRow (Value.int .i64) (Sort.ahead w n) jP off (zs.mergeSort fun x y=>decide (x≤y)).toArray) os:=Any.slices_Sort_int Tryz.y5 jP off cap zs w hH QH qo
end Go.Proofs
namespace Go.Proofs.YtgdbfideeeegmaaGreatDoor
open Go.Lx Go.RowKit Go.Proofs Go.Sort _root_.Go.Proofs.Tryz
def QY:Go.Shelf.Ren:=⟨fun|20=>193|n=>n,fun|0=>0|3=>3|4=>4|22=>56|40=>101|n=>n,fun|n=>n⟩
theorem E0:Go.Proofs.Lays2.n20 Tryz.prog QY:= {
 mixed:=by kernel_rfl
 f20:=func193.trans (congrArg some (by kernel_rfl))
 t0:=underlying0
 a0:=Tryz.isAgg0
 z0:=Tryz.sizeOf0
 v0:=Tryz.zeroValue0
 t3:=underlying3
 a3:=Tryz.isAgg3
 z3:=Tryz.sizeOf3
 v3:=Tryz.zeroValue3
 t4:=underlying4
 a4:=Tryz.isAgg4
 z4:=Tryz.sizeOf4
 v4:=Tryz.zeroValue4
 t22:=underlying56
 a22:=Tryz.isAgg56
 z22:=Tryz.sizeOf56
 v22:=Tryz.zeroValue56
 i3:=by kernel_rfl
}
def QZ:Go.Shelf.Ren:=⟨fun|25=>197|31=>221|32=>222|37=>240|n=>n,fun|0=>0|3=>3|4=>4|22=>56|40=>101|n=>n,fun|n=>n⟩
theorem E1:Go.Proofs.Lays2.n25 Tryz.prog QZ:= {
 mixed:=by kernel_rfl
 f25:=func197.trans (congrArg some (by kernel_rfl))
 f31:=func221.trans (congrArg some (by kernel_rfl))
 f32:=func222.trans (congrArg some (by kernel_rfl))
 f37:=func240.trans (congrArg some (by kernel_rfl))
 t0:=underlying0
 a0:=Tryz.isAgg0
 z0:=Tryz.sizeOf0
 v0:=Tryz.zeroValue0
 t3:=underlying3
 a3:=Tryz.isAgg3
 z3:=Tryz.sizeOf3
 v3:=Tryz.zeroValue3
 t4:=underlying4
 a4:=Tryz.isAgg4
 z4:=Tryz.sizeOf4
 v4:=Tryz.zeroValue4
 t22:=underlying56
 a22:=Tryz.isAgg56
 z22:=Tryz.sizeOf56
 v22:=Tryz.zeroValue56
 t40:=underlying101
 a40:=Tryz.isAgg101
 z40:=Tryz.sizeOf101
 v40:=Tryz.zeroValue101
}
def zG:Go.Shelf.Ren:=⟨fun|21=>198|27=>223|28=>224|35=>253|39=>263|n=>n,fun|0=>0|3=>3|4=>4|22=>56|40=>101|n=>n,fun|n=>n⟩
theorem uH:Go.Proofs.Lays2.n21 Tryz.prog zG:= {
 mixed:=by kernel_rfl
 f21:=func198.trans (congrArg some (by kernel_rfl))
 f27:=func223.trans (congrArg some (by kernel_rfl))
 f28:=func224.trans (congrArg some (by kernel_rfl))
 f35:=func253.trans (congrArg some (by kernel_rfl))
 f39:=func263.trans (congrArg some (by kernel_rfl))
 t0:=underlying0
 a0:=Tryz.isAgg0
 z0:=Tryz.sizeOf0
 v0:=Tryz.zeroValue0
 t3:=underlying3
 a3:=Tryz.isAgg3
 z3:=Tryz.sizeOf3
 v3:=Tryz.zeroValue3
 t4:=underlying4
 a4:=Tryz.isAgg4
 z4:=Tryz.sizeOf4
 v4:=Tryz.zeroValue4
 t22:=underlying56
 a22:=Tryz.isAgg56
 z22:=Tryz.sizeOf56
 v22:=Tryz.zeroValue56
 i3:=by kernel_rfl
}
def Q0:Go.Shelf.Ren:=⟨fun|15=>146|n=>n,fun|0=>0|3=>3|4=>4|22=>56|40=>101|n=>n,fun|n=>n⟩
theorem zH:Go.Proofs.Lays2.n15 Tryz.prog Q0:= {
 mixed:=by kernel_rfl
 f15:=func146.trans (congrArg some (by kernel_rfl))
 t3:=underlying3
 a3:=Tryz.isAgg3
 z3:=Tryz.sizeOf3
 v3:=Tryz.zeroValue3
 t4:=underlying4
 a4:=Tryz.isAgg4
 z4:=Tryz.sizeOf4
 v4:=Tryz.zeroValue4
 t22:=underlying56
 a22:=Tryz.isAgg56
 z22:=Tryz.sizeOf56
 v22:=Tryz.zeroValue56
 i3:=by kernel_rfl
}
theorem uI {base w:World} {O:List Lx.Item} {i c:Nat} {T:TypeId} {zs:List Int} (hI:Inv base O w) (hO:O[i]? =some (ak none c T 1 (ints zs))):zs=[]∧c=0:=by
 have h:=hI.row hO
 exact⟨by have:=h.1;simpa using this,h.2⟩
theorem Tw (base:World) (b:Option Addr) (c:Nat) (zs:List Int) (qo:zs.length<4611686018427387904):bw Tryz.prog base 192 [.slice b zs.length c] [ak b c 3 1 (ints zs)] (fun v O'=>v=.tuple #[]∧O'=[ak b c 3 1 (ints (oZ zs))]):=fun w M hI=>by
 have hO:(([ak b c 3 1 (ints zs)]++M:List Lx.Item))[0]? =some (ak b c 3 1 (ints zs)):=rfl
 cases b with
 |none=>
  obtain⟨rfl,rfl⟩:=uI hI hO
  refine(Any.slices_Sort_int_none Tryz.y5 none 0 w).mono ?_
  rintro e w' ⟨rfl,rfl⟩
  refine⟨_,_,F,?_,F,F⟩
  have h9:oZ []=[]:=by simp
  rw[h9];exact hI
 |some a=>
  obtain⟨jP,off,sp⟩:=a
  have wT:sp=none:=(hI.row hO).1
  subst wT
  obtain⟨hH,hb⟩:=yp hI hO
  refine(Tryz.slices_Sort_int jP off c zs w hH hb qo).mono ?_
  rintro e w' ⟨rfl,n,os,rfl⟩
  refine⟨_,_,F,?_,F,F⟩
  exact hI.Ji (ys:=oZ zs) hO (List.length_mergeSort zs) n os
theorem H2 (base:World) (b:Option Addr) (c:Nat) (zs:List Int) (qo:zs.length≤1000000):bw Tryz.prog base 193 [.slice b zs.length c] [ak b c 3 1 (ints zs)] (fun v O'=>v=.slice b (Lib.compact zs).length c∧O'=[ak b c 3 1 (ints (Lib.compact zs))]):=fun w M hI=>by
 have hO:(([ak b c 3 1 (ints zs)]++M:List Lx.Item))[0]? =some (ak b c 3 1 (ints zs)):=rfl
 cases b with
 |none=>
  obtain⟨rfl,rfl⟩:=uI hI hO
  refine(Any.slices_Compact_int_empty E0 none 0 w).mono ?_
  rintro e w' ⟨rfl,rfl⟩
  refine⟨_,_,F,?_,F,F⟩
  have h9:Lib.compact ([]:List Int)=[]:=rfl
  rw[h9];exact hI
 |some a=>
  obtain⟨jP,off,sp⟩:=a
  have wT:sp=none:=(hI.row hO).1
  subst wT
  obtain⟨hH,hb⟩:=yp hI hO
  have Kv:zs.length≤c:=by have:=(hI.row hO).2;obtain⟨_,_,h,_⟩:=this;simpa using h
  refine(Any.slices_Compact_int E0 jP off c zs w hH (by omega) Kv).mono ?_
  rintro e w' ⟨rfl,n,rfl⟩
  refine⟨_,_,F,?_,F,F⟩
  have Aa:=Lib.compact_length_le zs
  exact hI.F2 (ys:=Lib.compact zs) hO (by simp;omega) n
theorem Ln (w:World) (b:Option Addr) (c:Nat) (l:List Nat) (s:Nat) (hS:Sl w b (aQ l)) (ha:l.Pairwise (· < ·)) (hb:l.length≤1000000):bs Tryz.prog 197 [.slice b l.length c,.int .i64 (s:Int)] w fun v N=>v=.tuple #[.int .i64 ((l.countP (· <s):Nat):Int),.bool (decide (s∈l))]∧N=[]:=fun w1 M hI=>by
 have Rq:=hI.sl hS
 by_cases h0:l=[]
 ·subst h0
  exact(Any.slices_BinarySearch_int_empty E1 b c (s:Int) w1).mono (by rintro e w' ⟨rfl,rfl⟩;exact⟨_,_,F,hI,F,F⟩)
 ·have G_:0<(aQ l).length:=by simp;exact List.length_pos_iff.2 h0
  obtain⟨bk,o,rfl⟩:=Rq.addr G_
  refine(Any.slices_BinarySearch_int E1 bk o l.length c (l.map fun y:Nat=>(y:Int)) (s:Int) w1 (by simp) (by omega) (fun j hj=>?_) ?_).mono ?_
  ·have qB:j<l.length:=by simpa using hj
   rw[Rq.get (i:=j) (v:=.int .i64 ((l[j]:Nat):Int)) (by simp[qB])]
   simp[List.getD_eq_getElem?_getD,qB]
  ·rw[List.take_of_length_le (by simp)]
   exact List.pairwise_map.2 (ha.imp fun h=>by omega)
  ·rintro e w' ⟨rfl,q,rfl⟩
   refine⟨_,_,F,hI.drewN q,?_,F⟩
   rw[List.take_of_length_le (by simp),List.countP_map]
   have e1:((fun x:Int=>decide (x<(s:Int)))∘fun y:Nat=>(y:Int))=fun y:Nat=>decide (y<s):=by funext y;simp
   have e2:(List.map (fun y:Nat=>(y:Int)) l).contains (s:Int)=decide (s∈l):=by
    rw[List.contains_eq_mem]
    exact decide_eq_decide.2 ⟨fun h=>(by obtain⟨y,hy,e⟩:=List.mem_map.1 h;have:y=s:=(by omega);exact this▸hy),fun h=>List.mem_map.2 ⟨s,h,F⟩⟩
   rw[e1,e2]
theorem H4 (w:World) (b:Option Addr) (c:Nat) (zs:List Int) (hS:Sl w b (ints zs)) (hz:zs.length≤1000000):bs Tryz.prog 146 [.slice b zs.length c] w fun v N=> ∃b' c',v=.slice b' zs.length c'∧N=[ak b' c' 3 1 (ints zs)]∧c'≤9223372036854775807:=fun w1 M hI=>by
 have Rq:=hI.sl hS
 have key: ∀(e:Ending) (w':World),(∃v':Value,e=.returned v'∧w'.ownsRow w1.heap.size 3 1 v' zs.length (ints zs)∧Below w1.heap.size w1 w')→ ∃(v:Value) (O':List Lx.Item),e=.returned v∧Inv w (O'++M) w'∧ ∃b' c',v=.slice b' zs.length c'∧O'=[ak b' c' 3 1 (ints zs)]∧c'≤9223372036854775807:=by
  rintro e w' ⟨v',rfl,⟨hl,ho⟩,hB⟩
  rcases ho with⟨rfl,h0⟩|⟨g,cap,Zr,rfl,hg,hh,hn,hm,hs,ht⟩
  ·have XX:zs=[]:=List.length_eq_zero_iff.1 h0
   subst XX
   refine⟨_,_,F,?_,none,0,F,F,by omega⟩
   exact hI.new (N:=[ak none 0 3 1 []]) hB.os hB.tape hB.output hB.size hB.block (by simp[ak,rowP]) (by simp[ak]) (by simp[ak])
  ·refine⟨_,_,F,?_,some ⟨g,0,none⟩,cap,F,F,hm⟩
   have eU:=(Array.getElem?_eq_some_iff.1 hh).1
   refine hI.new (N:=[ak (some ⟨g,0,none⟩) cap 3 1 (ints zs)]) hB.os hB.tape hB.output hB.size hB.block (fun it di=>?_) (fun it di k hk=>?_) (by simp[ak])
   ·simp only[List.mem_singleton]at di;subst di
    refine⟨F,Zr,hh,by simp;omega,by show 0+cap*1≤_;omega,fun j hj=>?_⟩
    have h9:(Zr.toList.take (zs.length*1))[j]? =some (ints zs)[j]:=by rw[ht];exact List.getElem?_eq_getElem hj
    rw[List.getElem?_take,if_pos (by simpa using hj)]at h9
    simpa using h9
   ·simp only[List.mem_singleton]at di;subst di;simp[ak]at hk;omega
 by_cases h0:b=none
 ·subst h0
  have XX:zs=[]:=by
   cases zs with
   |nil=>rfl
   |cons z zs=>obtain⟨_,_,e⟩:=Rq.addr (i:=0) (by simp);cases e
  subst XX
  exact(Any.slices_Clone_int_nil zH _ c w1).mono fun e w' h=>key e w' (by obtain⟨h1,h2⟩:=h;subst h1 h2;exact⟨_,F,⟨by simp,.inl ⟨F,F⟩⟩,Below.refl _ _⟩)
 ·obtain⟨a,rfl⟩:=Option.ne_none_iff_exists'.1 h0
  by_cases hn:zs=[]
  ·subst hn
   exact(Any.slices_Clone_int_zero zH a c w1).mono fun e w' h=>key e w' (by obtain⟨v',h1,h2,h3,h4⟩:=h;exact⟨v',h1,h2,h4⟩)
  ·obtain⟨bk,o,rfl⟩: ∃bk o,a=⟨bk,o,none⟩:=by
    obtain⟨bk,o,e⟩:=Rq.addr (i:=0) (by simp;exact List.length_pos_iff.2 hn)
    exact⟨bk,o,by simpa using e⟩
   refine(Any.slices_Clone_int zH bk o zs.length c zs w1 (by simp) (by omega) (fun j hj=>?_)).mono fun e w' h=>key e w' (by obtain⟨v',h1,h2,h3,h4⟩:=h;rw[List.take_length]at h2;exact⟨v',h1,h2,h4⟩)
   rw[Rq.get (i:=j) (v:=.int .i64 zs[j]) (by simp[hj])]
   simp[List.getD_eq_getElem?_getD,hj]
theorem Lp (base:World) (b:Option Addr) (c i vb:Nat) (xs:List Int) (x:Int) (hi:i≤xs.length) (hx:xs.length≤1000000) (Vk:c≤9223372036854775807):bw Tryz.prog base 198 [.slice b xs.length c,.int .i64 ((i:Nat):Int),.slice (some ⟨vb,0,none⟩) 1 1] [ak b c 3 1 (ints xs),ak (some ⟨vb,0,none⟩) 1 3 1 [.int .i64 x]] (fun v O'=> ∃b' c',v=.slice b' (xs.length+1) c'∧O'=[ak b' c' 3 1 (ints (xs.take i++x::xs.drop i))]):=fun w M hI=>by
 have hO:(([ak b c 3 1 (ints xs),ak (some ⟨vb,0,none⟩) 1 3 1 [.int .i64 x]]++M:List Lx.Item))[0]? =some (ak b c 3 1 (ints xs)):=rfl
 have hV:(([ak b c 3 1 (ints xs),ak (some ⟨vb,0,none⟩) 1 3 1 [.int .i64 x]]++M:List Lx.Item))[1]? =some (ak (some ⟨vb,0,none⟩) 1 3 1 [.int .i64 x]):=rfl
 obtain⟨_,vf,V0,_,hv2,hv3⟩:=hI.row hV
 have Ko:vf[0]? =some (.int .i64 x):=hv3 0 (by simp)
 have gm: ∀j v,[Value.int .i64 x][j]? =some v→w.cell? ⟨vb,0+j,none⟩=some v:=fun j v h=>by
  cases j with
  |zero=>simp at h;subst h;simp[World.cell?,V0,Ko]
  |succ j=>simp at h
 have V1: ∀v∈[Value.int .i64 x],v.oneCell'=true:=by simp[Value.oneCell']
 have Zs: ∀v∈ints xs,v.oneCell'=true:=fun v hv=>by obtain⟨y,_,rfl⟩:=List.mem_map.1 hv;rfl
 have ie:(ints (xs.take i++x::xs.drop i)).length=xs.length+1:=by simp;omega
 have wU: ∀(b':Option Addr) (c':Nat) (W:World),Inv base (ak b' c' 3 1 (ints (xs.take i++x::xs.drop i))::ak (some ⟨vb,0,none⟩) 1 3 1 [.int .i64 x]::M) W→Inv base ([ak b' c' 3 1 (ints (xs.take i++x::xs.drop i))]++M) W:=fun b' c' W h=>
  h.jf ⟨_,List.Perm.refl _,List.Sublist.cons_cons _ (List.sublist_cons_self _ _)⟩
 have grown: ∀(W:World) (cc:Nat) (full:Array Value),W.os=w.os→W.tape=w.tape→W.output=w.output→W.heap.size=w.heap.size+1→(∀k,k<w.heap.size→W.heap[k]? =w.heap[k]?)→W.heap[w.heap.size]? =some (.cells full 3 (0,0))→xs.length+1≤cc→full.size=cc→(∀j,j<xs.length+1→full[j]? =(ints (xs.take i++x::xs.drop i))[j]?)→
   Inv base ([ak (some ⟨w.heap.size,0,none⟩) cc 3 1 (ints (xs.take i++x::xs.drop i))]++M) W:=fun W cc full h1 h2 h3 h4 h5 h6 h7 h8 h9=>by
  have h:=hI.new (N:=[ak (some ⟨w.heap.size,0,none⟩) cc 3 1 (ints (xs.take i++x::xs.drop i))]) h1 h2 h3 (by omega) h5 (fun it di=>by
   simp only[List.mem_singleton]at di;subst di
   exact⟨F,full,h6,by rw[ie];omega,by show 0+cc*1≤_;omega,fun j hj=>by
    show full[0+j]? =_
    rw[Nat.zero_add,h9 j (by omega),List.getElem?_eq_getElem hj]⟩) (fun it di k hk=>by
   simp only[List.mem_singleton]at di;subst di;simp[ak]at hk;omega) (by simp[ak])
  exact h.jf ⟨_,List.Perm.refl _,List.Sublist.cons_cons _ (List.Sublist.cons _ (List.sublist_cons_self _ _))⟩
 have key:(∃bk o,b=some ⟨bk,o,none⟩)∨(b=none∧xs=[]∧c=0):=by
  cases b with
  |none=>exact .inr ⟨F,(uI hI hO).1,(uI hI hO).2⟩
  |some a=>obtain⟨bk,o,sp⟩:=a;have wT:sp=none:=(hI.row hO).1;subst wT;exact .inl ⟨bk,o,F⟩
 by_cases sO:i<xs.length
 ·rcases key with⟨bk,o,rfl⟩|⟨_,rfl,_⟩
  ·obtain⟨_,full,hb,h1,h2,h3⟩:=hI.row hO
   simp only[Nat.mul_one,List.length_map]at h1 h2
   have uc: ∀j v,(ints xs)[j]? =some v→w.cell? ⟨bk,o+j,none⟩=some v:=fun j v hv=>by
    obtain⟨hj,e⟩:=List.getElem?_eq_some_iff.1 hv
    have:=h3 j hj
    simp only[World.cell?,hb];simpa[e]using this
   have wT: ∀j,j<c→(w.cell? ⟨bk,o+j,none⟩).isSome=true:=fun j hj=>by
    simp only[World.cell?,hb];simp;omega
   have X4: ∀j,w.frozen? ⟨bk,j,none⟩=false:=fun j=>by simp[World.frozen?,hb]
   by_cases JW:xs.length+1≤c
   ·have rB:vb≠bk:=fun e=>by
     have hn:=hI.nodup
     simp[ak,e]at hn
    refine(Any2.slices_Insert_int_shift uH bk o xs.length c i vb 0 1 1 (ints xs) [.int .i64 x] w sO (by decide) JW Vk rB (by simp) F uc (fun j hj=>wT j (by omega)) (fun j _=>X4 _) gm Zs V1 3 3 vf.size full.size (by simp[World.shape?,V0]) (by simp[World.shape?,hb]) (by omega) (by simp[World.frozen?,V0]) (by simp[World.frozen?,V0])).mono ?_
    rintro e w' ⟨rfl,rfl⟩
    refine⟨_,_,F,?_,_,_,F,F⟩
    have hA:=(hI.drew).setCells (p:=i+1) (vs:=(ints xs).drop i) (zY:=ints (xs.take i++xs.getD i 0::xs.drop i)) hO (by simp;omega) (by simp;omega) (fun j hj=>by
     have qB:j<xs.length+1:=by simp at hj;omega
     rw[sj xs _ hi]
     simp only[List.length_drop,List.length_map]
     by_cases c1:j<i
     ·rw[if_pos c1,if_neg (by omega)]
     ·by_cases c2:j=i
      ·subst c2;rw[if_neg c1,if_pos F,if_neg (by omega),List.getElem?_map];simp[List.getD_eq_getElem?_getD,sO]
      ·rw[if_neg c1,if_neg c2,if_pos (by omega),List.getElem?_drop,show i+(j-(i+1))=j-1 by omega])
    have hB:=hA.setCells (i:=0) (b:=bk) (o:=o) (c:=c) (T:=3) (cs:=ints (xs.take i++xs.getD i 0::xs.drop i)) (p:=i) (vs:=[.int .i64 x]) (zY:=ints (xs.take i++x::xs.drop i)) F (by simp;omega) (by rw[ie];omega) (fun j hj=>by
     rw[sj xs _ hi,sj xs _ hi]
     simp only[List.length_cons,List.length_nil]
     by_cases c1:j<i
     ·rw[if_pos c1,if_neg (by omega),if_pos c1]
     ·by_cases c2:j=i
      ·subst c2;rw[if_neg c1,if_pos F,if_pos (by omega),Nat.sub_self];rfl
      ·rw[if_neg c1,if_neg c2,if_neg (by omega),if_neg c1,if_neg c2])
    exact wU _ _ _ hB
   ·refine(Any2.slices_Insert_int_grow uH bk o xs.length c i vb 0 1 1 (ints xs) [.int .i64 x] w sO (by decide) h1 (by omega) (by omega) (by simp) F uc gm Zs V1).mono ?_
    rintro e w' ⟨rfl,rfl⟩
    refine⟨_,_,F,?_,_,_,F,F⟩
    obtain⟨cc,Vl⟩: ∃cc,grownCap w (xs.length+1) c 3=cc:=⟨_,F⟩
    have XY:xs.length+1≤cc:=Vl▸grownCap_ge w _ _ _
    rw[show grownCap w (xs.length+1) c (zG.t 3)=cc from Vl]
    have hz: ∀k,Builtin.zeroCells (Value.int .i64 0).cells k=(List.replicate k (Value.int .i64 0)).toArray:=fun k=>by
     have:=pD (.int .i64 0) k
     simpa[Builtin.zeroCells,Value.cells]using this
    obtain⟨Gk,Q1⟩: ∃Gk,Gk=(ints xs).take i++List.replicate (xs.length+1-i) (Value.int .i64 0)++List.replicate (cc-(xs.length+1)) (Value.int .i64 0):=⟨_,F⟩
    have uh:Gk.length=cc:=by rw[Q1];simp;omega
    have e1:((ints xs).take i).toArray++Builtin.zeroCells (Value.int .i64 0).cells (xs.length+1-i)++Builtin.zeroCells (Value.int .i64 0).cells (cc-(xs.length+1))=Gk.toArray:=by
     rw[Q1,hz,hz];simp only[List.append_toArray]
    rw[e1,show zG.t 3=3 from F]
    have hh1:(w.alloc (.cells Gk.toArray 3 (0,0))).drew.heap[w.heap.size]? =some (.cells Gk.toArray 3 (0,0)):=by
     show(w.heap.push _)[w.heap.size]? =_
     simp
    rw[ko _ _ _ _ hh1]
    have hh2:((iI (w.alloc (.cells Gk.toArray 3 (0,0))).drew w.heap.size (.cells (dl Gk i [.int .i64 x]).toArray 3 (0,0))).drew).heap[w.heap.size]? =some (.cells (dl Gk i [.int .i64 x]).toArray 3 (0,0)):=jV (w:=(w.alloc (.cells Gk.toArray 3 (0,0))).drew) (by show w.heap.size<(w.heap.push _).size;simp)
    rw[ko _ _ _ _ hh2]
    refine grown _ cc (dl (dl Gk i [.int .i64 x]) (i+1) ((ints xs).drop i)).toArray F F F ?_ ?_ ?_ XY (by simp[gv,uh]) ?_
    ·show(((w.heap.push _).setIfInBounds _ _).setIfInBounds _ _).size=_;simp
    ·intro k hk
     show(((w.heap.push _).setIfInBounds _ _).setIfInBounds _ _)[k]? =_
     rw[Array.getElem?_setIfInBounds_ne (by omega),Array.getElem?_setIfInBounds_ne (by omega),Array.getElem?_push,if_neg (by omega)]
    ·exact jV (w:=(iI (w.alloc (.cells Gk.toArray 3 (0,0))).drew w.heap.size (.cells (dl Gk i [.int .i64 x]).toArray 3 (0,0))).drew) (by show w.heap.size<((w.heap.push _).setIfInBounds _ _).size;simp)
    ·intro j hj
     rw[sj xs _ hi]
     simp only[List.getElem?_toArray]
     rw[lA _ _ _ _ (by simp[gv,uh];omega),lA _ _ _ _ (by simp[uh];omega)]
     simp only[List.length_drop,List.length_map,List.length_cons,List.length_nil]
     by_cases c1:j<i
     ·rw[if_neg (by omega),if_neg (by omega),if_pos c1,Q1,List.append_assoc,List.getElem?_append_left (by simp;omega),List.getElem?_take,if_pos c1]
     ·by_cases c2:j=i
      ·subst c2;rw[if_neg (by omega),if_pos (by omega),if_neg c1,if_pos F,Nat.sub_self];rfl
      ·rw[if_pos (by omega),if_neg c1,if_neg c2,List.getElem?_drop,show i+(j-(i+1))=j-1 by omega]
  ·simp at sO
 ·have XZ:i=xs.length:=by omega
  subst XZ
  have X0:ints (xs.take xs.length++x::xs.drop xs.length)=ints xs++[.int .i64 x]:=by simp
  by_cases JW:xs.length+1≤c
  ·rcases key with⟨bk,o,rfl⟩|⟨_,_,rfl⟩
   ·obtain⟨_,full,hb,h1,h2,h3⟩:=hI.row hO
    simp only[Nat.mul_one,List.length_map]at h1 h2
    refine(Any2.slices_Insert_int_end_room uH bk o xs.length c vb 0 1 1 [.int .i64 x] w (by decide) JW Vk F (fun j hj=>by simp only[World.cell?,hb];simp;omega) (fun j _=>by simp[World.frozen?,hb]) gm V1).mono ?_
    rintro e w' ⟨rfl,rfl⟩
    refine⟨_,_,F,?_,_,_,F,F⟩
    have hB:=hI.setCells (p:=xs.length) (vs:=[.int .i64 x]) (zY:=ints (xs.take xs.length++x::xs.drop xs.length)) hO (by simp;omega) (by rw[ie];omega) (fun j hj=>by
     rw[sj xs _ (Nat.le_refl _)]
     simp only[List.length_cons,List.length_nil]
     by_cases c1:j<xs.length
     ·rw[if_pos c1,if_neg (by omega)]
     ·have c2:j=xs.length:=by omega
      subst c2;rw[if_neg c1,if_pos F,if_pos (by omega),Nat.sub_self];rfl)
    exact wU _ _ _ hB
   ·omega
  ·have Vy:xs.length≤c:=by
    rcases key with⟨bk,o,rfl⟩|⟨_,rfl,_⟩
    ·obtain⟨_,full,_,h1,_⟩:=hI.row hO;simpa using h1
    ·simp
   refine(Any2.slices_Insert_int_end_grow uH b xs.length c vb 0 1 1 (ints xs) [.int .i64 x] w (by decide) Vy (by omega) (by omega) (by simp) F (fun e=>key.elim (fun h=>by obtain⟨_,_,h⟩:=h;rw[e]at h;cases h) (fun h=>by rw[h.2.1];rfl)) (fun a ha j v hv=>by
    obtain⟨bk,o,sp⟩:=a
    subst ha
    have wT:sp=none:=(hI.row hO).1
    subst wT
    rw[pE]
    obtain⟨hj,e⟩:=List.getElem?_eq_some_iff.1 hv
    obtain⟨_,full,hb,h1,h2,h3⟩:=hI.row hO
    have:=h3 j hj
    simp only[World.cell?,hb];simpa[e]using this) gm V1).mono ?_
   rintro e w' ⟨rfl,rfl⟩
   refine⟨_,_,F,?_,_,_,F,F⟩
   obtain⟨cc,Vl⟩: ∃cc,grownCap w (xs.length+1) c 3=cc:=⟨_,F⟩
   have XY:xs.length+1≤cc:=Vl▸grownCap_ge w _ _ _
   rw[show grownCap w (xs.length+1) c (zG.t 3)=cc from Vl]
   have hz: ∀k,Builtin.zeroCells (Value.int .i64 0).cells k=(List.replicate k (Value.int .i64 0)).toArray:=fun k=>by
    have:=pD (.int .i64 0) k
    simpa[Builtin.zeroCells,Value.cells]using this
   rw[hz]
   refine grown _ cc _ F F F (by show(w.heap.push _).size=_;simp) (fun k hk=>by
    show(w.heap.push _)[k]? =_
    rw[Array.getElem?_push,if_neg (by omega)]) (by show(w.heap.push (Obj.cells _ 3 (0,0)))[w.heap.size]? =_;rw[Array.getElem?_push_size]) XY (by simp;omega) (fun j hj=>by
    rw[X0]
    simp only[List.append_toArray,List.getElem?_toArray]
    rw[List.getElem?_append_left (by simp;omega)])
end Go.Proofs.YtgdbfideeeegmaaGreatDoor

namespace Go.Proofs.YtgdbfideeeegmaaGreatDoor
open Go.Lx Go.RowKit _root_.Go.Proofs.Tryz
theorem sQ {α:Type} {p:α→Bool} {xs:List α} {k:Nat} (h:k<xs.length) (ha:(xs.take k).any p=false) (hp:p xs[k]=false):(xs.take (k+1)).any p=false:=by
 rw[List.take_succ_eq_append_getElem h,List.any_append,ha];simp[hp]
theorem Lm {p:Int→Bool} {xs:List Int} {i:Int} (h:(xs.any p=false∧i= -1)∨ ∃k:Nat,i=(k:Int)∧k<xs.length∧(xs.take k).any p=false∧p (xs.getD k 0)=true):decide (i≥0)=xs.any p:=by
 rcases h with⟨h1,rfl⟩|⟨k,rfl,h1,_,h2⟩
 ·rw[h1];decide
 ·rw[show xs.any p=true from List.any_eq_true.2 ⟨_,List.getElem_mem h1,by rwa[List.getD_eq_getElem?_getD,List.getElem?_eq_getElem h1]at h2⟩];exact decide_eq_true (by omega)
theorem D9 {α:Type} {p:α→Bool} {xs:List α} {k:Nat} (h:k<xs.length) (hp:p xs[k]=true):xs.any p=true:=List.any_eq_true.2 ⟨_,List.getElem_mem h,hp⟩
theorem qN (base:World) [cG Tryz.prog base] (b:Option Addr) (c:Nat) (xs:List Int) (hS:Sl base b (ints xs)) (hb:xs.length<9223372036854775807) (fv:Value) (p:Int→Bool) (OO:List Lx.Item) (hy: ∀x∈xs,dW Tryz.prog base fv [vI x] OO (fun v O'=>v=.bool (p x)∧O'=OO)):
  bw Tryz.prog base 194 [.slice b xs.length c,fv] OO (fun v O'=> ∃i:Int,v=vI i∧((xs.any p=false∧i= -1)∨ ∃k:Nat,i=(k:Int)∧k<xs.length∧(xs.take k).any p=false∧p (xs.getD k 0)=true)∧O'=OO):=by
 refine av func194 F ntmps194 F ?_
 refine ai (TO.qa F (ae (ax (ai (ah F (ad (bL bT F) (ah F (ae (aC ?_)))))))))
 refine ck (fun(k:Nat) ρ O=>O=OO∧k≤xs.length∧(xs.take k).any p=false∧bZ [(0,(.slice b xs.length c)),(1,fv),(7,vI (xs.length:Int)),(8,vI (k:Int))] ρ) (fun k=>xs.length-k) 0 ?_ ?_
 ·exact⟨F,Nat.zero_le _,F,⟨F,F,F,F,trivial⟩⟩
 rintro k ρ O ⟨rfl,hk,jN,hH⟩
 obtain⟨eP,rfl⟩:=hH.elim
 clear hH
 refine ai (ad (bI F F) (ae (ax (aw F (fun hc=>?_) (fun hc=>?_)))))
 ·have iQ:k<xs.length:=by omega
  refine aq (ax (aC (ai (ah F (TO.qa F (ae (ai (ah F (ah F (ah F (ad (cq (i:=k) bT aM F F (aB hS) iQ (by rw[List.length_map];exact iQ)) (ad (bS dh F F (aB hS) (d_ iQ)) ?_))))))))))))
  have lN:=hy xs[k] (List.getElem_mem iQ)
  refine aj F (dQ lN F F ?_)
  clear lN
  rintro vr O' ⟨rfl,rfl⟩
  refine ae (T.cond F (fun hc=>?_) (fun hc=>?_))
  ·refine ax ?_
   refine aH (ah F (TO.qa F (ae (az (ao ?_)))))
   refine aG (vI (k:Int)) Tryz.results194 F ?_
   exact⟨_,a_ (List.Sublist.refl _),k,F,.inr ⟨k,F,iQ,jN,by rw[List.getD_eq_getElem?_getD,List.getElem?_eq_getElem iQ];exact hc⟩,F⟩
  refine aq (aH (ad (cj (a:=k) (b:=1) F F (by omega)) (ah F (ae ?_))))
  exact⟨k+1,by omega,F,by omega,sQ iQ jN hc,⟨F,F,F,F,trivial⟩⟩
 have Fa: ¬k<xs.length:=by omega
 refine bn ?_
 refine ai (TO.qa F (ae (az (ao ?_))))
 refine aG (vI (-1)) Tryz.results194 F ?_
 exact⟨_,a_ (List.Sublist.refl _), -1,F,.inl ⟨by rw[List.take_of_length_le (by omega)]at jN;exact jN,F⟩,F⟩
theorem w_ (base:World) [cG Tryz.prog base] (b:Option Addr) (c:Nat) (xs:List Int) (hS:Sl base b (ints xs)) (hb:xs.length<9223372036854775807) (fv:Value) (p:Int→Bool) (OO:List Lx.Item) (hy: ∀x∈xs,dW Tryz.prog base fv [vI x] OO (fun v O'=>v=.bool (p x)∧O'=OO)):
  bw Tryz.prog base 195 [.slice b xs.length c,fv] OO (fun v O'=>v=.bool (xs.any p)∧O'=OO):=by
 refine av func195 F ntmps195 F ?_
 refine ai (TO.qa F (ae (ai (ah F (ah F ?_)))))
 have A7:=qN base b c xs hS hb fv p OO hy
 refine aj F (aI CS A7 F ?_)
 clear A7
 rintro v O' ⟨i,rfl,hi,rfl⟩
 refine ad (gW F F) (TO.qa F (ae (az (ao ?_))))
 refine aG (.bool (decide (i≥0))) Tryz.results195 F ?_
 exact⟨_,a_ (List.Sublist.refl _),congrArg Value.bool (Lm hi),F⟩
theorem W3 (base:World) [cG Tryz.prog base] (d:bY) (k:DK) (ha:At base d k) (hv:Valid d) (z1 s:Nat) (hs:s<d.next.length):
  bw Tryz.prog base 196 [vN s,.pointer (aD z1)] [oI z1 25 (dC d k)] (fun v O'=>v=.bool (dK d s)∧O'=[oI z1 25 (dC d k)]):=by
 refine av func196 F ntmps196 F ?_
 refine ai (TO.qa F (ae (ai (ad (aJ cy F ce F F) (ad (aO 0 dF F F F F) (ah F (ad (cq (i:=s) dF dc F F (aB ha.aA) (by rw[hv.fin];exact hs) (by rw[List.length_map,hv.fin];exact hs)) (ad (bS oe F F (aB ha.aA) (l_ hv hs)) (TO.qa F (ae (az ?_)))))))))))
 refine aG (.bool (dK d s)) Tryz.results196 F ?_
 exact⟨F,F⟩
theorem uD (w:World) [cG Tryz.prog w] (d:bY) (k:DK) (ha:At w d k) (hv:Valid d) (b:Option Addr) (c:Nat) (l:List Nat) (hS:Sl w b (aQ l)) (hl: ∀s∈l,s<d.next.length) (hb:l.length≤1000000):
  bs Tryz.prog 148 [dV d k,.slice b l.length c] w fun v N=>v=.bool (l.any (dK d))∧N=[]:=by
 refine av func148 F ntmps148 F ?_
 refine ai (aj F (cL (cs:=(dC d k)) F F (fun z1=>?_)))
 refine TO.qa F (ae (ai (ah F (ad (dX) ?_))))
 have A7:=(show bw _ _ _ _ _ _ from by
   have h9:=w_ w b c (l.map fun y:Nat=>(y:Int)) (by rw[e7];exact hS) (by rw[List.length_map];omega) (.func (.func 196) #[] #[.pointer (aD z1)]) (fun x=>dK d x.toNat) [oI z1 25 (dC d k)] (fun x hx=>by
    obtain⟨s,hs,rfl⟩:=List.mem_map.1 hx
    exact b_ (first:=[]) (args:=[vI (s:Int)]) (fK:=[.pointer (aD z1)]) Pd (W3 w d k ha hv z1 s (hl s hs)))
   rw[List.length_map]at h9
   exact h9)
 refine aj F (aI Pe A7 F ?_)
 clear A7
 rintro vr O' ⟨rfl,rfl⟩
 refine TO.qa F (ae (az (ao ?_)))
 refine aG (.bool ((l.map fun y:Nat=>(y:Int)).any fun x=>dK d x.toNat)) Tryz.results148 F ?_
 exact⟨[],Sub.z,congrArg Value.bool (by rw[List.any_map];rfl),F⟩
theorem Nk (w:World) [cG Tryz.prog w] (d:bY) (k:DK) (ha:At w d k) (hv:Valid d) (b:Option Addr) (c:Nat) (l:List Nat) (hS:Sl w b (aQ l)) (hl: ∀s∈l,s<d.next.length) (hb:l.length≤1000000) (x:Nat) (hx:x<cJ d):
  bs Tryz.prog 144 [dV d k,.slice b l.length c,v8 x] w fun v N=> ∃b' c',v=.slice b' (eD d l x).length c'∧N=[ak b' c' 3 1 (aQ (eD d l x))]:=by
 refine av func144 F ntmps144 F ?_
 have ut:=ha.rows.1
 refine ai (aj F (cL (cs:=(dC d k)) F F (fun z1=>?_)))
 refine TO.qa F (ae (ax (ai (ah F (ad (bL bT F) (ah F (ae (aC (T.dt 3 1 ?_)))))))))
 let dS:Lx.Item:=oI z1 25 (dC d k)
 refine cE (fun(i:Nat) ρ O=> ∃(rb:Option Addr) (rc:Nat),O=[ak rb rc 3 1 (ints ((l.take i).map fun s=>((dJ d s x:Nat):Int))),dS]∧i≤l.length∧bZ [(0,(dV d k)),(1,(.slice b l.length c)),(2,v8 x),(3,(.pointer (aD z1))),(6,(.slice rb i rc)),(9,(.slice b l.length c)),(10,vI (l.length:Int)),(11,vN i)] ρ) (fun i=>l.length-i) 0 ?_ ?_
 ·exact⟨none,0,F,Nat.zero_le _,(.of F)⟩
 rintro i ρ O ⟨rb,rc,rfl,hi,hH⟩
 obtain⟨eP,rfl⟩:=hH.elim
 clear hH
 refine ai (ad (bI F F) (ae (ax (aw F (fun hc=>?_) (fun hc=>?_)))))
 ·have D_:i<l.length:=by omega
  have nL:l[i]<d.next.length:=hl _ (List.getElem_mem D_)
  obtain⟨v1,c1,g1,s1⟩:=ha.rows.get nL
  have uw:d.next[l[i]].length=cJ d:=hv.len _ (List.getElem_mem nL)
  have Cn:x<d.next[l[i]].length:=by rw[uw];exact hx
  refine aq (ax (aC (ai (ad (cq (i:=i) bT aM F F (aB hS)) (ad (bS dh F F (aB hS) eK) (TO.qa F (ae (aH (ah F (ad (aJ cy F cU F F) (ad (aO 1 dB F F F F) (ah F (ad (cq (i:=l[i]) dB bP F F (aB ha.outer) nL (ut▸nL)) (ad (bS bT F F (aB ha.outer) g1) (ah F (ad (cq (i:=x) bT aM F F (aB s1) Cn (by rw[List.length_map];exact Cn)) (ad (bS dh F F (aB s1) (uP hv nL hx)) (aj F (bN (v:=vN (dJ d l[i] x)) bT aM F F F (fun z2=>?_))))))))))))))))))))
  refine aj F (bX 1 bT bT aM F F F F (by simp;omega) (by decide) (Src.row (j:=0) F (by simp)) (by simp[dD]) (by omega) (by decide) (by decide) (fun z3 oh=>?_))
  refine TO.qa F (ae (aH (ad (cj (a:=i) (b:=1) F F (by omega)) (ah F (ae ?_)))))
  exact⟨i+1,by omega,[ak z3 oh 3 1 ((ints ((l.take i).map fun s=>((dJ d s x:Nat):Int)))++[vN (dJ d l[i] x)]),dS],(by exact Sub.d (.k (.k .z))),z3,oh,by rw[List.take_succ_eq_append_getElem D_,List.map_append,show ints ((l.take i).map (fun s=>((dJ d s x:Nat):Int))++[l[i]].map (fun s=>((dJ d s x:Nat):Int)))=ints ((l.take i).map fun s=>((dJ d s x:Nat):Int))++[vN (dJ d l[i] x)]from List.map_append],by omega,(.of F)⟩
 have Tv: ¬i<l.length:=by omega
 refine bn ?_
 refine ax ?_
 have sO:i=l.length:=by omega
 subst sO
 rw[List.take_length]
 refine aH (ah F (aj F (aI Pf (jX [0] (by have h9:=Tw w rb rc (l.map fun s=>((dJ d s x:Nat):Int)) (by rw[List.length_map];omega);rw[List.length_map]at h9;exact h9)) F ?_)))
 rintro vr O' ⟨A1,rfl,rfl,rfl⟩
 refine ae (ai (ah F ?_))
 have na:=bw.under (A:=[ak rb rc 3 1 (ints (oZ (l.map fun s=>((dJ d s x:Nat):Int))))]) (B:=[dS]) (O:=[ak rb rc 3 1 (ints (oZ (l.map fun s=>((dJ d s x:Nat):Int)))),dS]) (show bw _ _ _ _ _ (fun v O'=>v=.slice rb (eD d l x).length rc∧O'=[ak rb rc 3 1 (aQ (eD d l x))])from by
   have h9:=H2 w rb rc (oZ (l.map fun s=>((dJ d s x:Nat):Int))) (by rw[List.length_mergeSort,List.length_map];exact hb)
   rw[FJ hv.toVal hl hx,List.length_map,e7,List.length_mergeSort,List.length_map]at h9
   exact h9) (by exact Sub.rf)
 refine aj F (aI Pg na F ?_)
 clear na
 rintro vr O' ⟨A1,rfl,rfl,rfl⟩
 refine TO.qa F (ae (az (ao ?_)))
 refine aG (.slice rb ((eD d l x).length) rc) Tryz.results144 F ?_
 exact⟨[ak rb rc 3 1 (aQ (eD d l x))],(by exact Sub.k .z),rb,rc,F,F⟩
theorem Nl (base:World) [cG Tryz.prog base] (n:Nat) (b:Option Addr) (c cv:Nat) (l:List Nat) (s:Nat) (ha:l.Pairwise (· < ·)) (hl: ∀s∈l,s<n) (hs:s<n) (hb:l.length≤1000000):
  bw Tryz.prog base 149 [.slice b l.length cv,vN s] [ak b c 3 1 (aQ l)] (fun v O'=> ∃b' c' c2,v=.slice b' (yM n l s).length c'∧O'=[ak b' c2 3 1 (aQ (yM n l s))]):=by
 refine av func149 F ntmps149 F ?_
 refine ai (TO.qa F (ae (ai (ah F (ah F (aj F (aI Ph (aE fun w1 hI=>(haveI:=dp hI;Ln w1 b cv l s (hI.eV (mG 0 F)) ha hb)) F ?_)))))))
 rintro vr O' ⟨N,rfl,rfl,rfl⟩
 refine ah F (ad (bm (vs:=_) F F) (ad (bm (vs:=_) F F) (TO.qa F (TO.qa F (ae (ax (ai (ah F (ae (aw F (fun hc=>?_) (fun hc=>?_)))))))))))
 ·refine ax ?_
  refine aH (ah F (TO.qa F (ae (az (ao ?_)))))
  refine aG (.slice b l.length cv) Tryz.results149 F ?_
  rw[Lo ha hl hc]
  exact⟨[ak b c 3 1 (aQ l)],(by exact Sub.rf),b,cv,c,F,F⟩
 refine aq (ai (ah F ?_))
 refine aj F (aI H3 (aE fun w1 hI=>(haveI:=dp hI;(show bs _ _ _ _ _ from by
   have h9:=H4 w1 b cv (l.map fun y:Nat=>(y:Int)) (by rw[e7];exact hI.eV (mG 0 F)) (by rw[List.length_map];exact hb)
   rw[List.length_map,e7]at h9
   exact h9))) F ?_)
 rintro vr O' ⟨N,rfl,nb,nc,rfl,rfl,Vy⟩
 refine ah F (ah F (aj F (bN (v:=vN s) bT aM F F F (fun z1=>?_))))
 have lJ:=bw.under (A:=[ak nb nc 3 1 (aQ l),ak (aD z1) 1 3 1 [vN s]]) (B:=[ak b c 3 1 (aQ l)]) (O:=[ak (aD z1) 1 3 1 [vN s],ak nb nc 3 1 (aQ l),ak b c 3 1 (aQ l)]) (show bw _ _ _ _ _ (fun v O'=> ∃b' c',v=.slice b' (l.length+1) c'∧O'=[ak b' c' 3 1 (aQ (yM n l s))])from by
   have h9:=Lp base nb nc (l.countP (· <s)) z1 (l.map fun y:Nat=>(y:Int)) (s:Int) (by rw[List.length_map];exact List.countP_le_length) (by rw[List.length_map];exact hb) Vy
   rw[←List.map_take,←List.map_drop,List.length_map,e7,show ints (List.map (fun y:Nat=>(y:Int)) (l.take (l.countP (· <s)))++(s:Int)::List.map (fun y:Nat=>(y:Int)) (l.drop (l.countP (· <s))))=aQ (yM n l s) by rw[←Ea ha hl hs hc,←e7,List.map_append,List.map_cons]]at h9
   exact h9) (by exact Sub.dL [ak (aD z1) 1 3 1 [vN s]] _ (.k (.k .z)))
 refine aj F (aI Pj lJ F ?_)
 clear lJ
 rintro vr O' ⟨A1,rfl,ib,ic,rfl,rfl⟩
 refine TO.qa F (ae (az (ao ?_)))
 refine aG (.slice ib (l.length+1) ic) Tryz.results149 F ?_
 have MV:(yM n l s).length=l.length+1:=by rw[←Ea ha hl hs hc];simp;have:=List.countP_le_length (p:=fun y=>decide (y<s)) (l:=l);omega
 exact⟨[ak ib ic 3 1 (aQ (yM n l s))],(by exact Sub.k .z),ib,ic,ic,by rw[MV],F⟩
end Go.Proofs.YtgdbfideeeegmaaGreatDoor

namespace Go.Proofs.YtgdbfideeeegmaaGreatDoor
open Go.Lx Go.RowKit _root_.Go.Proofs.Tryz
theorem Gi (base:World) [cG Tryz.prog base] (b:Option Addr) (c:Nat) (xs:List Nat) (hS:Sl base b (yy xs)) (hb:xs.length<9223372036854775807) (fv:Value) (p:Nat→Bool) (OO:List Lx.Item) (hy: ∀x∈xs,dW Tryz.prog base fv [.int .u8 (x:Int)] OO (fun v O'=>v=.bool (p x)∧O'=OO)):
  bw Tryz.prog base 128 [.slice b xs.length c,fv] OO (fun v O'=> ∃i:Int,v=vI i∧decide (i≥0)=xs.any p∧O'=OO):=by
 refine av func128 F ntmps128 F ?_
 refine ai (TO.qa F (ae (ax (ai (ah F (ad (bL underlying43 F) (ah F (ae (aC ?_)))))))))
 refine ck (fun(k:Nat) ρ O=>O=OO∧k≤xs.length∧(xs.take k).any p=false∧bZ [(0,(.slice b xs.length c)),(1,fv),(7,vI (xs.length:Int)),(8,vI (k:Int))] ρ) (fun k=>xs.length-k) 0 ?_ ?_
 ·exact⟨F,Nat.zero_le _,F,⟨F,F,F,F,trivial⟩⟩
 rintro k ρ O ⟨rfl,hk,jN,hH⟩
 obtain⟨eP,rfl⟩:=hH.elim
 clear hH
 refine ai (ad (bI F F) (ae (ax (aw F (fun hc=>?_) (fun hc=>?_)))))
 ·have iQ:k<xs.length:=by omega
  refine aq (ax (aC (ai (ah F (TO.qa F (ae (ai (ah F (ah F (ah F (ad (cq (i:=k) underlying43 cP F F (aB hS) iQ (by rw[List.length_map];exact iQ)) (ad (bS underlying5 F F (aB hS) (Ah iQ)) ?_))))))))))))
  have lN:=hy xs[k] (List.getElem_mem iQ)
  refine aj F (dQ lN F F ?_)
  clear lN
  rintro v O' ⟨rfl,rfl⟩
  refine ae (T.cond F (fun hc=>?_) (fun hc=>?_))
  ·refine ax ?_
   refine aH (ah F (TO.qa F (ae (az (ao ?_)))))
   refine aG (vI (k:Int)) Tryz.results128 F ?_
   exact⟨_,a_ (List.Sublist.refl _),k,F,by rw[uJ iQ hc];exact decide_eq_true (by omega),F⟩
  refine aq (aH (ad (ey F F (by omega)) (ah F (ae ?_))))
  exact⟨k+1,by omega,F,by omega,uK iQ jN hc,⟨F,F,F,F,trivial⟩⟩
 have Fa: ¬k<xs.length:=by omega
 refine bn ?_
 refine ai (TO.qa F (ae (az (ao ?_))))
 refine aG (vI (-1)) Tryz.results128 F ?_
 exact⟨_,a_ (List.Sublist.refl _), -1,F,by rw[List.take_of_length_le (by omega)]at jN;rw[jN];decide,F⟩
theorem sv (base:World) [cG Tryz.prog base] (b:Option Addr) (c:Nat) (xs:List Nat) (hS:Sl base b (yy xs)) (hb:xs.length<9223372036854775807) (fv:Value) (p:Nat→Bool) (OO:List Lx.Item) (hy: ∀x∈xs,dW Tryz.prog base fv [.int .u8 (x:Int)] OO (fun v O'=>v=.bool (p x)∧O'=OO)):
  bw Tryz.prog base 91 [.slice b xs.length c,fv] OO (fun v O'=>v=.bool (xs.any p)∧O'=OO):=by
 refine av func91 F ntmps91 F ?_
 refine ai (TO.qa F (ae (ai (ah F (ah F ?_)))))
 have A7:=Gi base b c xs hS hb fv p OO hy
 refine aj F (aI Qu A7 F ?_)
 clear A7
 rintro v O' ⟨i,rfl,hi,rfl⟩
 refine ad (gW F F) (TO.qa F (ae (az (ao ?_))))
 refine aG (.bool (decide (i≥0))) Tryz.results91 F ?_
 exact⟨_,a_ (List.Sublist.refl _),congrArg Value.bool hi,F⟩
theorem BY (base:World) [cG Tryz.prog base] (d:bY) (nb fb:Option Addr) (nc fc:Nat) (Ko:0≤d.vars) (N1:d.vars≤6) (bx x:Nat) (hx:x<256):
  bw Tryz.prog base 94 [.int .u8 (x:Int),.pointer (aD bx)] [oI bx 25 [(vI d.vars),(vI d.start),(.slice nb d.next.length nc),(.slice fb d.aA.length fc)]] (fun v O'=>v=.bool (decide (2^d.vars.toNat≤x))∧O'=[oI bx 25 [(vI d.vars),(vI d.start),(.slice nb d.next.length nc),(.slice fb d.aA.length fc)]]):=by
 refine av func94 F ntmps94 F ?_
 refine ai (TO.qa F (ae (ai (ah F (ad (ef underlying5 underlying3 F (eZ ⟨by omega,by omega⟩)) (ad (aJ underlying25 F aM F F) (ad (aO 0 underlying3 F F F F) (ad (mJ (v:=d.vars.toNat) F (by show Value.int _ d.vars=_;rw[Int.toNat_of_nonneg Ko]) (by omega)) (ad (gW F F) (TO.qa F (ae (az ?_))))))))))))
 refine aG (.bool (decide ((x:Int)≥((2^d.vars.toNat:Nat):Int)))) Tryz.results94 F ?_
 exact⟨congrArg Value.bool (decide_eq_decide.2 (by omega)),F⟩
theorem XU (w:World) [cG Tryz.prog w] (d:bY) (nb fb:Option Addr) (nc fc:Nat) (vs:List Value) (h:eA w d nb vs fb) (hv:Valid d) (wb:Option Addr) (wc:Nat) (l:List Nat) (hW:Sl w wb (yy l)) (Ro:l.length<9223372036854775807) (Mc:Wd d l):
  bs Tryz.prog 95 [.agg (cB d nb nc fb fc).toArray,.slice wb l.length wc] w fun v N=>v=vI ((Lx.runN d d.start.toNat l:Nat):Int)∧N=[]:=by
 refine av func95 F ntmps95 F ?_
 have sB:=hv.s0
 have J1:=hv.s1
 have ut:=h.rows.1
 let dS:Value:=(.slice fb d.aA.length fc)
 let gz:Value:=(.slice nb d.next.length nc)
 refine ai (aj F (cL (cs:=[(vI d.vars),(vI d.start),gz,dS]) F F (fun b1=>?_)))
 refine TO.qa F (ae (ai (ad (aJ underlying146 F aX F F) (ad (aJ underlying25 F aM F F) (ad (a8 (aO 0 underlying3 F F F F) (v':=vI ((Lx.runN d d.start.toNat (l.take 0):Nat):Int)) (by show Value.int _ d.start=_;rw[show Lx.runN d d.start.toNat (l.take 0)=d.start.toNat from F,Int.toNat_of_nonneg sB])) (TO.qa F (ae (ax (ai (ah F (ad (bL underlying43 F) (ah F (ae (aC ?_))))))))))))))
 refine ck (fun(k:Nat) ρ O=>O=[oI b1 146 [(vI d.vars),(vI d.start),gz,dS]]∧k≤l.length∧bZ [(0,(.agg #[(vI d.vars),(vI d.start),gz,dS])),(1,(.slice wb l.length wc)),(2,(.pointer (aD b1))),(4,vI 0),(5,vI ((Lx.runN d d.start.toNat (l.take k):Nat):Int)),(11,(.slice wb l.length wc)),(12,vI (l.length:Int)),(13,vI (k:Int))] ρ) (fun k=>l.length-k) 0 ?_ ?_
 ·exact⟨F,Nat.zero_le _,(.of F)⟩
 rintro k ρ O ⟨rfl,hk,hH⟩
 obtain⟨eP,rfl⟩:=hH.elim
 clear hH
 refine ai (ad (bI F F) (ae (ax (aw F (fun hc=>?_) (fun hc=>?_)))))
 ·have me:k<l.length:=by omega
  obtain⟨o,ho⟩: ∃o,Lx.runN d d.start.toNat (l.take k)=o:=⟨_,F⟩
  have yr:o<d.next.length:=by rw[←ho];exact j7 hv.toVal (by omega) _ (fun x hx=>Mc x (List.mem_of_mem_take hx))
  have ux:l[k]<2^d.vars.toNat:=Mc _ (List.getElem_mem me)
  obtain⟨vb,vc,g1,s1⟩:=h.rows.get yr
  have uw:d.next[o].length=2^d.vars.toNat:=hv.len _ (List.getElem_mem yr)
  obtain⟨Rb,_,Cz,xI⟩:=hv.fB yr ux
  have xI:(ints d.next[o])[l[k]]? =some (vI ((dJ d o l[k]:Nat):Int)):=by rw[d_ Cz,xI]
  refine aq (ax (aC (ai (ad (cq (i:=k) underlying43 cP F F (aB hW) me (by rw[List.length_map];exact me)) (ad (bS underlying5 F F (aB hW) (Ah me)) (TO.qa F (ae (aH (ad (aJ underlying146 F aX F F) (ad (aJ underlying25 F cU F F) (ad (aO 0 underlying22 F F F F) (ad (a8 (aF F) (v':=vI ((o:Nat):Int)) (by show Value.int _ _=_;rw[ho])) (ad (cq (i:=o) underlying22 bP F F (aB h.outer) yr (ut▸yr)) (ad (bS underlying56 F F (aB h.outer) g1) (ah F (ad (cq (i:=l[k]) underlying56 aM F F (aB s1) (by rw[uw];exact ux) (by rw[List.length_map,uw];exact ux)) (ad (bS underlying3 F F (aB s1) xI) (TO.qa F (ae (aH (ad (ey F F (by omega)) (ah F ?_))))))))))))))))))))))
  refine ae ?_
  refine⟨k+1,by omega,F,by omega,?_⟩
  rw[Gj me,ho];exact(.of F)
 have mR: ¬k<l.length:=by omega
 refine bn ?_
 refine ai (ah F (TO.qa F (ae (az (ao ?_)))))
 refine aG (vI ((Lx.runN d d.start.toNat (l.take k):Nat):Int)) Tryz.results95 F ?_
 have Gs:k=l.length:=by omega
 exact⟨[],a_ (List.nil_sublist _),by rw[List.take_of_length_le (by omega)],F⟩
theorem XV (w:World) [cG Tryz.prog w] (d:bY) (nb fb:Option Addr) (nc fc:Nat) (vs:List Value) (h:eA w d nb vs fb) (hb:d.next.length<9223372036854775807) (jy: ∀r∈d.next,r.length<9223372036854775807) (j6:d.aA.length<9223372036854775807) (wb:Option Addr) (wc:Nat) (l:List Nat) (hW:Sl w wb (yy l)) (Ro:l.length<9223372036854775807) (VZ: ∀x∈l,x<256):
  bs Tryz.prog 58 [.agg (cB d nb nc fb fc).toArray,.slice wb l.length wc] w fun v N=>v=.tuple #[vI ((ur d l:Nat):Int),vI ((kp d l:Nat):Int)]∧N=[]:=by
 refine av func58 F ntmps58 F ?_
 refine ai (aj F (cL (cs:=[(vI d.vars),(vI d.start),(.slice nb d.next.length nc),(.slice fb d.aA.length fc)]) F F (fun b1=>?_)))
 refine TO.qa F (TO.qa F (ae (ax (ai (ad (cN 0 underlying25 F aX F F F) ?_)))))
 let gn:List Lx.Item:=[oI b1 25 [(vI d.vars),(vI d.start),(.slice nb d.next.length nc),(.slice fb d.aA.length fc)]]
 have nF:=fun(w1:World) (hI:Inv w gn w1)=>(haveI:=Inv.tab (P:=Tryz.prog) hI;mf w1 d nb fb nc fc vs (hI.u4 h) hb jy j6)
 refine aj F (aI Ex (aE nF) F ?_)
 clear nF
 rintro v O' ⟨N,rfl,rfl,rfl⟩
 refine TO.qa F (ae (ai (ah F ?_)))
 by_cases hE:(bW d:Int)≠0
 ·refine ad (ar (cS F F) (decide_eq_true hE)) ?_
  refine ae ?_
  refine bg F ?_
  refine ai (ah F (TO.qa F (TO.qa F (ae (az (ao ?_))))))
  refine ct (vI 0) (vI (bW d:Int)) Tryz.results58 F F ?_
  have QW:kp d l=bW d:=by unfold kp;rw[if_pos (by omega)]
  have Mn: ¬kp d l=0:=by omega
  exact⟨[],a_ (List.nil_sublist _),by unfold ur;rw[if_neg Mn,QW];try rfl,F⟩
 refine ad (ar (cS F F) (decide_eq_false hE)) (ae (aL F (aq (ax (aC (ax ?_))))))
 have he:bW d=0:=by omega
 have hv:Valid d:=dr.1 he
 refine aH (ah F (ad (bL underlying43 F) ?_))
 by_cases Zq:(l.length:Int)>64
 ·refine ad (ar (fw F F) (decide_eq_true Zq)) ?_
  refine TO.qa F (ae ?_)
  refine bg F ?_
  refine ai (TO.qa F (TO.qa F (ae (az (ao ?_)))))
  refine ct (vI 0) (vI 4) Tryz.results58 F F ?_
  have QW:kp d l=4:=by unfold kp;rw[if_neg (by simp[he]),if_pos (by omega)]
  have Mn: ¬kp d l=0:=by omega
  exact⟨[],a_ (List.nil_sublist _),by unfold ur;rw[if_neg Mn,QW];try rfl,F⟩
 refine ad (ar (fw F F) (decide_eq_false Zq)) (TO.qa F (ae (aL F (ai (ah F (ad (dX) ?_))))))
 by_cases jN:l.any (fun x=>decide (2^d.vars.toNat≤x))=true
 ·have lJ:=(sv w wb wc l hW Ro (.func (.func 94) #[] #[.pointer (aD b1)]) (fun x=>decide (2^d.vars.toNat≤x)) gn (fun x hx=>b_ (first:=[]) (args:=[.int .u8 (x:Int)]) (fK:=[.pointer (aD b1)]) NP (BY w d nb fb nc fc hv.v0 hv.v6 b1 x (VZ x hx)))).mono (fun v O' hh=>(⟨hh.1.trans (congrArg Value.bool ((show∀b:Bool,b=decide (b=true)from fun b=>by cases b<;>rfl) _)),hh.2⟩:v=.bool (decide (l.any (fun x=>decide (2^d.vars.toNat≤x))=true))∧O'=gn))
  refine aj F (aI NO lJ F ?_)
  clear lJ
  rintro v O' ⟨rfl,rfl⟩
  rw[decide_eq_true jN]
  refine TO.qa F (ae ?_)
  refine bg F ?_
  refine ai (TO.qa F (TO.qa F (ae (az (ao ?_)))))
  refine ct (vI 0) (vI 1) Tryz.results58 F F ?_
  have QW:kp d l=1:=by unfold kp;rw[if_neg (by simp[he]),if_neg (by omega),if_pos jN]
  have Mn: ¬kp d l=0:=by omega
  exact⟨[],a_ (List.nil_sublist _),by unfold ur;rw[if_neg Mn,QW];try rfl,F⟩
 have lJ:=(sv w wb wc l hW Ro (.func (.func 94) #[] #[.pointer (aD b1)]) (fun x=>decide (2^d.vars.toNat≤x)) gn (fun x hx=>b_ (first:=[]) (args:=[.int .u8 (x:Int)]) (fK:=[.pointer (aD b1)]) NP (BY w d nb fb nc fc hv.v0 hv.v6 b1 x (VZ x hx)))).mono (fun v O' hh=>(⟨hh.1.trans (congrArg Value.bool ((show∀b:Bool,b=decide (b=true)from fun b=>by cases b<;>rfl) _)),hh.2⟩:v=.bool (decide (l.any (fun x=>decide (2^d.vars.toNat≤x))=true))∧O'=gn))
 refine aj F (aI NO lJ F ?_)
 clear lJ
 rintro v O' ⟨rfl,rfl⟩
 rw[decide_eq_false jN]
 refine TO.qa F (ae (aL F (aq (ax ?_))))
 have Mn:kp d l=0:=by unfold kp;rw[if_neg (by simp[he]),if_neg (by omega),if_neg jN]
 have Mc:Wd d l:=(sP.1 Mn).2.2
 refine aH (ad (cN 0 underlying25 F aX F F F) (ad (bE (cs:=[(vI d.vars),(vI d.start),(.slice nb d.next.length nc),(.slice fb d.aA.length fc)]) LV Qo (by kernel_rfl)) (ad (dX) (TO.qa F (ae (ai (ah F (ah F ?_))))))))
 have Ju:=b_ (first:=[.agg (cB d nb nc fb fc).toArray]) (args:=[.slice wb l.length wc]) (fK:=[]) US (aE (fun w1 (hI:Inv w gn w1)=>haveI:=Inv.tab (P:=Tryz.prog) hI;XU w1 d nb fb nc fc vs (hI.u4 h) hv wb wc l (hI.sl hW) Ro Mc))
 refine aj F (dQ Ju F F ?_)
 clear Ju
 rintro v O' ⟨N,rfl,rfl,rfl⟩
 refine TO.qa F (TO.qa F (ae (az (ao ?_))))
 refine ct (vI ((Lx.runN d d.start.toNat l:Nat):Int)) (vI 0) Tryz.results58 F F ?_
 have QW:=Mn
 exact⟨[],a_ (List.nil_sublist _),by unfold ur;rw[if_pos Mn,QW];try rfl,F⟩
theorem HK (w:World) [cG Tryz.prog w] (d:bY) (nb fb:Option Addr) (nc fc:Nat) (vs:List Value) (h:eA w d nb vs fb) (hb:d.next.length<9223372036854775807) (jy: ∀r∈d.next,r.length<9223372036854775807) (j6:d.aA.length<9223372036854775807) (wb:Option Addr) (wc:Nat) (l:List Nat) (hW:Sl w wb (yy l)) (Ro:l.length<9223372036854775807) (VZ: ∀x∈l,x<256):
  bs Tryz.prog 29 [.agg (cB d nb nc fb fc).toArray,.slice wb l.length wc] w fun v N=>v=.tuple #[.bool (E_ d l),vI ((kp d l:Nat):Int)]∧N=[]:=by
 refine av func29 F ntmps29 F ?_
 refine ai (aj F (cL (cs:=[(vI d.vars),(vI d.start),(.slice nb d.next.length nc),(.slice fb d.aA.length fc)]) F F (fun b1=>?_)))
 refine TO.qa F (TO.qa F (ae (ai (ad (cN 0 underlying25 F aX F F F) (ah F ?_)))))
 have ly:=fun(w1:World) (hI:Inv w [oI b1 25 [(vI d.vars),(vI d.start),(.slice nb d.next.length nc),(.slice fb d.aA.length fc)]] w1)=>(haveI:=Inv.tab (P:=Tryz.prog) hI;XV w1 d nb fb nc fc vs (hI.u4 h) hb jy j6 wb wc l (hI.sl hW) Ro VZ)
 refine aj F (aI UM (aE ly) F ?_)
 clear ly
 rintro v O' ⟨N,rfl,rfl,rfl⟩
 refine ah F (ad (bm (vs:=_) F F) (ad (bm (vs:=_) F F) (TO.qa F (TO.qa F (ae (ax ?_))))))
 have ud:kp d l=0→ur d l<d.aA.length:=fun h0=>by
  obtain⟨hv,_,Mc⟩:=sP.1 h0
  unfold ur;rw[if_pos h0,hv.fin]
  exact j7 hv.toVal (by have:=hv.s0;have:=hv.s1;omega) _ Mc
 refine aH (ah F ?_)
 by_cases h0:((kp d l:Nat):Int)=0
 ·refine ad (ar (bo F F) (decide_eq_true h0)) ?_
  refine ah F (ap F F (aJ underlying25 F ce F F) (ap F F (aO 0 underlying23 F F F F) (ap F F (aF F) (ap F F (cq (i:=(ur d l)) underlying23 dc F F (aB h.aA) (ud (by omega)) (by rw[List.length_map];exact ud (by omega))) (ap F F (bS underlying4 F F (aB h.aA) (show(aU d.aA)[ur d l]? =some (.bool (dK d (ur d l))) by rw[gu (ud (by omega))];simp[dK,ud (by omega)])) (ad (bt F F) (ah F (TO.qa F (TO.qa F (ae (az (ao ?_))))))))))))
  refine ct (.bool (dK d (ur d l))) (vI ((kp d l:Nat):Int)) Tryz.results29 F F ?_
  have h9:kp d l=0:=by omega
  exact⟨[],a_ (List.nil_sublist _),by unfold E_ ur;rw[if_pos h9,if_pos h9],F⟩
 refine ad (ar (bo F F) (decide_eq_false h0)) (ah F (ay F F (ay F F (ay F F (ay F F (ay F F (ad (aZ F F) (ah F (TO.qa F (TO.qa F (ae (az (ao ?_)))))))))))))
 refine ct (.bool false) (vI ((kp d l:Nat):Int)) Tryz.results29 F F ?_
 have h9: ¬kp d l=0:=by omega
 exact⟨[],a_ (List.nil_sublist _),by unfold E_;rw[if_neg h9],F⟩
end Go.Proofs.YtgdbfideeeegmaaGreatDoor

namespace Go.Proofs.YtgdbfideeeegmaaGreatDoor
open Go.Lx Go.RowKit _root_.Go.Proofs.Tryz
end Go.Proofs.YtgdbfideeeegmaaGreatDoor

namespace Go.Proofs.YtgdbfideeeegmaaGreatDoor
open Go.Lx Go.RowKit _root_.Go.Proofs.Tryz
end Go.Proofs.YtgdbfideeeegmaaGreatDoor

namespace Go.Proofs.YtgdbfideeeegmaaGreatDoor
open Go.Lx Go.RowKit _root_.Go.Proofs.Tryz
theorem Tq (w:World) [cG Tryz.prog w] (d:bY) (k:DK) (h:At w d k) (hb:d.next.length<9223372036854775807) (jy: ∀r∈d.next,r.length<9223372036854775807) (j6:d.aA.length<9223372036854775807) (hn:Valid d→d.next.length<10000):
  bs Tryz.prog 23 [dV d k] w fun v N=> ∃k':DK,v=.tuple #[dV (pV d) k',.int .i64 (bW d:Int)]∧N=[dI 56 4 3 (pV d) k']:=
 bw.dk (g:=fun x=>.tuple #[x,.int .i64 (bW d:Int)]) (XI w d k.nb k.fb k.nc k.fc (bO k.qs) h hb jy j6 hn)
theorem AI (w:World) [cG Tryz.prog w] (d:bY) (k:DK) (h:At w d k) (hv:Valid d) (hn:d.next.length<10000) {M:bY} (hM:fY d=M):
  bs Tryz.prog 23 [dV d k] w fun v N=> ∃k':DK,v=.tuple #[dV M k',.int .i64 0]∧N=[dI 56 4 3 M k']:=by
 have h1:=Tq w d k h (by have:=hv.n4;omega) hv.uQ (by have:=hv.fin;have:=hv.n4;omega) (fun _=>hn)
 rw[wI hv,hM,dr.2 hv]at h1
 exact h1
theorem Ni (w:World) [cG Tryz.prog w] (d:bY) (k:DK) (h:At w d k) (hb:d.next.length<9223372036854775807) (jy: ∀r∈d.next,r.length<9223372036854775807) (j6:d.aA.length<9223372036854775807) (hn:Valid d→d.next.length<10000):
  bs Tryz.prog 35 [dV d k] w fun v N=> ∃k':DK,v=.tuple #[dV (pV d) k',.int .i64 (bW d:Int)]∧N=[dI 56 4 3 (pV d) k']:=
 bw.dk (g:=fun x=>.tuple #[x,.int .i64 (bW d:Int)]) (U2 w d k.nb k.fb k.nc k.fc (bO k.qs) h hb jy j6 hn)
theorem O_ (w:World) [cG Tryz.prog w] (d:bY) (k:DK) (h:At w d k) (hv:Valid d) (hn:d.next.length<10000) {M:bY} (hM:fY d=M):
  bs Tryz.prog 35 [dV d k] w fun v N=> ∃k':DK,v=.tuple #[dV M k',.int .i64 0]∧N=[dI 56 4 3 M k']:=by
 have h1:=Ni w d k h (by have:=hv.n4;omega) hv.uQ (by have:=hv.fin;have:=hv.n4;omega) (fun _=>hn)
 rw[wI hv,hM,dr.2 hv]at h1
 exact h1
end Go.Proofs.YtgdbfideeeegmaaGreatDoor

namespace Go.Proofs.YtgdbfideeeegmaaGreatDoor
open Go.Lx Go.RowKit _root_.Go.Proofs.Tryz
end Go.Proofs.YtgdbfideeeegmaaGreatDoor

namespace Go.Proofs.YtgdbfideeeegmaaGreatDoor
open Go.Lx Go.RowKit _root_.Go.Proofs.Tryz
theorem A8 (w:World) [cG Tryz.prog w] (cb:Nat) (eb:Option Addr) (en ec vs B L:Nat) (eu:Sl w (aD cb) [.slice eb en ec,vI (vs:Int),vI (B:Int)]) (gm:vs≤6) (hL:2^vs=L) (iP:1≤B) (hB:B≤4096)
  (tr:Key→Nat→Key) (fin:Key→Bool) (start:Key) (Rp:Key→SR→Prop) (r0:SR) (fk fn ff:Value) (B5:Rp start r0) (Nn:r0.iH=[]) (pW: ∀k r,Rp k r→dD r.a=true∧dD r.b=true)
  (vU: ∀w1 k r,Inv w [] w1→Rp k r→(∀it∈r.iH,it.P w1)→dW Tryz.prog w1 fk [(.agg #[r.a,r.b])] [] (fun v O'=>v=str k∧O'=[]))
  (dU: ∀w1 k r x,Inv w [] w1→Rp k r→(∀it∈r.iH,it.P w1)→x<L→dW Tryz.prog w1 fn [(.agg #[r.a,r.b]),.int .u8 (x:Int)] [] (fun v N=> ∃r',v=(.agg #[r'.a,r'.b])∧N=r'.iH∧Rp (tr k x) r'))
  (ud: ∀w1 k r,Inv w [] w1→Rp k r→(∀it∈r.iH,it.P w1)→dW Tryz.prog w1 ff [(.agg #[r.a,r.b])] [] (fun v O'=>v=.bool (fin k)∧O'=[])):
  dq Tryz.prog w (.iface 163 (.agg #[])) 154 [(du (aD cb) 0),(.agg #[r0.a,r0.b]),fk,fn,ff] [] (fun v N=> ∃M k',v=dV M k'∧N=[dI 56 4 3 M k']∧fm (vs:Int) B M (fun u=>fin (u.foldl tr start))∧CT tr L start B) (¬CT tr L start B):=by
 refine dA func154 F ntmps154 F ?_
 have Lq:L≤64:=by rw[←hL];exact Nat.pow_le_pow_right (by decide) gm
 obtain⟨Vu,An⟩:=pW _ _ B5
 refine ai (aj F (cL (cs:=[r0.a,r0.b]) F F (fun z1=>?_)))
 refine aj F (aR aX F (fun z2=>?_))
 refine ae (ai (ad (cN 1 jq F fE F F F) (aj F (bH (m:=1) (parts:=[(0,_)]) (cs:=[r0.a,r0.b]) tA fE (by decide) (by kernel_rfl) F (fun z3=>?_)))))
 refine TO.qa F (ae (ai (aj F (lj str (fun n:Nat=>Value.int .i64 (n:Int)) (fun m4=>?_)))))
 refine ah F (ad (cN 3 jq F fE F F F) ?_)
 have ng:=(cF (O:=[df str (fun n:Nat=>Value.int .i64 (n:Int)) m4 [],ak (aD z3) 1 208 2 [r0.a,r0.b],oI z2 25 [(vI 0),(vI 0),nS,nS],oI z1 208 [r0.a,r0.b]]) fun w1 hI=>haveI:=dp hI;vU w1 start r0 hI.lY B5 (by rw[Nn];simp))
 refine aj F (dQ ng F F ?_)
 clear ng
 rintro vr O' ⟨N,rfl,rfl,rfl⟩
 refine aj F (fD (a:=start) (v:=(0:Nat)) 0 fV (e8.string rO) F F F F (by simp) ?_)
 refine ah F (TO.qa F (ae (ai (ah F (ad (aP F) (ad (bG kR F aM F F (aB eu) (by first|omega|(simp;done)|(simp;omega)|(simp_all;done)|(simp_all;omega))) (ad (bS dh F F (aB eu) F) (ad (bE (cs:=[vN vs,(vI 0),nS,nS]) gK aX (by kernel_rfl)) (aj F (aR aX F (fun z5=>?_)))))))))))
 refine aj F (bj (vs:=[vN vs,(vI 0),nS,nS]) 0 aX F F F F ?_)
 refine ae (ax (ai (TO.qa F (ae (aC (T.dt 4 1 ?_))))))
 refine T.dt 56 1 ?_
 refine cu (O':=[ak (aD z3) 1 208 2 (cR c2 [r0]),df str (fun n:Nat=>Value.int .i64 (n:Int)) m4 [start].zipIdx,ak none 0 56 1 (bO []),ak none 0 4 1 (aU []),oI z5 25 [vN vs,(vI 0),nS,nS],oI z2 25 [(vI 0),(vI 0),nS,nS],oI z1 208 [r0.a,r0.b]]++(bl 3 []++fq [r0])) (by rw[show fq [r0]=[] by simp[fq,Nn]];exact(au [4,3,0,0,0,0,0] F)) ?_
 refine cE (fun(s:Nat) ρ O=> ∃(ks:List Key) (qs:List SR) (rq:List Rec) (sb ob fb:Option Addr) (sc oc fc:Nat),O=([ak sb sc 208 2 (cR c2 qs),df str (fun n:Nat=>Value.int .i64 (n:Int)) m4 ks.zipIdx,ak ob oc 56 1 (bO rq),ak fb fc 4 1 (aU ((ks.take s).map fin)),oI z5 25 [vN vs,(vI 0),(.slice ob s oc),(.slice fb s fc)],oI z2 25 [(vI 0),(vI 0),nS,nS],oI z1 208 [r0.a,r0.b]]++(bl 3 rq++fq qs))∧uo tr L start s=ks∧xU tr L start ks∧Eb Rp ks qs∧ks.length≤B∧nM tr L ks s (nums rq)∧bZ [(0,(du (aD cb) 0)),(1,(.agg #[r0.a,r0.b])),(2,fk),(3,fn),(4,ff),(6,(.pointer (aD z1))),(10,(.pointer (aD z2))),(11,(.slice sb qs.length sc)),(12,(.map (some m4))),(13,(.pointer (aD z5))),(14,vN s)] ρ) (fun s=>B-s) 0 ?_ ?_
 ·exact⟨[start],[r0],[],(aD z3),none,none,1,0,0,F,F,xU.one _ _ _,Eb.one B5,by simpa using iP,⟨F,Nat.zero_le _,fun i hi=>absurd hi (by omega),fun i hi=>absurd hi (by omega)⟩,(.of F)⟩
 rintro s ρ O ⟨ks,qs,rq,sb,ob,fb,sc,oc,fc,rfl,nq,hF,hR,J_,hE,hH⟩
 obtain⟨eP,rfl⟩:=hH.elim
 clear hH
 have wO:=hR.1
 have yw:rq.length=s:=by have:=hE.len;simpa using this
 have Ha:=hE.le
 refine ax (ai (ah F (ah F (ad (bL tA F) (ad (bI F F) (ae (aw F (fun hc=>?_) (fun hc=>?_))))))))
 ·have oM:s<qs.length:=by omega
  have Ka:s<ks.length:=by omega
  refine aq (ax (aC (ai (ah F (ad (aP F) (ad (bG kR F aM F F (aB eu) (by first|omega|(simp;done)|(simp;omega)|(simp_all;done)|(simp_all;omega))) (ad (bS dh F F (aB eu) F) (ad (a8 (mJ (v:=vs) F F (by omega)) (v':=vN L) (by rw[hL])) (aj F (bV (m:=L) bT aM F F (by omega) (by omega) (fun z6=>?_)))))))))))
  refine TO.qa F (ae (ax (ai (ah F (ad (bL bT F) (ah F (ae (aC ?_))))))))
  refine cE (fun(x:Nat) ρ O=> ∃(cV:List Key) (eg:List SR) (ys:List Int) (tb:Option Addr) (tc:Nat),O=([ak (aD z6) L 3 1 (ints ys),ak tb tc 208 2 (cR c2 eg),df str (fun n:Nat=>Value.int .i64 (n:Int)) m4 cV.zipIdx,ak ob oc 56 1 (bO rq),ak fb fc 4 1 (aU ((ks.take s).map fin)),oI z5 25 [vN vs,(vI 0),(.slice ob s oc),(.slice fb s fc)],oI z2 25 [(vI 0),(vI 0),nS,nS],oI z1 208 [r0.a,r0.b]]++(bl 3 rq++fq eg))∧x≤L∧ys.length=L∧xU tr L start cV∧Eb Rp cV eg∧cV.length≤B∧cV=((List.range x).map (tr (ks.getD s []))).foldl add ks∧(∀i,i<x→ys[i]? =some ((ix (tr (ks.getD s []) i) cV:Nat):Int))∧bZ [(0,(du (aD cb) 0)),(1,(.agg #[r0.a,r0.b])),(2,fk),(3,fn),(4,ff),(6,(.pointer (aD z1))),(10,(.pointer (aD z2))),(11,(.slice tb eg.length tc)),(12,(.map (some m4))),(13,(.pointer (aD z5))),(14,vN s),(15,(.slice (aD z6) L L)),(45,vI (L:Int)),(46,vN x)] ρ) (fun x=>L-x) 0 ?_ ?_
  ·exact⟨ks,qs,List.replicate L 0,sb,sc,by simp,Nat.zero_le _,by simp,hF,hR,J_,F,fun i hi=>absurd hi (by omega),(.of F)⟩
  rintro x ρ O ⟨cV,eg,ys,tb,tc,rfl,hx,yN,Ec,sx,A_,l7,wS,hH⟩
  obtain⟨eP,rfl⟩:=hH.elim
  clear hH
  have og:ks<+:cV:=l7▸eY _ _
  have mP:cV.getD s []=ks.getD s []:=jr og Ka
  have Pk:=og.length_le
  have Ba:=sx.1
  have p6:s<eg.length:=by omega
  have H5:=sx.2 s p6
  rw[mP]at H5
  refine ai (ad (bI F F) (ae (ax (aw F (fun hc=>?_) (fun hc=>?_)))))
  ·have mv:x<L:=by omega
   have B6:x<L:=by omega
   have Ed:ks.getD s []∈cV:=by rw[←mP,List.getD_eq_getElem?_getD,List.getElem?_eq_getElem (by omega),Option.getD_some];exact List.getElem_mem _
   refine aq (ax (aC (ai (ah F (TO.qa F (ae (ai (ah F (ah F (ah F (ad (db (i:=s) tA fE F F (cw (mG 1 F)) p6 (by rw[gC (f:=c2) (n:=2) (fun _=>rfl)];omega)) (ad (dT (vs:=[eg[s].a,eg[s].b]) jq F fE F F (Nat.succ_pos _) (cw (mG 1 F)) (Ee p6)) (ah F (ad (ef dh eC F (mm (by omega))) ?_))))))))))))))
   have vS:=(cF (O:=([ak (aD z6) L 3 1 (ints ys),ak tb tc 208 2 (cR c2 eg),df str (fun n:Nat=>Value.int .i64 (n:Int)) m4 cV.zipIdx,ak ob oc 56 1 (bO rq),ak fb fc 4 1 (aU ((ks.take s).map fin)),oI z5 25 [vN vs,(vI 0),(.slice ob s oc),(.slice fb s fc)],oI z2 25 [(vI 0),(vI 0),nS,nS],oI z1 208 [r0.a,r0.b]]++(bl 3 rq++fq eg))) fun w1 hI=>haveI:=dp hI;dU w1 (ks.getD s []) eg[s] x hI.lY H5 (fun it di=>hI.holds it (List.mem_append_right _ (List.mem_append_right _ (nh p6 di)))) B6)
   refine aj F (dQ vS F F ?_)
   clear vS
   rintro vr O' ⟨N9,rfl,r9,rfl,rfl,B7⟩
   obtain⟨No,Rj⟩:=pW _ _ B7
   refine bM (O':=([ak (aD z6) L 3 1 (ints ys),ak tb tc 208 2 (cR c2 eg),df str (fun n:Nat=>Value.int .i64 (n:Int)) m4 cV.zipIdx,ak ob oc 56 1 (bO rq),ak fb fc 4 1 (aU ((ks.take s).map fin)),oI z5 25 [vN vs,(vI 0),(.slice ob s oc),(.slice fb s fc)],oI z2 25 [(vI 0),(vI 0),nS,nS],oI z1 208 [r0.a,r0.b]]++(r9.iH++(bl 3 rq++fq eg)))) (by exact cQ [] _ r9.iH (bl 3 rq++fq eg)) ?_
   refine aj F (aR fE F (fun z7=>?_))
   refine aj F (sH (v:=(.agg #[r9.a,r9.b])) (vs:=[r9.a,r9.b]) 0 fE F F F F (by simp[No,Rj]) F (by simp[dl]) ?_)
   refine ae (ai (ah F (ah F (ad (cN 0 jq F fE F F F) ?_))))
   have vG:=(cF (O:=([oI z7 208 [r9.a,r9.b],ak (aD z6) L 3 1 (ints ys),ak tb tc 208 2 (cR c2 eg),df str (fun n:Nat=>Value.int .i64 (n:Int)) m4 cV.zipIdx,ak ob oc 56 1 (bO rq),ak fb fc 4 1 (aU ((ks.take s).map fin)),oI z5 25 [vN vs,(vI 0),(.slice ob s oc),(.slice fb s fc)],oI z2 25 [(vI 0),(vI 0),nS,nS],oI z1 208 [r0.a,r0.b]]++(r9.iH++(bl 3 rq++fq eg)))) fun w1 hI=>haveI:=dp hI;vU w1 (tr (ks.getD s []) x) r9 hI.lY B7 (fun it di=>hI.holds it (List.mem_append_right _ (List.mem_append_left _ di))))
   refine aj F (dQ vG F F ?_)
   clear vG
   rintro vr O' ⟨N,rfl,rfl,rfl⟩
   refine ad (a8 (jg (a:=tr (ks.getD s []) x) fV aM (e8.string rO) F F (mG 3 F)) (v':=(.tuple #[vN (if tr (ks.getD s []) x∈cV then ix (tr (ks.getD s []) x) cV else 0),.bool (decide (tr (ks.getD s []) x∈cV))])) (by rw[kE];generalize tr (ks.getD s []) x=k9;by_cases h9:k9∈cV<;>simp[h9])) (ah F (ad (bm (vs:=_) F F) (ad (bm (vs:=_) F F) (TO.qa F (TO.qa F (ae (ax (ai (ah F (ad (f_ F) (ae (T.cond F (fun hc=>?_) (fun hc=>?_)))))))))))))
   ·have xV:tr (ks.getD s []) x∉cV:=by simpa using hc
    have iW:=yO xV
    refine ai (ah F (ad (bL tA F) (TO.qa F (ae (ai (ah F (ah F (ad (cN 0 jq F fE F F F) ?_))))))))
    have vV:=(cF (O:=([oI z7 208 [r9.a,r9.b],ak (aD z6) L 3 1 (ints ys),ak tb tc 208 2 (cR c2 eg),df str (fun n:Nat=>Value.int .i64 (n:Int)) m4 cV.zipIdx,ak ob oc 56 1 (bO rq),ak fb fc 4 1 (aU ((ks.take s).map fin)),oI z5 25 [vN vs,(vI 0),(.slice ob s oc),(.slice fb s fc)],oI z2 25 [(vI 0),(vI 0),nS,nS],oI z1 208 [r0.a,r0.b]]++(r9.iH++(bl 3 rq++fq eg)))) fun w1 hI=>haveI:=dp hI;vU w1 (tr (ks.getD s []) x) r9 hI.lY B7 (fun it di=>hI.holds it (List.mem_append_right _ (List.mem_append_left _ di))))
    refine aj F (dQ vV F F ?_)
    clear vV
    rintro vr O' ⟨N,rfl,rfl,rfl⟩
    refine ah F (aj F (oD (a:=tr (ks.getD s []) x) (v:=eg.length) 3 fV (e8.string rO) F F F F (by rw[lO];exact xV) ?_))
    refine ae (ai (ah F (ad (cN 0 jq F fE F F F) (aj F (bH (m:=1) (parts:=[(0,_)]) (cs:=[r9.a,r9.b]) tA fE (by decide) (by kernel_rfl) F (fun z8=>?_))))))
    refine aj F (bX 3 tA tA fE F F F F (by rw[gC (f:=c2) (n:=2) (fun _=>rfl)]) (by decide) (Src.row (j:=0) F (by simp)) (by simp[No,Rj]) (by omega) (by decide) (by decide) (fun z9 k_=>?_))
    refine TO.qa F (ae (ai (ah F (ah F (ad (aP F) (ad (bG kR F aM F F (aB eu) (by first|omega|(simp;done)|(simp;omega)|(simp_all;done)|(simp_all;omega))) (ad (bS dh F F (aB eu) F) (ad (gW F F) (ae (aw F (fun hc=>?_) (fun hc=>?_)))))))))))
    ·have Np:eg.length≥B:=by omega
     refine aH (ad (bE r5 vT F) (ad (nf A6 F) ?_))
     exact dP F (r8 F (fun _=>⟨F,(Ec.add Ed B6).Pl (by rw[iW];simp;omega)⟩))
    have Nq: ¬eg.length≥B:=by omega
    refine aq (aH (ah F (ah F (ah F (ad (cq (i:=x) bT aM F F (cw (mG 2 F)) (by omega) (by rw[List.length_map];omega)) (aj F (jW (j:=x) (v:=vI (eg.length:Int)) (vs:=[(vI (eg.length:Int))]) (cs:=ints ys) 2 aM F F F F F (by simp) F (by first|(simp;omega)|(simp_all;omega)) ?_)))))))
    refine bM (O':=([ak (aD z8) 1 208 2 [r9.a,r9.b],oI z7 208 [r9.a,r9.b],ak (aD z6) L 3 1 (ints (ys.set x ((ix (tr (ks.getD s []) x) (add cV (tr (ks.getD s []) x)):Nat):Int))),ak z9 k_ 208 2 ((cR c2 eg)++[r9.a,r9.b]),df str (fun n:Nat=>Value.int .i64 (n:Int)) m4 (cV.zipIdx++[(tr (ks.getD s []) x,eg.length)]),ak ob oc 56 1 (bO rq),ak fb fc 4 1 (aU ((ks.take s).map fin)),oI z5 25 [vN vs,(vI 0),(.slice ob s oc),(.slice fb s fc)],oI z2 25 [(vI 0),(vI 0),nS,nS],oI z1 208 [r0.a,r0.b]]++(r9.iH++(bl 3 rq++fq eg)))) (by rw[show dl (ints ys) x [(vI (eg.length:Int))]=ints (ys.set x ((ix (tr (ks.getD s []) x) (add cV (tr (ks.getD s []) x)):Nat):Int))from(by rw[iW,ep xV,show ix (tr (ks.getD s []) x) [tr (ks.getD s []) x]=0 by simp[ix],Nat.add_zero,←Ba];simp[dl])];exact a_ (List.Sublist.refl _)) ?_
    refine ae (aH (ad (cj (a:=x) (b:=1) F F (by omega)) (ah F (ae ?_))))
    have xa: ∀y,y<x→tr (ks.getD s []) y∈cV:=fun y hy=>by rw[l7,dj];exact .inr (List.mem_map_of_mem (List.mem_range.2 hy))
    have vW: ∀i,i<x+1→(ys.set x ((ix (tr (ks.getD s []) x) (add cV (tr (ks.getD s []) x)):Nat):Int))[i]? =some ((ix (tr (ks.getD s []) i) (add cV (tr (ks.getD s []) x)):Nat):Int):=fun i hi=>by
     by_cases e:i=x
     ·subst e;rw[List.getElem?_set_self (by omega)]
     ·rw[List.getElem?_set_ne (fun h=>e h.symm),wS i (by omega),fM (gD _ _) (xa i (by omega))]
    have tw:=sx.snoc B7
    rw[←iW]at tw
    have Tx:=Ec.add Ed B6
    exact⟨x+1,by omega,[ak (aD z6) L 3 1 (ints (ys.set x ((ix (tr (ks.getD s []) x) (add cV (tr (ks.getD s []) x)):Nat):Int))),ak z9 k_ 208 2 (cR c2 (eg++[r9])),df str (fun n:Nat=>Value.int .i64 (n:Int)) m4 ((add cV (tr (ks.getD s []) x)).zipIdx),ak ob oc 56 1 (bO rq),ak fb fc 4 1 (aU ((ks.take s).map fin)),oI z5 25 [vN vs,(vI 0),(.slice ob s oc),(.slice fb s fc)],oI z2 25 [(vI 0),(vI 0),nS,nS],oI z1 208 [r0.a,r0.b]]++(bl 3 rq++fq (eg++[r9])),(by rw[sR,o4,iW,show(cV++[tr (ks.getD s []) x]).zipIdx=cV.zipIdx++[(tr (ks.getD s []) x,eg.length)] by rw[List.zipIdx_append,Ba];simp];exact qO _ _ _ _ _ (by exact Sub.d (.d (.k (.k (.k (.k (.k (.k (.k (.k .z))))))))))),add cV (tr (ks.getD s []) x),eg++[r9],_,z9,k_,F,by omega,by simp[yN],Tx,tw,by rw[iW];simp;omega,by rw[fF,←l7],vW,⟨F,F,F,F,F,F,F,(show Value.slice z9 (eg.length+1) k_=_ by rw[List.length_append];rfl),F,F,F,F,F,F,trivial⟩⟩
   have xV:tr (ks.getD s []) x∈cV:=by simpa using hc
   have iW:=yP xV
   refine aq (aH (ah F (ah F (ah F (ad (cq (i:=x) bT aM F F (cw (mG 1 F)) (by omega) (by rw[List.length_map];omega)) (aj F (jW (j:=x) (v:=vN (if tr (ks.getD s []) x∈cV then ix (tr (ks.getD s []) x) cV else 0)) (vs:=[(vN (if tr (ks.getD s []) x∈cV then ix (tr (ks.getD s []) x) cV else 0))]) (cs:=ints ys) 1 aM F F F F F (by simp) F (by first|(simp;omega)|(simp_all;omega)) ?_)))))))
   refine bM (O':=([oI z7 208 [r9.a,r9.b],ak (aD z6) L 3 1 (ints (ys.set x ((ix (tr (ks.getD s []) x) (add cV (tr (ks.getD s []) x)):Nat):Int))),ak tb tc 208 2 (cR c2 eg),df str (fun n:Nat=>Value.int .i64 (n:Int)) m4 cV.zipIdx,ak ob oc 56 1 (bO rq),ak fb fc 4 1 (aU ((ks.take s).map fin)),oI z5 25 [vN vs,(vI 0),(.slice ob s oc),(.slice fb s fc)],oI z2 25 [(vI 0),(vI 0),nS,nS],oI z1 208 [r0.a,r0.b]]++(r9.iH++(bl 3 rq++fq eg)))) (by rw[show dl (ints ys) x [(vN (if tr (ks.getD s []) x∈cV then ix (tr (ks.getD s []) x) cV else 0))]=ints (ys.set x ((ix (tr (ks.getD s []) x) (add cV (tr (ks.getD s []) x)):Nat):Int))from(by rw[iW,if_pos xV];simp[dl])];exact a_ (List.Sublist.refl _)) ?_
   refine ae (aH (ad (cj (a:=x) (b:=1) F F (by omega)) (ah F (ae ?_))))
   have xa: ∀y,y<x→tr (ks.getD s []) y∈cV:=fun y hy=>by rw[l7,dj];exact .inr (List.mem_map_of_mem (List.mem_range.2 hy))
   have vW: ∀i,i<x+1→(ys.set x ((ix (tr (ks.getD s []) x) (add cV (tr (ks.getD s []) x)):Nat):Int))[i]? =some ((ix (tr (ks.getD s []) i) (add cV (tr (ks.getD s []) x)):Nat):Int):=fun i hi=>by
    by_cases e:i=x
    ·subst e;rw[List.getElem?_set_self (by omega)]
    ·rw[List.getElem?_set_ne (fun h=>e h.symm),wS i (by omega),fM (gD _ _) (xa i (by omega))]
   have tw:=sx
   rw[←iW]at tw
   exact⟨x+1,by omega,[ak (aD z6) L 3 1 (ints (ys.set x ((ix (tr (ks.getD s []) x) (add cV (tr (ks.getD s []) x)):Nat):Int))),ak tb tc 208 2 (cR c2 eg),df str (fun n:Nat=>Value.int .i64 (n:Int)) m4 ((add cV (tr (ks.getD s []) x)).zipIdx),ak ob oc 56 1 (bO rq),ak fb fc 4 1 (aU ((ks.take s).map fin)),oI z5 25 [vN vs,(vI 0),(.slice ob s oc),(.slice fb s fc)],oI z2 25 [(vI 0),(vI 0),nS,nS],oI z1 208 [r0.a,r0.b]]++(bl 3 rq++fq eg),(by rw[iW];exact cW _ _ _ _ (by exact Sub.d (.k (.k (.k (.k (.k (.k (.k (.k .z)))))))))),add cV (tr (ks.getD s []) x),eg,_,tb,tc,F,by omega,by simp[yN],Ec.add Ed B6,tw,by rw[iW];exact A_,by rw[fF,←l7],vW,(.of F)⟩
  have mw: ¬x<L:=by omega
  refine bn ?_
  refine T.ds [ak tb tc 208 2 (cR c2 eg),oI z5 25 [vN vs,(vI 0),(.slice ob s oc),(.slice fb s fc)]] [(0,0),(1,0),(2,0),(5,0),(6,0),(7,0),(8,0),(9,0),(10,0),(11,0),(3,1),(4,1),(15,0),(12,1),(13,1),(14,1),(16,2),(17,2),(18,2)] (by exact Sub.d (.k (.d (.d (.d (.k .z)))))) ?_
  refine am F (aJ cy F cU F F) (am F (aO 1 dB F F F F) (am F (aF F) (am F (aJ cy F ce F F) (am F (aO 1 dF F F F F) (am F (aF F) (am F (aF F) (am F (aF F) (am F (db (i:=s) tA fE F F (cw (mG 0 F)) p6 (by rw[gC (f:=c2) (n:=2) (fun _=>rfl)];omega)) (am F (dT (vs:=[eg[s].a,eg[s].b]) jq F fE F F (Nat.succ_pos _) (cw (mG 0 F)) (Ee p6)) ?_)))))))))
  refine bJ F F (bN (v:=(.slice (aD z6) L L)) dB bP F F F (fun mM=>⟨by exact Sub.d (.d (.k (.d (.d (.d (.k .z)))))),?_⟩))
  refine bJ F F (bX 4 dB dB bP F F F F (by simp;omega) (by decide) (Src.row (j:=0) F (by simp)) (by simp[dD]) (by omega) (by decide) (by decide) (fun z12 nN=>⟨by exact Sub.d (.d (.k (.d (.d (.d (.k .z)))))),?_⟩))
  refine am F (aJ cy F cU F F) ?_
  have tB:=(cF (O:=([ak (aD mM) 1 56 1 [(.slice (aD z6) L L)],ak (aD z6) L 3 1 (ints ys),ak tb tc 208 2 (cR c2 eg),df str (fun n:Nat=>Value.int .i64 (n:Int)) m4 cV.zipIdx,ak z12 nN 56 1 ((bO rq)++[(.slice (aD z6) L L)]),ak fb fc 4 1 (aU ((ks.take s).map fin)),oI z5 25 [vN vs,(vI 0),(.slice ob s oc),(.slice fb s fc)],oI z2 25 [(vI 0),(vI 0),nS,nS],oI z1 208 [r0.a,r0.b]]++(bl 3 rq++fq eg))) fun w1 hI=>haveI:=dp hI;ud w1 (ks.getD s []) eg[s] hI.lY H5 (fun it di=>hI.holds it (List.mem_append_right _ (List.mem_append_right _ (nh p6 di)))))
  refine bJ F F (dQ tB F F ?_)
  clear tB
  rintro vr O' ⟨N,rfl,rfl,rfl⟩
  refine⟨by exact Sub.d (.d (.k (.d (.d (.d (.k .z)))))),?_⟩
  refine bJ F F (bN (v:=.bool (fin (ks.getD s []))) dF dc F F F (fun uy=>⟨by exact Sub.d (.d (.d (.k (.d (.d (.d (.k .z))))))),?_⟩))
  refine bJ F F (bX 6 dF dF dc F F F F (by simp;omega) (by decide) (Src.row (j:=0) F (by simp)) (by simp[dD]) (by omega) (by decide) (by decide) (fun vL o5=>⟨by exact Sub.d (.d (.d (.k (.d (.d (.d (.k .z))))))),?_⟩))
  refine bq F F (bj (vs:=[(.slice z12 (s+1) nN)]) 7 cU F F F F ?_)
  refine bq F F (dG F F (aJ cy F ce F F) ?_)
  refine bq F F (bj (vs:=[(.slice vL (s+1) o5)]) 7 ce F F F F ?_)
  refine bu ?_
  have j8:aU ((cV.take (s+1)).map fin)=aU ((ks.take s).map fin)++[.bool (fin (ks.getD s []))]:=by
   rw[List.take_succ_eq_append_getElem (by omega:s<cV.length),List.map_append,show cV.take s=ks.take s by obtain⟨t9,rfl⟩:=og;rw[List.take_append_of_le_length (by omega)],←mP,show cV.getD s []=cV[s] by rw[List.getD_eq_getElem?_getD,List.getElem?_eq_getElem (by omega),Option.getD_some]]
   simp
  refine cu (O':=[ak tb tc 208 2 (cR c2 eg),df str (fun n:Nat=>Value.int .i64 (n:Int)) m4 cV.zipIdx,ak z12 nN 56 1 (bO (rq++[⟨(aD z6),L,ys⟩])),ak vL o5 4 1 (aU ((cV.take (s+1)).map fin)),oI z5 25 [vN vs,(vI 0),(.slice z12 (s+1) nN),(.slice vL (s+1) o5)],oI z2 25 [(vI 0),(vI 0),nS,nS],oI z1 208 [r0.a,r0.b]]++(bl 3 (rq++[⟨(aD z6),L,ys⟩])++fq eg)) (by
   rw[j8,show bO (rq++[⟨(aD z6),L,ys⟩])=(bO rq)++[(.slice (aD z6) L L)] by simp[Rec.val,yN],show bl 3 (rq++[⟨(aD z6),L,ys⟩])=bl 3 rq++[ak (aD z6) L 3 1 (ints ys)] by simp[bl,Rec.lZ]]
   exact my [ak tb tc 208 2 (cR c2 eg),df str (fun n:Nat=>Value.int .i64 (n:Int)) m4 cV.zipIdx,ak z12 nN 56 1 ((bO rq)++[(.slice (aD z6) L L)]),ak vL o5 4 1 ((aU ((ks.take s).map fin))++[.bool (fin (ks.getD s []))]),oI z5 25 [vN vs,(vI 0),(.slice z12 (s+1) nN),(.slice vL (s+1) o5)],oI z2 25 [(vI 0),(vI 0),nS,nS],oI z1 208 [r0.a,r0.b]] [ak (aD uy) 1 4 1 [.bool (fin (ks.getD s []))],ak (aD mM) 1 56 1 [(.slice (aD z6) L L)],ak (aD z6) L 3 1 (ints ys),ak tb tc 208 2 (cR c2 eg),df str (fun n:Nat=>Value.int .i64 (n:Int)) m4 cV.zipIdx,ak z12 nN 56 1 ((bO rq)++[(.slice (aD z6) L L)]),ak vL o5 4 1 ((aU ((ks.take s).map fin))++[.bool (fin (ks.getD s []))]),oI z5 25 [vN vs,(vI 0),(.slice z12 (s+1) nN),(.slice vL (s+1) o5)],oI z2 25 [(vI 0),(vI 0),nS,nS],oI z1 208 [r0.a,r0.b]] (bl 3 rq) (fq eg) (ak (aD z6) L 3 1 (ints ys)) (by exact Sub.d (.d (.dL [ak (aD z6) L 3 1 (ints ys)] _ (.dL [ak (aD z6) L 3 1 (ints ys)] _ (.dL [ak (aD z6) L 3 1 (ints ys)] _ (.dL [ak (aD z6) L 3 1 (ints ys)] _ (.dL [ak (aD z6) L 3 1 (ints ys)] _ (.dL [ak (aD z6) L 3 1 (ints ys)] _ (.dL [ak (aD z6) L 3 1 (ints ys)] _ (.k .z))))))))))) ?_
  refine aH (ah F (ad (cj (a:=s) (b:=1) F F (by omega)) (TO.qa F (ae ?_))))
  have wX:x=L:=by omega
  have Lr:ys=iM tr L cV s:=by
   apply List.ext_getElem?
   intro i
   by_cases hi:i<L
   ·rw[wS i (by omega)];simp only[iM,mP];simp[hi]
   ·rw[List.getElem?_eq_none (by omega),List.getElem?_eq_none (by simp[iM];omega)]
  have xa: ∀y,y<L→tr (ks.getD s []) y∈cV:=fun y hy=>by rw[l7,dj];exact .inr (List.mem_map_of_mem (List.mem_range.2 (by omega)))
  have KQ:nM tr L cV (s+1) (nums (rq++[⟨(aD z6),L,ys⟩])):=by
   have:=hE.snoc og Ka Lr (by rw[mP];exact xa)
   simpa[nums]using this
  exact⟨s+1,by omega,_,a_ (List.Sublist.refl _),cV,eg,rq++[⟨(aD z6),L,ys⟩],tb,z12,vL,tc,nN,o5,F,by rw[uo,nq,l7,wX],Ec,sx,A_,KQ,(.of F)⟩
 have oN: ¬s<qs.length:=by omega
 refine bn ?_
 refine ax ?_
 have B4:s=ks.length:=by omega
 have nL:rq.length=(nums rq).length:=by simp
 obtain⟨W,hW⟩: ∃W,W=FK vs (nums rq) (ks.map fin):=⟨_,F⟩
 have yQ:HasL (vs:Int) ks.length W (fun u=>fin (u.foldl tr start)):=by rw[hW];exact yR gm (by rw[hL];exact hF) (by rw[hL,←B4];exact hE) (by omega)
 have e1:nums rq=W.next:=by rw[hW];rfl
 have e2:(ks.take s).map fin=W.aA:=by rw[hW,List.take_of_length_le (by omega)];rfl
 have e3:(vs:Int)=W.vars:=by rw[hW];rfl
 have e4:(0:Int)=W.start:=by rw[hW];rfl
 have e5:s=W.next.length:=by rw[←e1,←nL];omega
 have e6:s=W.aA.length:=by rw[yQ.valid.fin,←e5]
 obtain⟨M,hM⟩: ∃m,fY W=m:=⟨_,F⟩
 have Ef:fm (vs:Int) ks.length M (fun u=>fin (u.foldl tr start)):=hM▸yQ.rn
 obtain⟨z9,Pm⟩: ∃z:DK,z=⟨ob,oc,fb,fc,rq⟩:=⟨_,F⟩
 refine cu (O':=([ak ob oc 56 1 (bO rq),ak fb fc 4 1 (aU ((ks.take s).map fin)),oI z5 25 [vN vs,(vI 0),(.slice ob s oc),(.slice fb s fc)],oI z2 25 [(vI 0),(vI 0),nS,nS],oI z1 208 [r0.a,r0.b]]++bl 3 rq)) (o6 _ _ _ _ (by exact Sub.d (.d (.k (.k (.k (.k (.k .z)))))))) ?_
 refine cu (O':=(([ak ob oc 56 1 (bO rq),ak fb fc 4 1 (aU W.aA)]++bl 3 rq)++[oI z5 25 [(vI W.vars),(vI W.start),(.slice ob W.next.length oc),(.slice fb W.aA.length fc)],oI z2 25 [(vI 0),(vI 0),nS,nS],oI z1 208 [r0.a,r0.b]])) (by rw[←e5,←e6,←e2,←e3,←e4];exact dm [ak ob oc 56 1 (bO rq),ak fb fc 4 1 (aU ((ks.take s).map fin))] (bl 3 rq) [oI z5 25 [vN vs,(vI 0),(.slice ob s oc),(.slice fb s fc)],oI z2 25 [(vI 0),(vI 0),nS,nS],oI z1 208 [r0.a,r0.b]]) ?_
 refine oE (φ:=nums rq=W.next) e1 ?_
 refine cu (O':=[dI 56 4 3 W z9,oI z5 25 (dC W z9),oI z2 25 [(vI 0),(vI 0),nS,nS],oI z1 208 [r0.a,r0.b]]) (by subst Pm;exact Sub.rf) ?_
 refine aH (ah F (ad (cN 1 cy F aX F F F) (aj F (aI xO (aE fun w1 hI=>(haveI:=dp hI;AI w1 W z9 (hI.at (k:=z9) (mG 0 F)) yQ.valid (by have:=yQ.valid.n4;omega) (M:=M) hM)) F ?_))))
 rintro vr O' ⟨N,rfl,k9,rfl,rfl⟩
 refine ad (bm (vs:=_) F F) (ad (bm (vs:=_) F F) ?_)
 have tC:=fun(w1:World) (hI:Inv w [dI 56 4 3 M k9,dI 56 4 3 W z9,oI z5 25 (dC W z9),oI z2 25 [(vI 0),(vI 0),nS,nS],oI z1 208 [r0.a,r0.b]] w1)=>(haveI:=dp hI;rZ w1 cb eb en ec vs B (hI.sl eu) M k9 0)
 refine dP F (fA yS (dq.pure tC) F (fun z _=>⟨F,fun _=>z ⟨F,by have:=Ef.len;omega⟩⟩) ?_)
 clear tC
 rintro vr O' ⟨N,rfl,rfl,rfl,_,FL⟩
 refine aj F (bj (vs:=(dC M k9)) 3 aX F F F F ?_)
 refine ae (az (ao ?_))
 refine bf (i:=3) Tryz.results154 cy F aX F F F ?_
 exact⟨[dI 56 4 3 M k9],(by exact Sub.k .z),M,k9,F,F,⟨Ef.toHasL.le FL,Ef.min⟩,vX hF (B4▸hE) J_⟩
end Go.Proofs.YtgdbfideeeegmaaGreatDoor

namespace Go.Proofs.YtgdbfideeeegmaaGreatDoor
open Go.Lx Go.RowKit _root_.Go.Proofs.Tryz
theorem Eg (w:World) [cG Tryz.prog w] (lb:Option Addr) (lc:Nat) (l:List Int) (hL:Sl w lb (ints l)) (hn: ∀n∈l,lg n) (hm:13*l.length≤800000):
  bs Tryz.prog 112 [nS,.slice lb l.length lc] w fun v N=> ∃b' c',v=.slice b' (gB l).length c'∧N=[ak b' c' 5 1 (cd (gB l))]:=by
 refine bw.dt 5 1 ?_
 have h:=Nj w none lb 0 0 lc [] l F hL hn (by omega)
 rw[Nat.zero_add,List.nil_append]at h
 exact h
theorem H6 (base:World) [cG Tryz.prog base] (a:bY) (ka:DK) (ha:At base a ka) (va:Valid a) (za:Nat) (r_:Sl base (aD za) (dC a ka)) (b:bY) (kb:DK) (hb:At base b kb) (vb:Valid b) (zb:Nat) (Eh:Sl base (aD zb) (dC b kb)) (s:Nat) (hs:s<a.next.length) (sb:Option Addr) (c cv:Nat) (l:List Nat) (Gp:l.Pairwise (· < ·)) (yU: ∀t∈l,t<b.next.length):
  bw Tryz.prog base 153 [.agg #[vI ((s:Nat):Int),.slice sb l.length cv],(du (aD za) 0),(du (aD zb) 0)] [ak sb c 3 1 (aQ l)] (fun v O'=> ∃b' c' c2,v=.agg #[vI ((s:Nat):Int),.slice b' (tF a b s l).length c']∧O'=[ak b' c2 3 1 (aQ (tF a b s l))]):=by
 refine av func153 F ntmps153 F ?_
 refine ai (aj F (cL (cs:=[vI ((s:Nat):Int),(.slice sb l.length cv)]) F F (fun z1=>?_)))
 refine aj F (aR fE F (fun z2=>?_))
 refine ae (ax (ai (ad (bG cy F ce F F (aB r_) (by show _<4;decide)) (ad (bS dF F F (aB r_) F) (ad (aJ jq F aM F F) (ad (aO 1 dh F F F F) (ad (cq (i:=s) dF dc F F (aB ha.aA) (by rw[va.fin];exact hs) (by rw[List.length_map,va.fin];exact hs)) (ad (bS oe F F (aB ha.aA) (l_ va hs)) (ae (T.cond F (fun hc=>?_) (fun hc=>?_)))))))))))
 ·refine aH ?_
  refine ad (aJ jq F bP F F) (ad (aO 1 bT F F F F) (ad (bG cy F aM F F (aB Eh) (by show _<4;decide)) (ad (bS dh F F (aB Eh) (show _=some (Value.int .i64 ((b.start.toNat:Nat):Int)) by rw[Int.toNat_of_nonneg vb.s0];rfl)) (aj F (aI H7 (jX [2] (Nl base b.next.length sb c cv l b.start.toNat Gp yU (dH vb.toVal) (by have:=dR (Gp.imp fun h=>Nat.ne_of_lt h) yU;have:=vb.n4;omega))) F ?_)))))
  rintro vr O' ⟨A1,rfl,wb,wc,Ty,rfl,rfl⟩
  refine ad (aJ jq F bP F F) (aj F (bj (vs:=[(.slice wb ((yM b.next.length l b.start.toNat).length) wc)]) 2 bP F F F F ?_))
  refine ae (ai (ad (cN 2 jq F fE F F F) (aj F (bj (vs:=[vI ((s:Nat):Int),(.slice wb ((yM b.next.length l b.start.toNat).length) wc)]) 1 fE F F F F ?_))))
  refine ae (az (ao ?_))
  refine bf (i:=1) Tryz.results153 jq F fE F F F ?_
  exact⟨[ak wb Ty 3 1 (aQ (yM b.next.length l b.start.toNat))],(by exact Sub.k .z),wb,wc,Ty,by unfold tF;rw[if_pos hc];rfl,by unfold tF;rw[if_pos hc]⟩
 refine aq (ai (ad (cN 1 jq F fE F F F) (aj F (bj (vs:=[vI ((s:Nat):Int),(.slice sb l.length cv)]) 0 fE F F F F ?_))))
 refine ae (az (ao ?_))
 refine bf (i:=0) Tryz.results153 jq F fE F F F ?_
 exact⟨[ak sb c 3 1 (aQ l)],(by exact Sub.d (.d (.k .z))),sb,cv,c,by unfold tF;rw[if_neg (by rw[hc];simp)];rfl,by unfold tF;rw[if_neg (by rw[hc];simp)]⟩
theorem Ls (w:World) [cG Tryz.prog w] (s:Nat) (hs:s<4096) (sb:Option Addr) (c:Nat) (l:List Nat) (hS:Sl w sb (aQ l)) (hl: ∀t∈l,t<4096) (yU:l.length≤4096):
  bs Tryz.prog 155 [.agg #[vI ((s:Nat):Int),.slice sb l.length c]] w fun v N=>v=str (xW (s,l))∧N=[]:=by
 refine av func155 F ntmps155 F ?_
 let dS:List Value:=[vI ((s:Nat):Int),(.slice sb l.length c)]
 refine ai (aj F (cL (cs:=dS) F F (fun z1=>?_)))
 refine TO.qa F (ae (ax ?_))
 refine dO [(0,0),(1,0),(4,0),(5,0),(2,1),(3,1),(6,2),(7,2),(8,2)] ?_
 refine am F (aJ jq F aM F F) (am F (aO 0 dh F F F F) (am F (aJ jq F bP F F) (am F (aO 0 bT F F F F) ?_)))
 refine bJ F F (bN (v:=vI ((s:Nat):Int)) bT aM F F F (fun z2=>⟨by exact Sub.d (.k .z),?_⟩))
 refine bJ F F (aI sS (aE fun w1 hI=>(haveI:=dp hI;Eg w1 (aD z2) 1 [(s:Int)] (hI.eV (mG 0 F)) (fun n hn=>by simp at hn;subst hn;exact lP (by omega)) (by simp))) F ?_)
 rintro vr O' ⟨N,rfl,jb,jc,rfl,rfl⟩
 refine⟨by exact Sub.d (.d (.k .z)),?_⟩
 have nF:=bw.under (A:=[ak jb jc 5 1 (cd (gB [(s:Int)]))]) (B:=[ak (aD z2) 1 3 1 [vI ((s:Nat):Int)],oI z1 208 dS]) (O:=[ak jb jc 5 1 (cd (gB [(s:Int)])),ak (aD z2) 1 3 1 [vI ((s:Nat):Int)],oI z1 208 dS]) (show bw _ _ _ _ _ (fun v O'=> ∃b' c',v=.slice b' (xW (s,l)).length c'∧O'=[ak b' c' 5 1 (cd (xW (s,l)))])from by
   have h9:=Nj w jb sb jc (gB [(s:Int)]).length c (gB [(s:Int)]) (l.map fun y:Nat=>(y:Int)) F (by rw[e7];exact hS) (fun n hn=>by obtain⟨y,hy,rfl⟩:=List.mem_map.1 hn;exact lP (by have:=hl y hy;omega)) (by rw[List.length_map];have:=nK (l:=[(s:Int)]) (fun n hn=>by simp at hn;subst hn;exact lP (by omega));simp only[List.length_cons,List.length_nil]at this;omega)
   rw[List.length_map,←List.length_append,←qP]at h9
   exact h9) (by exact Sub.rf)
 refine bq F F (aI sS nF F ?_)
 clear nF
 rintro vr O' ⟨A1,rfl,Vz,VA,rfl,rfl⟩
 refine bq F F (dG F F (Ai (l:=xW (s,l)) lM rO eC F (mG 0 F) F) ?_)
 refine bq F F (dG F F (cD F) ?_)
 refine bu ?_
 refine az (ao ?_)
 refine aG (str (xW (s,l))) Tryz.results155 F ?_
 exact⟨[],Sub.z,F,F⟩
theorem H8 (w:World) [cG Tryz.prog w] (a:bY) (ka:DK) (ha:At w a ka) (va:Valid a) (za:Nat) (r_:Sl w (aD za) (dC a ka)) (b:bY) (kb:DK) (hb:At w b kb) (vb:Valid b) (zb:Nat) (Eh:Sl w (aD zb) (dC b kb)) (xe:a.vars=b.vars) (zf:Nat) (Tz:Sl w (aD zf) [(.func (.func 153) #[] #[(du (aD za) 0),(du (aD zb) 0)])]) (s:Nat) (hs:s<a.next.length) (sb:Option Addr) (c:Nat) (l:List Nat) (hS:Sl w sb (aQ l)) (Gp:l.Pairwise (· < ·)) (hl: ∀t∈l,t<b.next.length) (x:Nat) (hx:x<cJ a):
  bs Tryz.prog 156 [.agg #[vI ((s:Nat):Int),.slice sb l.length c],v8 x,(du (aD zf) 0),(du (aD za) 0),(du (aD zb) 0)] w fun v N=> ∃b' c' c2,v=.agg #[vI ((dJ a s x:Nat):Int),.slice b' (tF a b (dJ a s x) (eD b l x)).length c']∧N=[ak b' c2 3 1 (aQ (tF a b (dJ a s x) (eD b l x)))]:=by
 refine av func156 F ntmps156 F ?_
 have ut:=ha.rows.1
 obtain⟨v1,c1,g1,s1⟩:=ha.rows.get hs
 have uw:a.next[s].length=cJ a:=va.len _ (List.getElem_mem hs)
 have Cn:x<a.next[s].length:=by rw[uw];exact hx
 have VB:x<cJ b:=by unfold cJ at hx⊢;rw[←xe];exact hx
 have yU:=dR (Gp.imp fun h=>Nat.ne_of_lt h) hl
 have hb4:=vb.n4
 have Kb:=lQ b l x
 refine ai (aj F (cL (cs:=[vI ((s:Nat):Int),(.slice sb l.length c)]) F F (fun z1=>?_)))
 refine aj F (aR fE F (fun z2=>?_))
 refine ae (ax ?_)
 refine T.ds [oI z2 208 [(vI 0),nS],oI z1 208 [vI ((s:Nat):Int),(.slice sb l.length c)]] [(0,0),(1,0),(2,0),(3,0),(4,0),(5,0),(6,0),(7,0),(8,0),(9,0),(10,0),(11,0),(12,0),(13,0),(14,1),(15,0),(16,2),(17,2)] (by exact Sub.rf) ?_
 refine am F (bS Ns F F (aB Tz) F) (am F (bG cy F cU F F (aB r_) (by show _<4;decide)) (am F (bS dB F F (aB r_) F) (am F (aJ jq F aM F F) (am F (aO 1 dh F F F F) (am F (cq (i:=s) dB bP F F (aB ha.outer) hs (ut▸hs)) (am F (bS bT F F (aB ha.outer) g1) (am F (aF F) ?_)))))))
 refine am F (cq (i:=x) bT aM F F (aB s1) Cn (by rw[List.length_map];exact Cn)) (am F (bS dh F F (aB s1) (uP va hs hx)) (am F (dT (vs:=(dC b kb)) cy F aX F F (Nat.succ_pos _) (aB Eh) (fun j hj=>by rw[Nat.zero_add];exact List.getElem?_eq_getElem hj)) (am F (aJ jq F bP F F) ?_)))
 refine am F (aO 1 bT F F F F) (am F (aF F) ?_)
 refine bJ F F (aI H9 (aE fun w1 hI=>(haveI:=dp hI;Nk w1 b kb (hI.oH hb) vb sb c l (hI.sl hS) hl (by omega) x VB)) F ?_)
 rintro vr O' ⟨N,rfl,tb,tc,rfl,rfl⟩
 refine⟨by exact Sub.d (.k (.k .z)),?_⟩
 refine am F (bE (cs:=[vI ((dJ a s x:Nat):Int),(.slice tb ((eD b l x).length) tc)]) Ei fE (by kernel_rfl)) ?_
 have oW:=b_ (first:=[]) (args:=[.agg #[vI ((dJ a s x:Nat):Int),.slice tb (eD b l x).length tc]]) (fK:=[(du (aD za) 0),(du (aD zb) 0)]) H_ (bw.under (A:=[ak tb tc 3 1 (aQ (eD b l x))]) (B:=[oI z2 208 [(vI 0),nS],oI z1 208 [vI ((s:Nat):Int),(.slice sb l.length c)]]) (O:=[ak tb tc 3 1 (aQ (eD b l x)),oI z2 208 [(vI 0),nS],oI z1 208 [vI ((s:Nat):Int),(.slice sb l.length c)]]) (H6 w a ka ha va za r_ b kb hb vb zb Eh (dJ a s x) (va.fB hs hx).1 tb tc tc (eD b l x) Kb.1 Kb.2) (by exact Sub.rf))
 refine bq F F (dQ oW F F ?_)
 clear oW
 rintro vr O' ⟨A1,rfl,eb,ec,YO,rfl,rfl⟩
 refine bq F F (bj (vs:=[vI ((dJ a s x:Nat):Int),(.slice eb ((tF a b (dJ a s x) (eD b l x)).length) ec)]) 1 fE F F F F ?_)
 refine bu ?_
 refine az (ao ?_)
 refine bf (i:=1) Tryz.results156 jq F fE F F F ?_
 exact⟨[ak eb YO 3 1 (aQ (tF a b (dJ a s x) (eD b l x)))],(by exact Sub.k .z),eb,ec,YO,F,F⟩
theorem Lt (w:World) [cG Tryz.prog w] (b:bY) (kb:DK) (hb:At w b kb) (vb:Valid b) (zb:Nat) (Eh:Sl w (aD zb) (dC b kb)) (s:Nat) (sb:Option Addr) (c:Nat) (l:List Nat) (hS:Sl w sb (aQ l)) (hl: ∀t∈l,t<b.next.length) (yU:l.length≤4096):
  bs Tryz.prog 157 [.agg #[vI ((s:Nat):Int),.slice sb l.length c],(du (aD zb) 0)] w fun v N=>v=.bool (Pn b (s,l))∧N=[]:=by
 refine av func157 F ntmps157 F ?_
 refine ai (aj F (cL (cs:=[vI ((s:Nat):Int),(.slice sb l.length c)]) F F (fun z1=>?_)))
 refine TO.qa F (ae (ai ?_))
 refine ad (dT (vs:=(dC b kb)) cy F aX F F (Nat.succ_pos _) (aB Eh) (fun j hj=>by rw[Nat.zero_add];exact List.getElem?_eq_getElem hj)) (ad (aJ jq F bP F F) (ad (aO 0 bT F F F F) ?_))
 refine aj F (aI yV (aE fun w1 hI=>(haveI:=dp hI;uD w1 b kb (hI.oH hb) vb sb c l (hI.sl hS) hl (by omega))) F ?_)
 rintro vr O' ⟨N,rfl,rfl,rfl⟩
 refine TO.qa F (ae (az (ao ?_)))
 refine aG (.bool (l.any (dK b))) Tryz.results157 F ?_
 exact⟨[],Sub.z,F,F⟩
end Go.Proofs.YtgdbfideeeegmaaGreatDoor

namespace Go.Proofs.YtgdbfideeeegmaaGreatDoor
open Go.Lx Go.RowKit _root_.Go.Proofs.Tryz
theorem Bh {b:Bool} {i:Int} (h:(b=false∧i= -1)∨ ∃k:Nat,i=(k:Int)∧b=true):decide (i≥0)=b:=by
 rcases h with⟨rfl,rfl⟩|⟨k,rfl,rfl⟩
 ·decide
 ·exact decide_eq_true (by omega)
theorem Bi (base:World) [cG Tryz.prog base] (b:Option Addr) (c:Nat) (xs:List CR) (hS:Sl base b (cz xs)) (hb:xs.length<4611686018427387904) (fv:Value) (p:CR→Bool) (hy: ∀x∈xs,dW Tryz.prog base fv [(.agg #[vI x.k,vN x.s,(.slice x.r.b x.r.o.length x.r.c)])] [] (fun v O'=>v=.bool (p x)∧O'=[])):
  bw Tryz.prog base 167 [.slice b xs.length c,fv] [] (fun v O'=> ∃i:Int,v=vI i∧((xs.any p=false∧i= -1)∨ ∃k:Nat,i=(k:Int)∧xs.any p=true)∧O'=[]):=by
 refine av func167 F ntmps167 F ?_
 refine ai (TO.qa F (ae (ax (ai (ah F (ad (bL mz F) (ah F (ae (aC ?_)))))))))
 refine ck (fun(k:Nat) ρ O=>O=[]∧k≤xs.length∧(xs.take k).any p=false∧bZ [(0,(.slice b xs.length c)),(1,fv),(7,vI (xs.length:Int)),(8,vI (k:Int))] ρ) (fun k=>xs.length-k) 0 ?_ ?_
 ·exact⟨F,Nat.zero_le _,F,⟨F,F,F,F,trivial⟩⟩
 rintro k ρ O ⟨rfl,hk,jN,hH⟩
 obtain⟨eP,rfl⟩:=hH.elim
 clear hH
 refine ai (ad (bI F F) (ae (ax (aw F (fun hc=>?_) (fun hc=>?_)))))
 ·have iQ:k<xs.length:=by omega
  refine aq (ax (aC (ai (ah F (TO.qa F (ae (ai (ah F (ah F (ah F (ad (db (i:=k) mz gV F F (aB hS) iQ (by rw[nO];omega)) (ad (dT (vs:=[vI xs[k].k,vN (xs[k].s),(.slice xs[k].r.b xs[k].r.o.length xs[k].r.c)]) jR F gV F F (Nat.succ_pos _) (aB hS) (qR iQ)) ?_))))))))))))
  have lN:=hy xs[k] (List.getElem_mem iQ)
  refine aj F (dQ lN F F ?_)
  clear lN
  rintro vr O' ⟨rfl,rfl⟩
  refine ae (T.cond F (fun hc=>?_) (fun hc=>?_))
  ·refine ax ?_
   refine aH (ah F (TO.qa F (ae (az (ao ?_)))))
   refine aG (vI (k:Int)) Tryz.results167 F ?_
   exact⟨[],Sub.z,k,F,.inr ⟨k,F,D9 iQ hc⟩,F⟩
  refine aq (aH (ad (cj (a:=k) (b:=1) F F (by omega)) (ah F (ae ?_))))
  exact⟨k+1,by omega,F,by omega,sQ iQ jN hc,⟨F,F,F,F,trivial⟩⟩
 have Fa: ¬k<xs.length:=by omega
 refine bn ?_
 refine ai (TO.qa F (ae (az (ao ?_))))
 refine aG (vI (-1)) Tryz.results167 F ?_
 exact⟨[],Sub.z, -1,F,.inl ⟨by rw[List.take_of_length_le (by omega)]at jN;exact jN,F⟩,F⟩
theorem o7 (base:World) [cG Tryz.prog base] (b:Option Addr) (c:Nat) (xs:List CR) (hS:Sl base b (cz xs)) (hb:xs.length<4611686018427387904) (fv:Value) (p:CR→Bool) (hy: ∀x∈xs,dW Tryz.prog base fv [(.agg #[vI x.k,vN x.s,(.slice x.r.b x.r.o.length x.r.c)])] [] (fun v O'=>v=.bool (p x)∧O'=[])):
  bw Tryz.prog base 116 [.slice b xs.length c,fv] [] (fun v O'=>v=.bool (xs.any p)∧O'=[]):=by
 refine av func116 F ntmps116 F ?_
 refine ai (TO.qa F (ae (ai (ah F (ah F ?_)))))
 have A7:=Bi base b c xs hS hb fv p hy
 refine aj F (aI PK A7 F ?_)
 clear A7
 rintro v O' ⟨i,rfl,hi,rfl⟩
 refine ad (gW F F) (TO.qa F (ae (az (ao ?_))))
 refine aG (.bool (decide (i≥0))) Tryz.results116 F ?_
 exact⟨[],Sub.z,congrArg Value.bool (Bh hi),F⟩
theorem y3 (base:World) [cG Tryz.prog base] (b:Option Addr) (c:Nat) (xs:List dE) (hS:Sl base b (aT xs)) (hb:xs.length<4611686018427387904) (fv:Value) (p:dE→Bool) (hy: ∀x∈xs,dW Tryz.prog base fv [x.ag] [] (fun v O'=>v=.bool (p x)∧O'=[])):
  bw Tryz.prog base 100 [.slice b xs.length c,fv] [] (fun v O'=> ∃i:Int,v=vI i∧((xs.any p=false∧i= -1)∨ ∃k:Nat,i=(k:Int)∧xs.any p=true)∧O'=[]):=by
 refine av func100 F ntmps100 F ?_
 refine ai (TO.qa F (ae (ax (ai (ah F (ad (bL cp F) (ah F (ae (aC ?_)))))))))
 refine ck (fun(k:Nat) ρ O=>O=[]∧k≤xs.length∧(xs.take k).any p=false∧bZ [(0,(.slice b xs.length c)),(1,fv),(7,vI (xs.length:Int)),(8,vI (k:Int))] ρ) (fun k=>xs.length-k) 0 ?_ ?_
 ·exact⟨F,Nat.zero_le _,F,⟨F,F,F,F,trivial⟩⟩
 rintro k ρ O ⟨rfl,hk,jN,hH⟩
 obtain⟨eP,rfl⟩:=hH.elim
 clear hH
 refine ai (ad (bI F F) (ae (ax (aw F (fun hc=>?_) (fun hc=>?_)))))
 ·have iQ:k<xs.length:=by omega
  refine aq (ax (aC (ai (ah F (TO.qa F (ae (ai (ah F (ah F (ah F (ad (db (i:=k) cp bQ F F (aB hS) iQ (by rw[bF];omega)) (ad (dT (vs:=xs[k].cl) bK F bQ F F (Nat.succ_pos _) (aB hS) (lI iQ)) ?_))))))))))))
  have lN:=hy xs[k] (List.getElem_mem iQ)
  refine aj F (dQ lN F F ?_)
  clear lN
  rintro vr O' ⟨rfl,rfl⟩
  refine ae (T.cond F (fun hc=>?_) (fun hc=>?_))
  ·refine ax ?_
   refine aH (ah F (TO.qa F (ae (az (ao ?_)))))
   refine aG (vI (k:Int)) Tryz.results100 F ?_
   exact⟨[],Sub.z,k,F,.inr ⟨k,F,D9 iQ hc⟩,F⟩
  refine aq (aH (ad (cj (a:=k) (b:=1) F F (by omega)) (ah F (ae ?_))))
  exact⟨k+1,by omega,F,by omega,sQ iQ jN hc,⟨F,F,F,F,trivial⟩⟩
 have Fa: ¬k<xs.length:=by omega
 refine bn ?_
 refine ai (TO.qa F (ae (az (ao ?_))))
 refine aG (vI (-1)) Tryz.results100 F ?_
 exact⟨[],Sub.z, -1,F,.inl ⟨by rw[List.take_of_length_le (by omega)]at jN;exact jN,F⟩,F⟩
theorem n5 (base:World) [cG Tryz.prog base] (b:Option Addr) (c:Nat) (xs:List dE) (hS:Sl base b (aT xs)) (hb:xs.length<4611686018427387904) (fv:Value) (p:dE→Bool) (hy: ∀x∈xs,dW Tryz.prog base fv [x.ag] [] (fun v O'=>v=.bool (p x)∧O'=[])):
  bw Tryz.prog base 70 [.slice b xs.length c,fv] [] (fun v O'=>v=.bool (xs.any p)∧O'=[]):=by
 refine av func70 F ntmps70 F ?_
 refine ai (TO.qa F (ae (ai (ah F (ah F ?_)))))
 have A7:=y3 base b c xs hS hb fv p hy
 refine aj F (aI PL A7 F ?_)
 clear A7
 rintro v O' ⟨i,rfl,hi,rfl⟩
 refine ad (gW F F) (TO.qa F (ae (az (ao ?_))))
 refine aG (.bool (decide (i≥0))) Tryz.results70 F ?_
 exact⟨[],Sub.z,congrArg Value.bool (Bh hi),F⟩
theorem TR (base:World) [cG Tryz.prog base] (b lb:Option Addr) (c m lc lv:Nat) (xs:List UInt8) (l:List Int) (hx:xs.length=m) (hn: ∀n∈l,lg n) (hm:m+13*l.length≤800000):
  bw Tryz.prog base 112 [.slice b m c,.slice lb l.length lv] [ak b c 5 1 (cd xs),ak lb lc 3 1 (ints l)] (fun v O'=> ∃b' c',v=.slice b' (m+(gB l).length) c'∧O'=[ak b' c' 5 1 (cd (xs++gB l)),ak lb lc 3 1 (ints l)]):=by
 refine av func112 F ntmps112 F ?_
 refine ai (TO.qa F (ae (ax (ai (ah F (ad (bL bT F) (ah F (ae (aC ?_)))))))))
 refine cE (fun(i:Nat) ρ O=> ∃(jb:Option Addr) (jc:Nat),O=[ak jb jc 5 1 (cd (xs++gB (l.take i))),ak lb lc 3 1 (ints l)]∧i≤l.length∧bZ [(0,(.slice jb (m+(gB (l.take i)).length) jc)),(1,(.slice lb l.length lv)),(4,nS),(7,(.slice lb l.length lv)),(8,vI (l.length:Int)),(9,vN i)] ρ) (fun i=>l.length-i) 0 ?_ ?_
 ·exact⟨b,c,by simp[gB],Nat.zero_le _,⟨(by show Value.slice b m c=_;simp[gB]),F,F,F,F,F,trivial⟩⟩
 rintro i ρ O ⟨jb,jc,rfl,hi,hH⟩
 obtain⟨eP,rfl⟩:=hH.elim
 clear hH
 have H0:=nK (l:=l.take i) fun n h=>hn n (List.mem_of_mem_take h)
 have eU:=List.length_take_le i l
 refine ai (ad (bI F F) (ae (ax (aw F (fun hc=>?_) (fun hc=>?_)))))
 ·have jQ:i<l.length:=by omega
  have hdl:=oY (hn _ (List.getElem_mem jQ))
  refine aq (ax (aC (ai (ad (cq (i:=i) bT aM F F (cw (mG 1 F)) jQ (by rw[List.length_map];exact jQ)) (ad (bS dh F F (cw (mG 1 F)) (d_ jQ)) (TO.qa F (ae (aH (ah F (ah F (aj F (aI yL (jX [0] (Tu base jb jc (m+(gB (l.take i)).length) (xs++gB (l.take i)) l[i] (by simp[hx]) (hn _ (List.getElem_mem jQ)) (by omega))) F ?_))))))))))))
  rintro vr O' ⟨A1,rfl,b2,c2,rfl,rfl⟩
  refine aj F (bN (v:=.int .u8 32) lM cP F F F (fun uz=>?_))
  refine aj F (bX 1 lM lM cP F F F F (by simp[hx,Nat.add_assoc]) (by decide) (Src.row (j:=0) F (by simp)) (by simp[dD]) (by have:=oY (hn _ (List.getElem_mem jQ));omega) (by decide) (by decide) (fun Gq c3=>?_))
  refine TO.qa F (ae (aH (ad (cj (a:=i) (b:=1) F F (by omega)) (ah F (ae ?_)))))
  have e9:=A5 jQ
  exact⟨i+1,by omega,[ak Gq c3 5 1 ((cd (xs++gB (l.take i)++ji l[i]))++[.int .u8 32]),ak lb lc 3 1 (ints l)],(by exact Sub.d (.k (.k .z))),Gq,c3,by rw[e9,←List.append_assoc,←List.append_assoc,show cd (xs++gB (l.take i)++ji l[i]++[32])=cd (xs++gB (l.take i)++ji l[i])++[Value.int .u8 32]from List.map_append],by omega,⟨(congrArg (fun n9=>Value.slice Gq n9 c3) (show m+(gB (l.take i)).length+(ji l[i]).length+1=m+(gB (l.take (i+1))).length by rw[e9];simp only[List.length_append,List.length_cons,List.length_nil,Nat.add_assoc])),F,F,F,F,F,trivial⟩⟩
 have tx: ¬i<l.length:=by omega
 refine bn ?_
 refine ai (ah F (TO.qa F (ae (az ?_))))
 refine aG (.slice jb (m+(gB (l.take i)).length) jc) Tryz.results112 F ?_
 have sO:i=l.length:=by omega
 subst sO
 rw[List.take_length]
 exact⟨jb,jc,F,F⟩
theorem C4 (w:World) [cG Tryz.prog w] (k:Int) (s:Nat) (r:OB) (hr:Sl w r.b (ei r.o)) (hn: ∀n∈k::(s:Int)::qS r.o,lg n) (hl:r.o.length≤64):
  bs Tryz.prog 110 [.agg #[vI k,vN s,.slice r.b r.o.length r.c]] w fun v N=>v=str (gB (k::(s:Int)::qS r.o))∧N=[]:=by
 refine av func110 F ntmps110 F ?_
 refine ai (aj F (cL (cs:=[vI k,vN s,(.slice r.b r.o.length r.c)]) F F (fun z1=>?_)))
 refine TO.qa F (ae (ai (ad (aJ jR F aM F F) (ad (aO 0 dh F F F F) (ad (aJ jR F aM F F) (ad (aO 0 dh F F F F) (aj F (bH (m:=2) (parts:=[(0,.tmp 7),(1,.tmp 9)]) (cs:=[vI k,vN s]) bT aM (by decide) (by kernel_rfl) F (fun z2=>?_)))))))))
 refine aj F (aI sS (aE fun w1 hI=>(haveI:=dp hI;Eg w1 (aD z2) 2 [k,(s:Int)] (hI.eV (mG 0 F)) (fun n h9=>hn n (by simp only[List.mem_cons,List.not_mem_nil,or_false]at h9⊢;rcases h9 with h9|h9<;>simp[h9])) (by simp))) F ?_)
 rintro vr O' ⟨N,rfl,jb,jc,rfl,rfl⟩
 refine TO.qa F (ae (ax (ai (ad (aJ jR F y4 F F) (ad (aO 2 il F F F F) (ad (bL il F) (ah F (ae (aC ?_)))))))))
 refine cE (fun(i:Nat) ρ O=> ∃(jb:Option Addr) (jc:Nat),O=[ak jb jc 5 1 (cd (gB (k::(s:Int)::qS (r.o.take i)))),ak (aD z2) 2 3 1 [vI k,vN s],oI z1 169 [vI k,vN s,(.slice r.b r.o.length r.c)]]∧i≤r.o.length∧bZ [(0,(.agg #[vI k,vN s,(.slice r.b r.o.length r.c)])),(1,(.pointer (aD z1))),(2,(str [])),(3,(.slice jb ((gB (k::(s:Int)::qS (r.o.take i))).length) jc)),(13,(.slice r.b r.o.length r.c)),(14,vI (r.o.length:Int)),(15,vN i)] ρ) (fun i=>r.o.length-i) 0 ?_ ?_
 ·exact⟨jb,jc,F,Nat.zero_le _,(.of F)⟩
 rintro i ρ O ⟨jb,jc,rfl,hi,hH⟩
 obtain⟨eP,rfl⟩:=hH.elim
 clear hH
 have GZ: ∀n∈k::(s:Int)::qS (r.o.take i),lg n:=fun n YQ=>hn n (by
  simp only[List.mem_cons]at YQ⊢
  rcases YQ with h9|h9|h9
  ·exact .inl h9
  ·exact .inr (.inl h9)
  ·exact .inr (.inr (by obtain⟨p,hp,h8⟩:=List.mem_flatMap.1 h9;exact List.mem_flatMap.2 ⟨p,List.mem_of_mem_take hp,h8⟩)))
 have H0:=nK GZ
 have TS:(qS (r.o.take i)).length≤128:=by rw[El,List.length_take];omega
 simp only[List.length_cons]at H0
 refine ai (ad (bI F F) (ae (ax (aw F (fun hc=>?_) (fun hc=>?_)))))
 ·have uS:i<r.o.length:=by omega
  refine aq (ax (aC (ai (ad (db (i:=i) il fG F F (aB hr) uS (by rw[iE];omega)) (ad (dT (vs:=[vN (r.o[i].1),vN (r.o[i].2)]) iY F fG F F (Nat.succ_pos _) (aB hr) (lS uS)) (aj F (aR fG F (fun z3=>?_))))))))
  refine aj F (bj (vs:=[vN (r.o[i].1),vN (r.o[i].2)]) 0 fG F F F F ?_)
  refine ae (aH (ah F (ad (ij (i:=0) iY aM F F (by decide)) (ad (aO 0 dh F F F F) (ad (ij (i:=1) iY aM F F (by decide)) (ad (aO 0 dh F F F F) (aj F (bH (m:=2) (parts:=[(0,.tmp 21),(1,.tmp 23)]) (cs:=[vN (r.o[i].1),vN (r.o[i].2)]) bT aM (by decide) (by kernel_rfl) F (fun z4=>?_)))))))))
  have ng:=bw.under (A:=[ak jb jc 5 1 (cd (gB (k::(s:Int)::qS (r.o.take i)))),ak (aD z4) 2 3 1 [vN (r.o[i].1),vN (r.o[i].2)]]) (B:=[oI z3 173 [vN (r.o[i].1),vN (r.o[i].2)],ak (aD z2) 2 3 1 [vI k,vN s],oI z1 169 [vI k,vN s,(.slice r.b r.o.length r.c)]]) (O:=[ak (aD z4) 2 3 1 [vN (r.o[i].1),vN (r.o[i].2)],oI z3 173 [vN (r.o[i].1),vN (r.o[i].2)],ak jb jc 5 1 (cd (gB (k::(s:Int)::qS (r.o.take i)))),ak (aD z2) 2 3 1 [vI k,vN s],oI z1 169 [vI k,vN s,(.slice r.b r.o.length r.c)]]) (show bw _ _ _ _ _ (fun v O'=> ∃b' c',v=.slice b' (gB (k::(s:Int)::qS (r.o.take i))++gB [(r.o[i].1:Int),(r.o[i].2:Int)]).length c'∧O'=[ak b' c' 5 1 (cd (gB (k::(s:Int)::qS (r.o.take i))++gB [(r.o[i].1:Int),(r.o[i].2:Int)])),ak (aD z4) 2 3 1 [vN (r.o[i].1),vN (r.o[i].2)]])from by
    have h9:=TR w jb (aD z4) jc (gB (k::(s:Int)::qS (r.o.take i))).length 2 2 (gB (k::(s:Int)::qS (r.o.take i))) [(r.o[i].1:Int),(r.o[i].2:Int)] F (fun n h9=>hn n (by
     have h8:n∈qS r.o:=List.mem_flatMap.2 ⟨r.o[i],List.getElem_mem uS,h9⟩
     exact List.mem_cons_of_mem _ (List.mem_cons_of_mem _ h8))) (by simp only[List.length_cons,List.length_nil];omega)
    rw[List.length_append]
    exact h9) (by exact Sub.dL [ak (aD z4) 2 3 1 [vN (r.o[i].1),vN (r.o[i].2)],oI z3 173 [vN (r.o[i].1),vN (r.o[i].2)]] _ (.k (.k (.k (.k .z)))))
  refine aj F (aI sS ng F ?_)
  clear ng
  rintro vr O' ⟨A1,rfl,Vz,VA,rfl,rfl⟩
  refine TO.qa F (ae (aH (ad (cj (a:=i) (b:=1) F F (by omega)) (ah F (ae ?_)))))
  have e9:gB (k::(s:Int)::qS (r.o.take (i+1)))=gB (k::(s:Int)::qS (r.o.take i))++gB [(r.o[i].1:Int),(r.o[i].2:Int)]:=by rw[List.take_succ_eq_append_getElem uS,Iu,←List.cons_append,←List.cons_append,qP]
  exact⟨i+1,by omega,[ak Vz VA 5 1 (cd (gB (k::(s:Int)::qS (r.o.take i))++gB [(r.o[i].1:Int),(r.o[i].2:Int)])),ak (aD z2) 2 3 1 [vI k,vN s],oI z1 169 [vI k,vN s,(.slice r.b r.o.length r.c)]],(by exact Sub.k (.d (.d (.k (.k .z))))),Vz,VA,by rw[e9],by omega,⟨F,F,F,(congrArg (fun n9:Nat=>Value.slice Vz n9 VA) (by rw[e9,List.length_append])),F,F,F,trivial⟩⟩
 have xj: ¬i<r.o.length:=by omega
 refine bn ?_
 refine ai (ah F (ad (Ai (l:=gB (k::(s:Int)::qS (r.o.take i))) lM rO eC F (mG 0 F) F) (TO.qa F (ae (az (ao ?_))))))
 refine aG (str (gB (k::(s:Int)::qS (r.o.take i)))) Tryz.results110 F ?_
 have sO:i=r.o.length:=by omega
 subst sO
 rw[List.take_length]
 exact⟨[],Sub.z,F,F⟩
theorem TT (w:World) [cG Tryz.prog w] (x y:CR) (zx:Nat) (hzx:Sl w (aD zx) x.cells) (hx:Sl w x.r.b (ei x.r.o)) (Em: ∀n∈x.cf.nums,lg n) (ux:x.r.o.length≤64) (hy:Sl w y.r.b (ei y.r.o)) (hny: ∀n∈y.cf.nums,lg n) (hly:y.r.o.length≤64):
  bs Tryz.prog 166 [.agg y.cells.toArray,(du (aD zx) 0)] w fun v N=>v=.bool (decide (y.cf.key=x.cf.key))∧N=[]:=by
 refine av func166 F ntmps166 F ?_
 refine ai (aj F (cL (cs:=[vI y.k,vN y.s,(.slice y.r.b y.r.o.length y.r.c)]) F F (fun uz=>?_)))
 refine TO.qa F (ae (ax ?_))
 refine dO [(0,0),(2,0),(1,1),(3,2),(4,2),(5,2)] ?_
 refine am F (cN 0 jR F gV F F F) (am F (dT (vs:=[vI x.k,vN x.s,(.slice x.r.b x.r.o.length x.r.c)]) jR F gV F F (Nat.succ_pos _) (aB hzx) (fun j hj=>by rw[Nat.zero_add];exact List.getElem?_eq_getElem hj)) ?_)
 refine bJ F F (aI C5 (aE fun w1 hI=>(haveI:=dp hI;C4 w1 y.k y.s y.r (hI.sl hy) hny hly)) F ?_)
 rintro vr O' ⟨N,rfl,rfl,rfl⟩
 refine⟨by exact Sub.rf,?_⟩
 refine bq F F (aI C5 (aE fun w1 hI=>(haveI:=dp hI;C4 w1 x.k x.s x.r (hI.sl hx) Em ux)) F ?_)
 rintro vr O' ⟨N,rfl,rfl,rfl⟩
 refine bq F F (dG F F (Iv F F) ?_)
 refine bq F F (dG F F (cD F) ?_)
 refine bu ?_
 refine az (ao ?_)
 refine aG (.bool (decide (y.cf.key=x.cf.key))) Tryz.results166 F ?_
 exact⟨[],Sub.z,F,F⟩
end Go.Proofs.YtgdbfideeeegmaaGreatDoor

