/- OrderDecodes holds: order.Decode answers what the document says, at every argument; without any condition. -/
import Derived.Test.YtkfhncfkagcamaaGreatDoorTape
import Derived.Test.YtkfhncfkagcamaaGreatDoorW8
import Derived.Test.YtkfhncfkagcamaaGreatDoorVst
import Derived.Test.YtkfhncfkagcamaaGreatDoorBytes
namespace Go.Proofs.YtkfhncfkagcamaaGreatDoor
open Go Go.V
set_option linter.unusedSimpArgs false
set_option linter.unusedVariables false
set_option maxRecDepth 100000
def Xp (l:List Nat) (i:Nat):Nat:=l.getD i 0*16777216+l.getD (i+1) 0*65536+l.getD (i+2) 0*256+l.getD (i+3) 0
theorem GB {a b c d:Nat} (ha:a<256) (hb:b<256) (hc:c<256) (hd:d<256) :
  Z8 .or .i64 (Z8 .or .i64 (Z8 .or .i64 (Yz .i64 a 24) (Yz .i64 b 16)) (Yz .i64 c 8)) d=((a*16777216+b*65536+c*256+d:Nat):Int):=by
 have e1:Yz .i64 (a:Int) 24=((a*16777216:Nat):Int):=Vr ha 24 (by omega)
 have e2:Yz .i64 (b:Int) 16=((b*65536:Nat):Int):=Vr hb 16 (by omega)
 have e3:Yz .i64 (c:Int) 8=((c*256:Nat):Int):=Vr hc 8 (by omega)
 have f1:a*16777216 ||| b*65536=a*16777216+b*65536:=JP (k:=24) (by omega) (by omega)
 have f2:(a*16777216+b*65536) ||| c*256=a*16777216+b*65536+c*256:=JP (k:=16) (by omega) (by omega)
 rw[e1,e2,e3,Rs _ _ (by omega) (by omega),f1,Rs _ _ (by omega) (by omega),f2,Rs _ _ (by omega) (by omega),JP (k:=8) (by omega) (by omega)]
def Mm:List Value:=Qi 0 0 0 0 0
def J4 (l:List Nat):Int:=if l.length=20 then YI (Xp l 0) (Xp l 4) (Xp l 8) (Xp l 12) (Xp l 16) else 1
def LC (l:List Nat):List Value:=if J4 l=0 then Qi (Xp l 0) (Xp l 4) (Xp l 8) (Xp l 12) (Xp l 16) else Mm
theorem Hd (T:World) (h:Hp) (v:Value) (l:List Nat) (s:Bs h v l) (hl:l.length≤140737488355328) :
  Zd Tryz.prog T 35 #[v] h fun v' h'=>v'=.tuple [.agg (LC l).toArray,.int .i64 (J4 l)].toArray∧Ze h.size h h':=by
 obtain⟨p,c,rfl,UA⟩:=s.Us
 refine Zd.Zi (args:=[_]) Tryz.func35 rfl rfl rfl rfl ?_
 by_cases h20:l.length=20
 ·have zC:(l.length:Int)=20:=by omega
  obtain⟨b,o,rfl,hb,Yx⟩:=UA (by intro e;subst e;simp at h20)
  simp +contextual -implicitDefEqProofs only[go_sem,↓reduceIte,zC,h20]
  refine (LB T _ (h.size+1)).use ?_
  rintro v1 h1 ⟨rfl,b1⟩
  have b1':Ze (h.size+2) _ h1:=b1.mono (by simp)
  have z1:h.size+2≤h1.size:=by have:=b1.size;simp at this;omega
  have x0:h1[h.size]? = some (.cells Mm.toArray 47):=b1'.get (by omega) (by rw[Zq (by simp),Zb];rfl)
  have x1:h1[h.size+1]? = some (.cells Mm.toArray 47):=b1'.get (by omega) (by have:=Zb (h:=h.push (.cells Mm.toArray 47)) (o:=.cells Mm.toArray 47);rw[Array.size_push]at this;exact this)
  have xf:Ze h.size h h1:=(((Ze.refl h.size h).add _).add _).trans (b1.mono (by simp;omega))
  clear b1 b1'
  obtain⟨xs,sR⟩:∃xs:List Value,xs=Qi (Xp l 0) (Xp l 4) (Xp l 8) (Xp l 12) (Xp l 16):=⟨_,rfl⟩
  have zD:xs.length=5:=by rw[sR];rfl
  have jm:∀i (hi:i<5),xs[i]'(by omega)=.int .i64 (Xp l (4*i):Nat):=by
   intro i hi
   subst sR
   rcases i with _|_|_|_|_|i<;>first|rfl|omega
  simp +contextual -implicitDefEqProofs only[go_sem,↓reduceIte]
  refine VS.ZU (fun F g=>Ze (h.size+1) h1 g∧F 0=.slice (some ⟨b,o,none⟩) 20 c∧F 2=.pointer (some ⟨h.size,0,none⟩)∧F 4=.pointer (some ⟨h.size+1,0,none⟩)∧F 12=.agg (zy (h.size+1)).toArray∧∃i:Nat,i≤5∧F 13=.int .i64 i∧g[h.size+1]? = some (.cells (xs.take i++Mm.drop i).toArray 47))
   (fun F _=>5-(vi (F 13)).toNat) rfl ⟨Ze.refl _ _,rfl,rfl,rfl,rfl,0,by omega,rfl,by rw[I5];exact x1⟩ ?_
  rintro F g ⟨X3,f0,f2,f4,f12,i,hi,f13,hg⟩
  by_cases ZA:i<5
  ·have ZH:(i:Int)<5:=by omega
   have p1:=Ew (h.size+1) i ZA
   simp +contextual -implicitDefEqProofs only[go_sem,↓reduceIte,f0,f4,f12,f13,ZH,p1]
   refine VS.b (h.size+1) [(0,true),(1,true),(2,true),(3,true),(4,true),(5,true),(6,true),(7,true),(8,true),(9,true),(10,true),(11,true),(12,true),(13,true),(14,true),(15,true),(16,true),(17,true),(18,true),(19,true),(20,true),(21,true),(22,true),(23,true),(24,true),(25,true),(26,true),(27,true),(28,true),(29,true),(30,true),(31,true),(32,true),(33,true),(34,true),(35,false)] mixed (by kernel_rfl) ?_
   have g0:∀i,i<20→hc g ⟨b,o+i,none⟩=some (.int .u8 (l.getD i 0:Nat)):=fun i hi=>by rw[X3.hc (by show b<h.size+1;omega),xf.hc (by exact hb)];exact Yx i (by omega)
   have e0:=g0 (4*i) (by omega)
   have e1:=g0 (4*i+1) (by omega)
   have e2:=g0 (4*i+2) (by omega)
   have e3:=g0 (4*i+3) (by omega)
   have b0:=ZF s.byte (4*i)
   have b1:=ZF s.byte (4*i+1)
   have b2:=ZF s.byte (4*i+2)
   have b3:=ZF s.byte (4*i+3)
   have t0:(4*(i:Int)).toNat=4*i:=by omega
   have t1:(4*(i:Int)+1).toNat=4*i+1:=by omega
   have t2:(4*(i:Int)+2).toNat=4*i+2:=by omega
   have t3:(4*(i:Int)+3).toNat=4*i+3:=by omega
   have r1:i+1<6:=by omega
   have hlen:(xs.take i++Mm.drop i).length=5:=by rw[Ws _ _ _ (by omega) (by rw[zD];rfl),zD]
   have eo:=GB b0 b1 b2 b3
   rw[show l.getD (4*i) 0*16777216+l.getD (4*i+1) 0*65536+l.getD (4*i+2) 0*256+l.getD (4*i+3) 0=Xp l (4*i) from rfl]at eo
   simp +contextual -implicitDefEqProofs only[go_sem,↓reduceIte,f0,f4,e0,e1,e2,e3,t0,t1,t2,t3,eo]
   rw[Yq hg,if_pos ⟨by omega,rfl⟩]
   simp +contextual -implicitDefEqProofs only[go_sem,↓reduceIte,f13]
   refine⟨(Ze.refl _ _).Zk (by omega) _,⟨X3.Zk (by omega) _,f0,f2,f4,f12,i+1,ZA,rfl,?_⟩,?_⟩
   ·rw[←jm i ZA,Ox _ _ _ (by omega) (by rw[zD];rfl),Array.getElem?_setIfInBounds,if_pos rfl,if_pos (Za hg)]
   ·simp only[vi,Zh,↓reduceIte,f13];omega
  ·have YE:¬(i:Int)<5:=by omega
   obtain rfl:i=5:=by omega
   rw[←zD,Oy _ _ (by rw[zD];rfl)]at hg
   have Qm:rd g ⟨h.size+1,0,none⟩ 5=some (Qi (Xp l 0) (Xp l 4) (Xp l 8) (Xp l 12) (Xp l 16)):=by rw[←sR];exact Zo hg zD
   simp +contextual -implicitDefEqProofs only[go_sem,↓reduceIte,f2,f4,f12,f13,YE,Qm]
   refine (JX T _ _ _ _ _ _).use ?_
   rintro v1 h2 ⟨rfl,rfl⟩
   have y0:g[h.size]? = some (.cells Mm.toArray 47):=X3.get (by omega) x0
   have y1:rd g ⟨h.size,0,none⟩ 5=some Mm:=Zo y0 rfl
   unfold LC J4
   rw[if_pos h20]
   have zg:h.size+2≤g.size:=Nat.le_trans z1 X3.size
   have hB:=xf.trans (X3.mono (by omega))
   have y2:=ZP y0 0
   unfold Mm Qi at *
   by_cases q:YI (Xp l 0) (Xp l 4) (Xp l 8) (Xp l 12) (Xp l 16)=0
   ·rw[if_pos q]
    simp +contextual -implicitDefEqProofs only[go_sem,↓reduceIte,q,f2,f4,Qm,y1,y2]
    exact (hB.Zk (Nat.le_refl _) _).Yg (by simp;omega) _
   ·simp only[if_neg q]
    simp +contextual -implicitDefEqProofs only[go_sem,↓reduceIte,q,f2,f4,Qm,y1,y2]
    exact (hB.Zk (Nat.le_refl _) _).Yg (by simp;omega) _
 ·have zC:¬(l.length:Int)=20:=by omega
  unfold LC J4 Mm Qi
  simp +contextual -implicitDefEqProofs only[go_sem,↓reduceIte,zC,h20]
  (repeat' (first|exact Ze.refl _ _|assumption|refine Ze.add ?_ _|refine Ze.Zk ?_ (by first|omega|(simp;omega)) _|refine Ze.trans (by assumption) ?_))
def ZN (k:Value) (ZG top:Int) (s:List Bool):List Value:=k :: .int .i64 ZG :: .int .i64 top :: s.map Value.bool
def iv (x:Int):List Value:=[.int .i64 x]
def early (top:Int) (s:List Bool) (n:Nat):Bool:=(List.range n).any fun i=>s.getD i false&&decide (top-8+i<0)
def Xf (n:Nat) (ZG top:Int) (s:List Bool):Int:=
 if n≠32∨ZG<0∨1073741824<ZG∨top<0∨1073741824<top then 5 else
 if early top s 8=true then 5 else if 0<top∧s.getD 7 false=false then 5 else 0
theorem SA (s:List Bool) (i:Nat) (hi:i<s.length):nth (s.map Value.bool) i=some (.bool (s.getD i false)):=by
 rw[Yj,List.getElem?_map,List.getD_eq_getElem?_getD,List.getElem?_eq_getElem hi];rfl
theorem LD (top:Int) (s:List Bool) (i:Nat):early top s (i+1)=(early top s i||(s.getD i false&&decide (top-8+i<0))):=by
 simp[early,List.range_succ]
theorem BU {top:Int} {s:List Bool} {i:Nat} (hi:i<8) (h1:s.getD i false=true) (h2:top-8+i<0):early top s 8=true:=by
 unfold early
 rw[List.any_eq_true]
 exact⟨i,List.mem_range.2 hi,by simp only[h1,Bool.true_and,decide_eq_true_eq];exact h2⟩
theorem PC (T:World) (h:Hp) (p:Option Addr) (n c:Nat) (ZG top:Int) (s:List Bool) (hs:s.length=8) :
  Zd Tryz.prog T 46 #[.agg (ZN (.slice p n c) ZG top s).toArray] h fun v' h'=>v'=.int .i64 (Xf n ZG top s)∧Ze h.size h h':=by
 refine Zd.Zi (args:=[_]) Tryz.func46 rfl rfl rfl rfl ?_
 have Na:(s.map Value.bool).length=8:=by rw[List.length_map,hs]
 have tk:(s.map Value.bool).take 8=s.map Value.bool:=Xg Na
 have n7:=SA s 7 (by omega)
 unfold ZN
 by_cases q:n≠32∨ZG<0∨1073741824<ZG∨top<0∨1073741824<top
 ·have e:Xf n ZG top s=5:=by unfold Xf;rw[if_pos q]
  rw[e]
  by_cases q1:(n:Int)=32
  ·by_cases q2:ZG<0
   ·simp +contextual -implicitDefEqProofs only[go_sem,↓reduceIte,q1,q2]
    (repeat' (first|exact Ze.refl _ _|assumption|refine Ze.add ?_ _|refine Ze.Zk ?_ (by first|omega|(simp;omega)) _|refine Ze.trans (by assumption) ?_))
   ·by_cases q3:1073741824<ZG
    ·simp +contextual -implicitDefEqProofs only[go_sem,↓reduceIte,q1,q2,q3]
     (repeat' (first|exact Ze.refl _ _|assumption|refine Ze.add ?_ _|refine Ze.Zk ?_ (by first|omega|(simp;omega)) _|refine Ze.trans (by assumption) ?_))
    ·by_cases q4:top<0
     ·simp +contextual -implicitDefEqProofs only[go_sem,↓reduceIte,q1,q2,q3,q4]
      (repeat' (first|exact Ze.refl _ _|assumption|refine Ze.add ?_ _|refine Ze.Zk ?_ (by first|omega|(simp;omega)) _|refine Ze.trans (by assumption) ?_))
     ·have q5:1073741824<top:=by omega
      simp +contextual -implicitDefEqProofs only[go_sem,↓reduceIte,q1,q2,q3,q4,q5]
      (repeat' (first|exact Ze.refl _ _|assumption|refine Ze.add ?_ _|refine Ze.Zk ?_ (by first|omega|(simp;omega)) _|refine Ze.trans (by assumption) ?_))
  ·simp +contextual -implicitDefEqProofs only[go_sem,↓reduceIte,q1]
   (repeat' (first|exact Ze.refl _ _|assumption|refine Ze.add ?_ _|refine Ze.Zk ?_ (by first|omega|(simp;omega)) _|refine Ze.trans (by assumption) ?_))
 ·have q1:(n:Int)=32:=by omega
  have q2:¬ZG<0:=by omega
  have q3:¬1073741824<ZG:=by omega
  have q4:¬top<0:=by omega
  have q5:¬1073741824<top:=by omega
  simp +contextual -implicitDefEqProofs only[go_sem,↓reduceIte,q1,q2,q3,q4,q5,Na,tk]
  obtain⟨H,hH⟩:=Zu (h.push (.cells (.slice p n c :: .int .i64 ZG :: .int .i64 top :: s.map Value.bool).toArray 84):Hp)
  have hb:Ze h.size h H:=by rw[hH];exact (Ze.refl _ _).add _
  have x1:H[h.size]? = some (.cells (.slice p n c :: .int .i64 ZG :: .int .i64 top :: s.map Value.bool).toArray 84):=by rw[hH];exact Zb
  have x2:hc H ⟨h.size,2,none⟩=some (.int .i64 top):=by rw[Zg x1];rfl
  have x7:hc H ⟨h.size,3+7,none⟩=some (.bool (s.getD 7 false)):=by rw[Zg x1];exact n7
  rw[←hH]
  refine VS.ZU (fun F g=>g=H∧F 1=.pointer (some ⟨h.size,0,none⟩)∧F 30=.agg (s.map Value.bool).toArray∧∃i:Nat,i≤8∧F 31=.int .i64 i∧early top s i=false)
   (fun F _=>8-(vi (F 31)).toNat) rfl ⟨rfl,rfl,rfl,0,by omega,rfl,rfl⟩ ?_
  rintro F g ⟨rfl,f1,f30,i,hi,f31,he⟩
  by_cases ZA:i<8
  ·have ZH:(i:Int)<8:=by omega
   have ni:=SA s i (by omega)
   by_cases c1:s.getD i false=true
   ·rw[c1]at ni
    by_cases c2:top-8+i<0
    ·have e:Xf n ZG top s=5:=by unfold Xf;rw[if_neg q,if_pos (BU ZA c1 c2)]
     rw[e]
     simp +contextual -implicitDefEqProofs only[go_sem,↓reduceIte,f1,f30,f31,ZH,ni,x2,c2,hb]
    ·simp +contextual -implicitDefEqProofs only[go_sem,↓reduceIte,f1,f30,f31,ZH,ni,x2,c2]
     refine⟨⟨rfl,f1,f30,i+1,ZA,rfl,by rw[LD,he,c1];simpa using c2⟩,?_⟩
     simp only[vi,Zh,↓reduceIte,f31];omega
   ·have c1:s.getD i false=false:=by simpa using c1
    rw[c1]at ni
    simp +contextual -implicitDefEqProofs only[go_sem,↓reduceIte,f1,f30,f31,ZH,ni]
    refine⟨⟨rfl,f1,f30,i+1,ZA,rfl,by rw[LD,he,c1];rfl⟩,?_⟩
    simp only[vi,Zh,↓reduceIte,f31];omega
  ·have YE:¬(i:Int)<8:=by omega
   obtain rfl:i=8:=by omega
   have e:Xf n ZG top s=if 0<top∧s.getD 7 false=false then 5 else 0:=by unfold Xf;rw[if_neg q,he];rfl
   rw[e]
   by_cases c1:0<top
   ·by_cases c2:s.getD 7 false=true
    ·rw[c2]at x7
     simp +contextual -implicitDefEqProofs only[go_sem,↓reduceIte,f1,f30,f31,YE,x2,x7,c1,c2,hb]
    ·have c2:s.getD 7 false=false:=by simpa using c2
     rw[c2]at x7
     simp +contextual -implicitDefEqProofs only[go_sem,↓reduceIte,f1,f30,f31,YE,x2,x7,c1,c2,hb]
   ·simp +contextual -implicitDefEqProofs only[go_sem,↓reduceIte,f1,f30,f31,YE,x2,c1,hb]
def V0 (top:Int) (s:List Bool) (n:Nat):List Int:=((List.range n).filter fun i=>s.getD i false).map fun i:Nat=>top-8+(i:Int)
theorem fB (top:Int) (s:List Bool) (i:Nat):V0 top s (i+1)=V0 top s i++(if s.getD i false=true then [top-8+(i:Int)] else []):=by
 unfold V0
 rw[List.range_succ,List.filter_append,List.map_append]
 congr 1
 by_cases h:s.getD i false=true
 ·rw[List.filter_cons_of_pos (by simpa using h),if_pos h];rfl
 ·rw[List.filter_cons_of_neg (by simpa using h),if_neg h];rfl
def Xq (l:List Int) (t:Int):List Bool:=(List.range 8).map fun k:Nat=>l.any fun x=>x-t+8 == (k:Int)
theorem WQ (l:List Int) (t:Int):(Xq l t).length=8:=by simp[Xq]
theorem Ns (l:List Int) (t x:Int) (hx:x-t+8<8):Xq (l++[x]) t=if 0≤x-t+8 then (Xq l t).set (x-t+8).toNat true else Xq l t:=by
 apply List.ext_getElem
 ·split<;>simp[Xq]
 ·intro k h1 h2
  have hk:k<8:=by simpa [Xq] using h1
  by_cases h0:0≤x-t+8
  ·simp only[if_pos h0,List.getElem_set]
   by_cases e:(x-t+8).toNat=k
   ·rw[if_pos e]
    simp only[Xq,List.getElem_map,List.getElem_range,List.any_append,List.any_cons,List.any_nil,Bool.or_false,Bool.or_eq_true]
    right
    simp only[beq_iff_eq];omega
   ·rw[if_neg e]
    simp only[Xq,List.getElem_map,List.getElem_range,List.any_append,List.any_cons,List.any_nil,Bool.or_false]
    have:(x-t+8 == (k:Int))=false:=by simp only[beq_eq_false_iff_ne,ne_eq];omega
    rw[this,Bool.or_false]
  ·simp only[if_neg h0]
   simp only[Xq,List.getElem_map,List.getElem_range,List.any_append,List.any_cons,List.any_nil,Bool.or_false]
   have:(x-t+8 == (k:Int))=false:=by simp only[beq_eq_false_iff_ne,ne_eq];omega
   rw[this,Bool.or_false]
def Ub:List Value:=[.slice none 0 0,.int .i64 0,.int .i64 0,.bool false,.bool false,.bool false,.bool false,.bool false,.bool false,.bool false,.bool false]
theorem Ex (k:Value) (ZG top:Int) (s:List Bool) (i:Nat):(ZN k ZG top s).set (3+i) (.bool true)=ZN k ZG top (s.set i true):=by
 rw[show 3+i=i+1+1+1 by omega]
 simp[ZN,List.map_set]
def GC (B:Nat) (h':Hp) (v':Value) (kl:List Nat) (ZG top:Int) (s:List Bool):Prop:=∃w,v'=.agg (ZN w ZG top s).toArray∧Z1 B 5 h' w kl
theorem Ya (k:Value) (ZG top:Int) (s:List Bool) (hs:s.length=8):(ZN k ZG top s).length=11:=by simp[ZN,hs]
theorem Qd {p:Option Addr} {n c:Nat} (ZG top:Int) (s:List Bool):(ZN (.slice p n c) ZG top s).all Z5=true:=by simp[ZN,Z5]
theorem BV (k w:Value) (ZG top:Int) (s:List Bool):(ZN k ZG top s).set 0 w=ZN w ZG top s:=rfl
theorem fD {h h2:Hp} {kl:List Nat} {p:Option Addr} {c:Nat} {k:Value} {ZG top:Int} {s:List Bool} (hs:s.length=8) (b:Ze (h.size+2) ((h.push (.cells (ZN k ZG top s).toArray 84)).push (.cells Ub.toArray 84)) h2) :
  Jn h2 ⟨h.size,0,none⟩ (.slice p kl.length c)=some (h2.setIfInBounds h.size (.cells (ZN (.slice p kl.length c) ZG top s).toArray 84))∧h2[h.size+1]? = some (.cells Ub.toArray 84)∧h.size+2≤h2.size:=by
 have x0:h2[h.size]? = some (.cells (ZN k ZG top s).toArray 84):=b.get (by omega) (by rw[Zq (by simp),Zb])
 have x1:h2[h.size+1]? = some (.cells Ub.toArray 84):=b.get (by omega) (by have:=Zb (h:=h.push (.cells (ZN k ZG top s).toArray 84)) (o:=.cells Ub.toArray 84);rw[Array.size_push]at this;exact this)
 have z:=b.size
 simp at z
 refine⟨?_,x1,by omega⟩
 rw[Yq x0,if_pos ⟨by rw[Ya _ _ _ _ hs];omega,rfl⟩,BV]
theorem lV (T:World) (h:Hp) (k:Value) (kl:List Nat) (ZG top:Int) (s:List Bool) (hs:s.length=8) (sk:Bs h k kl) (hk:kl.length≤140737488355328) :
  Zd Tryz.prog T 66 #[.agg (ZN k ZG top s).toArray] h fun v' h'=>GC h.size h' v' kl ZG top s∧Ze h.size h h':=by
 obtain⟨p,c,rfl,_⟩:=sk.open
 refine Zd.Zi (args:=[_]) Tryz.func66 rfl rfl rfl rfl ?_
 have Na:(s.map Value.bool).length=8:=by rw[List.length_map,hs]
 unfold ZN
 simp +contextual -implicitDefEqProofs only[go_sem,↓reduceIte]
 refine (LA T _ _ kl (sk.Z4 ((Ze.refl h.size h).add _ |>.add _)) hk).use ?_
 rintro w h2 ⟨ow,b2⟩
 have sV:Ze (h.size+2) _ h2:=b2.mono (by simp)
 have hB:Ze h.size h h2:=((Ze.refl h.size h).add _ |>.add _).trans (b2.mono (by simp;omega))
 obtain⟨pw,cw,rfl,_⟩:=ow.open
 obtain⟨y1,y2,y3⟩:=fD (kl:=kl) (p:=pw) (c:=cw) hs sV
 have ow:=ow.mono (B':=h.size+2) (by simp)
 have y4:=ZP y2 0 (ZN (.slice pw kl.length cw) ZG top s)
 rw[ZK (Ya _ _ _ _ hs),if_pos ⟨by rw[Ya _ _ _ _ hs];exact Nat.le_refl _,Qd _ _ _⟩]at y4
 obtain⟨C,hC⟩:=Zu (ZN (.slice pw kl.length cw) ZG top s)
 have Wg:C.length=11:=by rw[hC];exact Ya _ _ _ _ hs
 have tk:=Xg Wg
 rw[←hC]at y1 y4
 have y5:=ZP (h:=h2.setIfInBounds h.size (.cells C.toArray 84)) (b:=h.size+1) (l:=Ub) (t:=84) (by rw[Array.getElem?_setIfInBounds,if_neg (by omega)];exact y2) 0 C
 have Xd:C.all Z5=true:=by rw[hC];exact Qd _ _ _
 rw[ZK (by rw[Wg];rfl),if_pos ⟨by rw[Wg];exact Nat.le_refl _,Xd⟩]at y5
 clear y4
 simp +contextual -implicitDefEqProofs only[go_sem,↓reduceIte,y1,y5,Wg,tk]
 refine⟨⟨_,by rw[hC],?_⟩,(hB.Zk (by omega) _).Zk (by omega) _⟩
 exact ((ow.ZQ (by omega) _).ZQ (by omega) _).mono (by omega)
end Go.Proofs.YtkfhncfkagcamaaGreatDoor
