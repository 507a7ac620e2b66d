/- OrderDecodes holds: order.Decode answers what the document says, at every argument; without any condition. -/
import Derived.Test.YtboeoomhjbcecaaGreatDoorTape
import Derived.Test.YtboeoomhjbcecaaGreatDoorW8
import Derived.Test.YtboeoomhjbcecaaGreatDoorVst
import Derived.Test.YtboeoomhjbcecaaGreatDoorBytes
namespace Go.Proofs.YtboeoomhjbcecaaGreatDoor
open Go Go.V
set_option linter.unusedSimpArgs false
set_option linter.unusedVariables false
set_option maxRecDepth 100000
def Xf (l:List Nat) (i:Nat):Nat:=l.getD i 0*16777216+l.getD (i+1) 0*65536+l.getD (i+2) 0*256+l.getD (i+3) 0
theorem Fw {a b c d:Nat} (ha:a<256) (hb:b<256) (hc:c<256) (hd:d<256) :
  Yc .or .i64 (Yc .or .i64 (Yc .or .i64 (YL .i64 a 24) (YL .i64 b 16)) (YL .i64 c 8)) d=((a*16777216+b*65536+c*256+d:Nat):Int):=by
 have e1:YL .i64 (a:Int) 24=((a*16777216:Nat):Int):=VU ha 24 (by omega);have e2:YL .i64 (b:Int) 16=((b*65536:Nat):Int):=VU hb 16 (by omega);have e3:YL .i64 (c:Int) 8=((c*256:Nat):Int):=VU hc 8 (by omega);have f1:a*16777216 ||| b*65536=a*16777216+b*65536:=Qf (k:=24) (by omega) (by omega)
 have f2:(a*16777216+b*65536) ||| c*256=a*16777216+b*65536+c*256:=Qf (k:=16) (by omega) (by omega)
 rw[e1,e2,e3,RZ _ _ (by omega) (by omega),f1,RZ _ _ (by omega) (by omega),f2,RZ _ _ (by omega) (by omega),Qf (k:=8) (by omega) (by omega)]
def Lb:List Value:=Qp 0 0 0 0 0
def JC (l:List Nat):Int:=if l.length=20 then Yx (Xf l 0) (Xf l 4) (Xf l 8) (Xf l 12) (Xf l 16) else 1
def Kx (l:List Nat):List Value:=if JC l=0 then Qp (Xf l 0) (Xf l 4) (Xf l 8) (Xf l 12) (Xf l 16) else Lb
theorem H9 (T:World) (h:Hp) (v:Value) (l:List Nat) (s:Bs h v l) (hl:l.length≤140737488355328) :
  Zc Tryz.prog T 62 #[v] h fun v' h'=>v'=.tuple [.agg (Kx l).toArray,.int .i64 (JC l)].toArray∧Zf h.size h h':=by
 obtain⟨p,c,rfl,Us⟩:=s.UL;refine Zc.Zk (args:=[_]) Tryz.func62 rfl rfl rfl rfl ?_;by_cases h20:l.length=20
 ·have Zbl:(l.length:Int)=20:=by omega
  obtain⟨b,o,rfl,hb,YS⟩:=Us (by intro e;subst e;simp at h20);simp +contextual -implicitDefEqProofs only[go_sem,↓reduceIte,Zbl,h20];refine (Kw T _ (h.size+1)).use ?_;rintro v1 h1 ⟨rfl,b1⟩;have vo:Zf (h.size+2) _ h1:=b1.mono (by simp);have z1:h.size+2≤h1.size:=by have:=b1.size;simp at this;omega
  have x0:h1[h.size]? = some (.cells Lb.toArray 47):=vo.get (by omega) (by rw[Zt (by simp),Zb];rfl);have x1:h1[h.size+1]? = some (.cells Lb.toArray 47):=vo.get (by omega) (by have:=Zb (h:=h.push (.cells Lb.toArray 47)) (o:=.cells Lb.toArray 47);rw[Array.size_push]at this;exact this);have zu:Zf h.size h h1:=(((Zf.refl h.size h).add _).add _).trans (b1.mono (by simp;omega));clear b1 vo;obtain⟨xs,vj⟩:∃xs:List Value,xs=Qp (Xf l 0) (Xf l 4) (Xf l 8) (Xf l 12) (Xf l 16):=⟨_,rfl⟩
  have hx5:xs.length=5:=by rw[vj];rfl
  have zr:∀i (hi:i<5),xs[i]'(by omega)=.int .i64 (Xf l (4*i):Nat):=by
   intro i hi;subst vj;rcases i with _|_|_|_|_|i<;>first|rfl|omega
  simp +contextual -implicitDefEqProofs only[go_sem,↓reduceIte];refine VS.ZW (fun F g=>Zf (h.size+1) h1 g∧F 0=.slice (some ⟨b,o,none⟩) 20 c∧F 2=.pointer (some ⟨h.size,0,none⟩)∧F 4=.pointer (some ⟨h.size+1,0,none⟩)∧F 12=.agg (Zbk (h.size+1)).toArray∧∃i:Nat,i≤5∧F 13=.int .i64 i∧g[h.size+1]? = some (.cells (xs.take i++Lb.drop i).toArray 47))
   (fun F _=>5-(vi (F 13)).toNat) rfl ⟨Zf.refl _ _,rfl,rfl,rfl,rfl,0,by omega,rfl,by rw[HW];exact x1⟩ ?_
  rintro F g ⟨XH,f0,f2,f4,f12,i,hi,f13,hg⟩;by_cases ZD:i<5
  ·have ZL:(i:Int)<5:=by omega
   have p1:=Dq (h.size+1) i ZD;simp +contextual -implicitDefEqProofs only[go_sem,↓reduceIte,f0,f4,f12,f13,ZL,p1];refine VS.b (h.size+1) [(0,true),(1,true),(2,true),(3,true),(4,true),(5,true),(6,true),(7,true),(8,true),(9,true),(10,true),(11,true),(12,true),(13,true),(14,true),(15,true),(16,true),(17,true),(18,true),(19,true),(20,true),(21,true),(22,true),(23,true),(24,true),(25,true),(26,true),(27,true),(28,true),(29,true),(30,true),(31,true),(32,true),(33,true),(34,true),(35,false)] mixed (by kernel_rfl) ?_;have g0:∀i,i<20→hc g ⟨b,o+i,none⟩=some (.int .u8 (l.getD i 0:Nat)):=fun i hi=>by rw[XH.hc (by show b<h.size+1;omega),zu.hc (by exact hb)];exact YS i (by omega)
   have e0:=g0 (4*i) (by omega);have e1:=g0 (4*i+1) (by omega);have e2:=g0 (4*i+2) (by omega);have e3:=g0 (4*i+3) (by omega);have b0:=ZI s.byte (4*i);have b1:=ZI s.byte (4*i+1);have b2:=ZI s.byte (4*i+2);have b3:=ZI s.byte (4*i+3);have t0:(4*(i:Int)).toNat=4*i:=by omega
   have t1:(4*(i:Int)+1).toNat=4*i+1:=by omega
   have t2:(4*(i:Int)+2).toNat=4*i+2:=by omega
   have t3:(4*(i:Int)+3).toNat=4*i+3:=by omega
   have r1:i+1<6:=by omega
   have hlen:(xs.take i++Lb.drop i).length=5:=by rw[WU _ _ _ (by omega) (by rw[hx5];rfl),hx5]
   have eo:=Fw b0 b1 b2 b3;rw[show l.getD (4*i) 0*16777216+l.getD (4*i+1) 0*65536+l.getD (4*i+2) 0*256+l.getD (4*i+3) 0=Xf l (4*i) from rfl]at eo;simp +contextual -implicitDefEqProofs only[go_sem,↓reduceIte,f0,f4,e0,e1,e2,e3,t0,t1,t2,t3,eo];rw[YC hg,if_pos ⟨by omega,rfl⟩];simp +contextual -implicitDefEqProofs only[go_sem,↓reduceIte,f13];refine⟨(Zf.refl _ _).Zm (by omega) _,⟨XH.Zm (by omega) _,f0,f2,f4,f12,i+1,ZD,rfl,?_⟩,?_⟩
   ·rw[←zr i ZD,Np _ _ _ (by omega) (by rw[hx5];rfl),Array.getElem?_setIfInBounds,if_pos rfl,if_pos (Za hg)]
   ·simp only[vi,Zi,↓reduceIte,f13];omega
  ·have YJ:¬(i:Int)<5:=by omega
   obtain rfl:i=5:=by omega
   rw[←hx5,Nq _ _ (by rw[hx5];rfl)]at hg;have QL:rd g ⟨h.size+1,0,none⟩ 5=some (Qp (Xf l 0) (Xf l 4) (Xf l 8) (Xf l 12) (Xf l 16)):=by rw[←vj];exact Zq hg hx5
   simp +contextual -implicitDefEqProofs only[go_sem,↓reduceIte,f2,f4,f12,f13,YJ,QL];refine (Qq T _ _ _ _ _ _).use ?_;rintro v1 h2 ⟨rfl,rfl⟩;have y0:g[h.size]? = some (.cells Lb.toArray 47):=XH.get (by omega) x0;have y1:rd g ⟨h.size,0,none⟩ 5=some Lb:=Zq y0 rfl;unfold Kx JC;rw[if_pos h20];have zg:h.size+2≤g.size:=Nat.le_trans z1 XH.size;have hB:=zu.trans (XH.mono (by omega));have y2:=ZU y0 0;unfold Lb Qp at *;by_cases q:Yx (Xf l 0) (Xf l 4) (Xf l 8) (Xf l 12) (Xf l 16)=0
   ·rw[if_pos q];simp +contextual -implicitDefEqProofs only[go_sem,↓reduceIte,q,f2,f4,QL,y1,y2];exact (hB.Zm (Nat.le_refl _) _).Yi (by simp;omega) _
   ·simp only[if_neg q];simp +contextual -implicitDefEqProofs only[go_sem,↓reduceIte,q,f2,f4,QL,y1,y2];exact (hB.Zm (Nat.le_refl _) _).Yi (by simp;omega) _
 ·have Zbl:¬(l.length:Int)=20:=by omega
  unfold Kx JC Lb Qp;simp +contextual -implicitDefEqProofs only[go_sem,↓reduceIte,Zbl,h20]
  (repeat' (first|exact Zf.refl _ _|assumption|refine Zf.add ?_ _|refine Zf.Zm ?_ (by first|omega|(simp;omega)) _|refine Zf.trans (by assumption) ?_))
def ZS (k:Value) (ZK top:Int) (s:List Bool):List Value:=k :: .int .i64 ZK :: .int .i64 top :: s.map Value.bool
def iv (x:Int):List Value:=[.int .i64 x]
def early (top:Int) (s:List Bool) (n:Nat):Bool:=(List.range n).any fun i=>s.getD i false&&decide (top-8+i<0)
def Xs (n:Nat) (ZK top:Int) (s:List Bool):Int:=
 if n≠32∨ZK<0∨1073741824<ZK∨top<0∨1073741824<top then 5 else
 if early top s 8=true then 5 else if 0<top∧s.getD 7 false=false then 5 else 0
theorem SZ (s:List Bool) (i:Nat) (hi:i<s.length):nth (s.map Value.bool) i=some (.bool (s.getD i false)):=by
 rw[Yh,List.getElem?_map,List.getD_eq_getElem?_getD,List.getElem?_eq_getElem hi];rfl
theorem Ky (top:Int) (s:List Bool) (i:Nat):early top s (i+1)=(early top s i||(s.getD i false&&decide (top-8+i<0))):=by
 simp[early,List.range_succ]
theorem AV {top:Int} {s:List Bool} {i:Nat} (hi:i<8) (h1:s.getD i false=true) (h2:top-8+i<0):early top s 8=true:=by
 unfold early;rw[List.any_eq_true];exact⟨i,List.mem_range.2 hi,by simp only[h1,Bool.true_and,decide_eq_true_eq];exact h2⟩
theorem Oq (T:World) (h:Hp) (p:Option Addr) (n c:Nat) (ZK top:Int) (s:List Bool) (hs:s.length=8) :
  Zc Tryz.prog T 80 #[.agg (ZS (.slice p n c) ZK top s).toArray] h fun v' h'=>v'=.int .i64 (Xs n ZK top s)∧Zf h.size h h':=by
 refine Zc.Zk (args:=[_]) Tryz.func80 rfl rfl rfl rfl ?_;have TU:(s.map Value.bool).length=8:=by rw[List.length_map,hs]
 have tk:(s.map Value.bool).take 8=s.map Value.bool:=YW TU;have n7:=SZ s 7 (by omega);unfold ZS;by_cases q:n≠32∨ZK<0∨1073741824<ZK∨top<0∨1073741824<top
 ·have e:Xs n ZK top s=5:=by unfold Xs;rw[if_pos q]
  rw[e];by_cases q1:(n:Int)=32
  ·by_cases q2:ZK<0
   ·simp +contextual -implicitDefEqProofs only[go_sem,↓reduceIte,q1,q2]
    (repeat' (first|exact Zf.refl _ _|assumption|refine Zf.add ?_ _|refine Zf.Zm ?_ (by first|omega|(simp;omega)) _|refine Zf.trans (by assumption) ?_))
   ·by_cases q3:1073741824<ZK
    ·simp +contextual -implicitDefEqProofs only[go_sem,↓reduceIte,q1,q2,q3]
     (repeat' (first|exact Zf.refl _ _|assumption|refine Zf.add ?_ _|refine Zf.Zm ?_ (by first|omega|(simp;omega)) _|refine Zf.trans (by assumption) ?_))
    ·by_cases q4:top<0
     ·simp +contextual -implicitDefEqProofs only[go_sem,↓reduceIte,q1,q2,q3,q4]
      (repeat' (first|exact Zf.refl _ _|assumption|refine Zf.add ?_ _|refine Zf.Zm ?_ (by first|omega|(simp;omega)) _|refine Zf.trans (by assumption) ?_))
     ·have q5:1073741824<top:=by omega
      simp +contextual -implicitDefEqProofs only[go_sem,↓reduceIte,q1,q2,q3,q4,q5]
      (repeat' (first|exact Zf.refl _ _|assumption|refine Zf.add ?_ _|refine Zf.Zm ?_ (by first|omega|(simp;omega)) _|refine Zf.trans (by assumption) ?_))
  ·simp +contextual -implicitDefEqProofs only[go_sem,↓reduceIte,q1]
   (repeat' (first|exact Zf.refl _ _|assumption|refine Zf.add ?_ _|refine Zf.Zm ?_ (by first|omega|(simp;omega)) _|refine Zf.trans (by assumption) ?_))
 ·have q1:(n:Int)=32:=by omega
  have q2:¬ZK<0:=by omega
  have q3:¬1073741824<ZK:=by omega
  have q4:¬top<0:=by omega
  have q5:¬1073741824<top:=by omega
  simp +contextual -implicitDefEqProofs only[go_sem,↓reduceIte,q1,q2,q3,q4,q5,TU,tk];obtain⟨H,hH⟩:=Zx (h.push (.cells (.slice p n c :: .int .i64 ZK :: .int .i64 top :: s.map Value.bool).toArray 150):Hp);have hb:Zf h.size h H:=by rw[hH];exact (Zf.refl _ _).add _
  have x1:H[h.size]? = some (.cells (.slice p n c :: .int .i64 ZK :: .int .i64 top :: s.map Value.bool).toArray 150):=by rw[hH];exact Zb
  have x2:hc H ⟨h.size,2,none⟩=some (.int .i64 top):=by rw[Zh x1];rfl
  have x7:hc H ⟨h.size,3+7,none⟩=some (.bool (s.getD 7 false)):=by rw[Zh x1];exact n7
  rw[←hH];refine VS.ZW (fun F g=>g=H∧F 1=.pointer (some ⟨h.size,0,none⟩)∧F 30=.agg (s.map Value.bool).toArray∧∃i:Nat,i≤8∧F 31=.int .i64 i∧early top s i=false)
   (fun F _=>8-(vi (F 31)).toNat) rfl ⟨rfl,rfl,rfl,0,by omega,rfl,rfl⟩ ?_
  rintro F g ⟨rfl,f1,f30,i,hi,f31,he⟩;by_cases ZD:i<8
  ·have ZL:(i:Int)<8:=by omega
   have ni:=SZ s i (by omega);by_cases c1:s.getD i false=true
   ·rw[c1]at ni;by_cases c2:top-8+i<0
    ·have e:Xs n ZK top s=5:=by unfold Xs;rw[if_neg q,if_pos (AV ZD c1 c2)]
     rw[e];simp +contextual -implicitDefEqProofs only[go_sem,↓reduceIte,f1,f30,f31,ZL,ni,x2,c2,hb]
    ·simp +contextual -implicitDefEqProofs only[go_sem,↓reduceIte,f1,f30,f31,ZL,ni,x2,c2];refine⟨⟨rfl,f1,f30,i+1,ZD,rfl,by rw[Ky,he,c1];simpa using c2⟩,?_⟩;simp only[vi,Zi,↓reduceIte,f31];omega
   ·have c1:s.getD i false=false:=by simpa using c1
    rw[c1]at ni;simp +contextual -implicitDefEqProofs only[go_sem,↓reduceIte,f1,f30,f31,ZL,ni];refine⟨⟨rfl,f1,f30,i+1,ZD,rfl,by rw[Ky,he,c1];rfl⟩,?_⟩;simp only[vi,Zi,↓reduceIte,f31];omega
  ·have YJ:¬(i:Int)<8:=by omega
   obtain rfl:i=8:=by omega
   have e:Xs n ZK top s=if 0<top∧s.getD 7 false=false then 5 else 0:=by unfold Xs;rw[if_neg q,he];rfl
   rw[e];by_cases c1:0<top
   ·by_cases c2:s.getD 7 false=true
    ·rw[c2]at x7;simp +contextual -implicitDefEqProofs only[go_sem,↓reduceIte,f1,f30,f31,YJ,x2,x7,c1,c2,hb]
    ·have c2:s.getD 7 false=false:=by simpa using c2
     rw[c2]at x7;simp +contextual -implicitDefEqProofs only[go_sem,↓reduceIte,f1,f30,f31,YJ,x2,x7,c1,c2,hb]
   ·simp +contextual -implicitDefEqProofs only[go_sem,↓reduceIte,f1,f30,f31,YJ,x2,c1,hb]
def TD (top:Int) (s:List Bool) (n:Nat):List Int:=((List.range n).filter fun i=>s.getD i false).map fun i:Nat=>top-8+(i:Int)
theorem hU (top:Int) (s:List Bool) (i:Nat):TD top s (i+1)=TD top s i++(if s.getD i false=true then [top-8+(i:Int)] else []):=by
 unfold TD;rw[List.range_succ,List.filter_append,List.map_append]
 congr 1
 by_cases h:s.getD i false=true
 ·rw[List.filter_cons_of_pos (by simpa using h),if_pos h];rfl
 ·rw[List.filter_cons_of_neg (by simpa using h),if_neg h];rfl
def XC (l:List Int) (t:Int):List Bool:=(List.range 8).map fun k:Nat=>l.any fun x=>x-t+8 == (k:Int)
theorem Vm (l:List Int) (t:Int):(XC l t).length=8:=by simp[XC]
theorem Mt (l:List Int) (t x:Int) (hx:x-t+8<8):XC (l++[x]) t=if 0≤x-t+8 then (XC l t).set (x-t+8).toNat true else XC l t:=by
 apply List.ext_getElem
 ·split<;>simp[XC]
 ·intro k h1 h2;have hk:k<8:=by simpa [XC] using h1
  by_cases h0:0≤x-t+8
  ·simp only[if_pos h0,List.getElem_set];by_cases e:(x-t+8).toNat=k
   ·rw[if_pos e];simp only[XC,List.getElem_map,List.getElem_range,List.any_append,List.any_cons,List.any_nil,Bool.or_false,Bool.or_eq_true];right;simp only[beq_iff_eq];omega
   ·rw[if_neg e];simp only[XC,List.getElem_map,List.getElem_range,List.any_append,List.any_cons,List.any_nil,Bool.or_false];have:(x-t+8 == (k:Int))=false:=by simp only[beq_eq_false_iff_ne,ne_eq];omega
    rw[this,Bool.or_false]
  ·simp only[if_neg h0];simp only[XC,List.getElem_map,List.getElem_range,List.any_append,List.any_cons,List.any_nil,Bool.or_false];have:(x-t+8 == (k:Int))=false:=by simp only[beq_eq_false_iff_ne,ne_eq];omega
   rw[this,Bool.or_false]
def Uu:List Value:=[.slice none 0 0,.int .i64 0,.int .i64 0,.bool false,.bool false,.bool false,.bool false,.bool false,.bool false,.bool false,.bool false]
theorem Dr (k:Value) (ZK top:Int) (s:List Bool) (i:Nat):(ZS k ZK top s).set (3+i) (.bool true)=ZS k ZK top (s.set i true):=by
 rw[show 3+i=i+1+1+1 by omega];simp[ZS,List.map_set]
def Fx (B:Nat) (h':Hp) (v':Value) (kl:List Nat) (ZK top:Int) (s:List Bool):Prop:=∃w,v'=.agg (ZS w ZK top s).toArray∧Z0 B 5 h' w kl
theorem Yd (k:Value) (ZK top:Int) (s:List Bool) (hs:s.length=8):(ZS k ZK top s).length=11:=by simp[ZS,hs]
theorem QC {p:Option Addr} {n c:Nat} (ZK top:Int) (s:List Bool):(ZS (.slice p n c) ZK top s).all Z7=true:=by simp[ZS,Z7]
theorem AW (k w:Value) (ZK top:Int) (s:List Bool):(ZS k ZK top s).set 0 w=ZS w ZK top s:=rfl
theorem ib {h h2:Hp} {kl:List Nat} {p:Option Addr} {c:Nat} {k:Value} {ZK top:Int} {s:List Bool} (hs:s.length=8) (b:Zf (h.size+2) ((h.push (.cells (ZS k ZK top s).toArray 150)).push (.cells Uu.toArray 150)) h2) :
  JJ h2 ⟨h.size,0,none⟩ (.slice p kl.length c)=some (h2.setIfInBounds h.size (.cells (ZS (.slice p kl.length c) ZK top s).toArray 150))∧h2[h.size+1]? = some (.cells Uu.toArray 150)∧h.size+2≤h2.size:=by
 have x0:h2[h.size]? = some (.cells (ZS k ZK top s).toArray 150):=b.get (by omega) (by rw[Zt (by simp),Zb]);have x1:h2[h.size+1]? = some (.cells Uu.toArray 150):=b.get (by omega) (by have:=Zb (h:=h.push (.cells (ZS k ZK top s).toArray 150)) (o:=.cells Uu.toArray 150);rw[Array.size_push]at this;exact this);have z:=b.size;simp at z;refine⟨?_,x1,by omega⟩;rw[YC x0,if_pos ⟨by rw[Yd _ _ _ _ hs];omega,rfl⟩,AW]
theorem nR (T:World) (h:Hp) (k:Value) (kl:List Nat) (ZK top:Int) (s:List Bool) (hs:s.length=8) (sk:Bs h k kl) (hk:kl.length≤140737488355328) :
  Zc Tryz.prog T 84 #[.agg (ZS k ZK top s).toArray] h fun v' h'=>Fx h.size h' v' kl ZK top s∧Zf h.size h h':=by
 obtain⟨p,c,rfl,_⟩:=sk.open;refine Zc.Zk (args:=[_]) Tryz.func84 rfl rfl rfl rfl ?_;have TU:(s.map Value.bool).length=8:=by rw[List.length_map,hs]
 unfold ZS;simp +contextual -implicitDefEqProofs only[go_sem,↓reduceIte];refine (Sk T _ _ kl (sk.Z2 ((Zf.refl h.size h).add _ |>.add _)) hk).use ?_;rintro w h2 ⟨ow,b2⟩;have kW:Zf (h.size+2) _ h2:=b2.mono (by simp);have hB:Zf h.size h h2:=((Zf.refl h.size h).add _ |>.add _).trans (b2.mono (by simp;omega));obtain⟨pw,cw,rfl,_⟩:=ow.open;obtain⟨y1,y2,y3⟩:=ib (kl:=kl) (p:=pw) (c:=cw) hs kW;have ow:=ow.mono (B':=h.size+2) (by simp);have y4:=ZU y2 0 (ZS (.slice pw kl.length cw) ZK top s);rw[ZJ (Yd _ _ _ _ hs),if_pos ⟨by rw[Yd _ _ _ _ hs];exact Nat.le_refl _,QC _ _ _⟩]at y4;obtain⟨C,hC⟩:=Zx (ZS (.slice pw kl.length cw) ZK top s);have WE:C.length=11:=by rw[hC];exact Yd _ _ _ _ hs
 have tk:=YW WE;rw[←hC]at y1 y4;have y5:=ZU (h:=h2.setIfInBounds h.size (.cells C.toArray 150)) (b:=h.size+1) (l:=Uu) (t:=150) (by rw[Array.getElem?_setIfInBounds,if_neg (by omega)];exact y2) 0 C;have Xc:C.all Z7=true:=by rw[hC];exact QC _ _ _
 rw[ZJ (by rw[WE];rfl),if_pos ⟨by rw[WE];exact Nat.le_refl _,Xc⟩]at y5;clear y4;simp +contextual -implicitDefEqProofs only[go_sem,↓reduceIte,y1,y5,WE,tk];refine⟨⟨_,by rw[hC],?_⟩,(hB.Zm (by omega) _).Zm (by omega) _⟩;exact ((ow.ZP (by omega) _).ZP (by omega) _).mono (by omega)
end Go.Proofs.YtboeoomhjbcecaaGreatDoor
