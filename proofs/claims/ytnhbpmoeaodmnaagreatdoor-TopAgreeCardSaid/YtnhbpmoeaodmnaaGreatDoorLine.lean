/- OrderDecodes holds: order.Decode answers what the document says, at every argument; without any condition. -/
import Derived.Test.YtnhbpmoeaodmnaaGreatDoorTape
import Derived.Test.YtnhbpmoeaodmnaaGreatDoorW8
import Derived.Test.YtnhbpmoeaodmnaaGreatDoorVst
import Derived.Test.YtnhbpmoeaodmnaaGreatDoorBytes
namespace Go.Proofs.YtnhbpmoeaodmnaaGreatDoor
open Go Go.V
set_option linter.unusedSimpArgs false
set_option linter.unusedVariables false
set_option maxRecDepth 100000
def Y3 (l:List Nat) (i:Nat):Nat:=l.getD i 0*16777216+l.getD (i+1) 0*65536+l.getD (i+2) 0*256+l.getD (i+3) 0
theorem Zjb {a b c d:Nat} (ha:a<256) (hb:b<256) (hc:c<256) (hd:d<256) :
  Z7 .or .i64 (Z7 .or .i64 (Z7 .or .i64 (YC .i64 a 24) (YC .i64 b 16)) (YC .i64 c 8)) d=((a*16777216+b*65536+c*256+d:Nat):Int):=by
 have e1:YC .i64 (a:Int) 24=((a*16777216:Nat):Int):=ZaU ha 24 (by omega)
 have e2:YC .i64 (b:Int) 16=((b*65536:Nat):Int):=ZaU hb 16 (by omega)
 have e3:YC .i64 (c:Int) 8=((c*256:Nat):Int):=ZaU hc 8 (by omega)
 have f1:a*16777216 ||| b*65536=a*16777216+b*65536:=JQ (k:=24) (by omega) (by omega)
 have f2:(a*16777216+b*65536) ||| c*256=a*16777216+b*65536+c*256:=JQ (k:=16) (by omega) (by omega)
 rw[e1,e2,e3,ZcU _ _ (by omega) (by omega),f1,ZcU _ _ (by omega) (by omega),f2,ZcU _ _ (by omega) (by omega),JQ (k:=8) (by omega) (by omega)]
def Zft:List Value:=Qr 0 0 0 0 0
def Qb (l:List Nat):Int:=if l.length=20 then YQ (Y3 l 0) (Y3 l 4) (Y3 l 8) (Y3 l 12) (Y3 l 16) else 1
def Zgr (l:List Nat):List Value:=if Qb l=0 then Qr (Y3 l 0) (Y3 l 4) (Y3 l 8) (Y3 l 12) (Y3 l 16) else Zft
theorem Zia (T:World) (h:Hp) (v:Value) (l:List Nat) (s:Bs h v l) (hl:l.length≤140737488355328) :
  Zd Tryz.prog T 56 #[v] h fun v' h'=>v'=.tuple [.agg (Zgr l).toArray,.int .i64 (Qb l)].toArray∧Zf h.size h h':=by
 obtain⟨p,c,rfl,hc1⟩:=s.Up
 refine Zd.Zi (args:=[_]) Tryz.func56 rfl rfl rfl rfl ?_
 by_cases h20:l.length=20
 ·have Zx2:(l.length:Int)=20:=by omega
  obtain⟨b,o,rfl,hb,YR⟩:=hc1 (by intro e;subst e;simp at h20)
  simp +contextual -implicitDefEqProofs only[go_sem,↓reduceIte,Zx2,h20]
  refine (Zgq T _ (h.size+1)).use ?_
  rintro v1 h1 ⟨rfl,b1⟩
  have b1':Zf (h.size+2) _ h1:=b1.mono (by simp)
  have z1:h.size+2≤h1.size:=by have:=b1.size;simp at this;omega
  have x0:h1[h.size]? = some (.cells Zft.toArray 77):=b1'.get (by omega) (by rw[Zq (by simp),Zb];rfl)
  have x1:h1[h.size+1]? = some (.cells Zft.toArray 77):=b1'.get (by omega) (by have:=Zb (h:=h.push (.cells Zft.toArray 77)) (o:=.cells Zft.toArray 77);rw[Array.size_push]at this;exact this)
  have Zw3:Zf h.size h h1:=(((Zf.refl h.size h).add _).add _).trans (b1.mono (by simp;omega))
  clear b1 b1'
  obtain⟨xs,hxs⟩:∃xs:List Value,xs=Qr (Y3 l 0) (Y3 l 4) (Y3 l 8) (Y3 l 12) (Y3 l 16):=⟨_,rfl⟩
  have hx5:xs.length=5:=by rw[hxs];rfl
  have hxi:∀i (hi:i<5),xs[i]'(by omega)=.int .i64 (Y3 l (4*i):Nat):=by
   intro i hi
   subst hxs
   rcases i with _|_|_|_|_|i<;>first|rfl|omega
  simp +contextual -implicitDefEqProofs only[go_sem,↓reduceIte]
  refine VS.ZW (fun F g=>Zf (h.size+1) h1 g∧F 0=.slice (some ⟨b,o,none⟩) 20 c∧F 2=.pointer (some ⟨h.size,0,none⟩)∧F 4=.pointer (some ⟨h.size+1,0,none⟩)∧F 12=.agg (Zx1 (h.size+1)).toArray∧∃i:Nat,i≤5∧F 13=.int .i64 i∧g[h.size+1]? = some (.cells (xs.take i++Zft.drop i).toArray 77))
   (fun F _=>5-(vi (F 13)).toNat) rfl ⟨Zf.refl _ _,rfl,rfl,rfl,rfl,0,by omega,rfl,by rw[Zh2];exact x1⟩ ?_
  rintro F g ⟨XL,f0,f2,f4,f12,i,hi,f13,hg⟩
  by_cases ZD:i<5
  ·have ZL:(i:Int)<5:=by omega
   have p1:=Zko (h.size+1) i ZD
   simp +contextual -implicitDefEqProofs only[go_sem,↓reduceIte,f0,f4,f12,f13,ZL,p1]
   refine VS.b (h.size+1) [(0,true),(1,true),(2,true),(3,true),(4,true),(5,true),(6,true),(7,true),(8,true),(9,true),(10,true),(11,true),(12,true),(13,true),(14,true),(15,true),(16,true),(17,true),(18,true),(19,true),(20,true),(21,true),(22,true),(23,true),(24,true),(25,true),(26,true),(27,true),(28,true),(29,true),(30,true),(31,true),(32,true),(33,true),(34,true),(35,false)] mixed (by kernel_rfl) ?_
   have g0:∀i,i<20→hc g ⟨b,o+i,none⟩=some (.int .u8 (l.getD i 0:Nat)):=fun i hi=>by rw[XL.hc (by show b<h.size+1;omega),Zw3.hc (by exact hb)];exact YR i (by omega)
   have e0:=g0 (4*i) (by omega)
   have e1:=g0 (4*i+1) (by omega)
   have e2:=g0 (4*i+2) (by omega)
   have e3:=g0 (4*i+3) (by omega)
   have b0:=ZG s.byte (4*i)
   have b1:=ZG s.byte (4*i+1)
   have b2:=ZG s.byte (4*i+2)
   have b3:=ZG s.byte (4*i+3)
   have t0:(4*(i:Int)).toNat=4*i:=by omega
   have t1:(4*(i:Int)+1).toNat=4*i+1:=by omega
   have t2:(4*(i:Int)+2).toNat=4*i+2:=by omega
   have t3:(4*(i:Int)+3).toNat=4*i+3:=by omega
   have r1:i+1<6:=by omega
   have hlen:(xs.take i++Zft.drop i).length=5:=by rw[Zag _ _ _ (by omega) (by rw[hx5];rfl),hx5]
   have eo:=Zjb b0 b1 b2 b3
   rw[show l.getD (4*i) 0*16777216+l.getD (4*i+1) 0*65536+l.getD (4*i+2) 0*256+l.getD (4*i+3) 0=Y3 l (4*i) from rfl]at eo
   simp +contextual -implicitDefEqProofs only[go_sem,↓reduceIte,f0,f4,e0,e1,e2,e3,t0,t1,t2,t3,eo]
   rw[Yu hg,if_pos ⟨by omega,rfl⟩]
   simp +contextual -implicitDefEqProofs only[go_sem,↓reduceIte,f13]
   refine⟨(Zf.refl _ _).Zj (by omega) _,⟨XL.Zj (by omega) _,f0,f2,f4,f12,i+1,ZD,rfl,?_⟩,?_⟩
   ·rw[←hxi i ZD,Zej _ _ _ (by omega) (by rw[hx5];rfl),Array.getElem?_setIfInBounds,if_pos rfl,if_pos (Za hg)]
   ·simp only[vi,Zk,↓reduceIte,f13];omega
  ·have YK:¬(i:Int)<5:=by omega
   obtain rfl:i=5:=by omega
   rw[←hx5,Zek _ _ (by rw[hx5];rfl)]at hg
   have Qu:rd g ⟨h.size+1,0,none⟩ 5=some (Qr (Y3 l 0) (Y3 l 4) (Y3 l 8) (Y3 l 12) (Y3 l 16)):=by rw[←hxs];exact Zo hg hx5
   simp +contextual -implicitDefEqProofs only[go_sem,↓reduceIte,f2,f4,f12,f13,YK,Qu]
   refine (JZ T _ _ _ _ _ _).use ?_
   rintro v1 h2 ⟨rfl,rfl⟩
   have y0:g[h.size]? = some (.cells Zft.toArray 77):=XL.get (by omega) x0
   have y1:rd g ⟨h.size,0,none⟩ 5=some Zft:=Zo y0 rfl
   unfold Zgr Qb
   rw[if_pos h20]
   have zg:h.size+2≤g.size:=Nat.le_trans z1 XL.size
   have hB:=Zw3.trans (XL.mono (by omega))
   have y2:=ZQ y0 0
   unfold Zft Qr at *
   by_cases q:YQ (Y3 l 0) (Y3 l 4) (Y3 l 8) (Y3 l 12) (Y3 l 16)=0
   ·rw[if_pos q]
    simp +contextual -implicitDefEqProofs only[go_sem,↓reduceIte,q,f2,f4,Qu,y1,y2]
    exact (hB.Zj (Nat.le_refl _) _).Ye (by simp;omega) _
   ·simp only[if_neg q]
    simp +contextual -implicitDefEqProofs only[go_sem,↓reduceIte,q,f2,f4,Qu,y1,y2]
    exact (hB.Zj (Nat.le_refl _) _).Ye (by simp;omega) _
 ·have Zx2:¬(l.length:Int)=20:=by omega
  unfold Zgr Qb Zft Qr
  simp +contextual -implicitDefEqProofs only[go_sem,↓reduceIte,Zx2,h20]
  (repeat' (first|exact Zf.refl _ _|assumption|refine Zf.add ?_ _|refine Zf.Zj ?_ (by first|omega|(simp;omega)) _|refine Zf.trans (by assumption) ?_))
def ZO (k:Value) (ZH top:Int) (s:List Bool):List Value:=k :: .int .i64 ZH :: .int .i64 top :: s.map Value.bool
def iv (x:Int):List Value:=[.int .i64 x]
def early (top:Int) (s:List Bool) (n:Nat):Bool:=(List.range n).any fun i=>s.getD i false&&decide (top-8+i<0)
def Xh (n:Nat) (ZH top:Int) (s:List Bool):Int:=
 if n≠32∨ZH<0∨1073741824<ZH∨top<0∨1073741824<top then 5 else
 if early top s 8=true then 5 else if 0<top∧s.getD 7 false=false then 5 else 0
theorem Zck (s:List Bool) (i:Nat) (hi:i<s.length):nth (s.map Value.bool) i=some (.bool (s.getD i false)):=by
 rw[Yl,List.getElem?_map,List.getD_eq_getElem?_getD,List.getElem?_eq_getElem hi];rfl
theorem Zgs (top:Int) (s:List Bool) (i:Nat):early top s (i+1)=(early top s i||(s.getD i false&&decide (top-8+i<0))):=by
 simp[early,List.range_succ]
theorem ZmR {top:Int} {s:List Bool} {i:Nat} (hi:i<8) (h1:s.getD i false=true) (h2:top-8+i<0):early top s 8=true:=by
 unfold early
 rw[List.any_eq_true]
 exact⟨i,List.mem_range.2 hi,by simp only[h1,Bool.true_and,decide_eq_true_eq];exact h2⟩
theorem ZdG (T:World) (h:Hp) (p:Option Addr) (n c:Nat) (ZH top:Int) (s:List Bool) (hs:s.length=8) :
  Zd Tryz.prog T 79 #[.agg (ZO (.slice p n c) ZH top s).toArray] h fun v' h'=>v'=.int .i64 (Xh n ZH top s)∧Zf h.size h h':=by
 refine Zd.Zi (args:=[_]) Tryz.func79 rfl rfl rfl rfl ?_
 have hs':(s.map Value.bool).length=8:=by rw[List.length_map,hs]
 have tk:(s.map Value.bool).take 8=s.map Value.bool:=Xi hs'
 have n7:=Zck s 7 (by omega)
 unfold ZO
 by_cases q:n≠32∨ZH<0∨1073741824<ZH∨top<0∨1073741824<top
 ·have e:Xh n ZH top s=5:=by unfold Xh;rw[if_pos q]
  rw[e]
  by_cases q1:(n:Int)=32
  ·by_cases q2:ZH<0
   ·simp +contextual -implicitDefEqProofs only[go_sem,↓reduceIte,q1,q2]
    (repeat' (first|exact Zf.refl _ _|assumption|refine Zf.add ?_ _|refine Zf.Zj ?_ (by first|omega|(simp;omega)) _|refine Zf.trans (by assumption) ?_))
   ·by_cases q3:1073741824<ZH
    ·simp +contextual -implicitDefEqProofs only[go_sem,↓reduceIte,q1,q2,q3]
     (repeat' (first|exact Zf.refl _ _|assumption|refine Zf.add ?_ _|refine Zf.Zj ?_ (by first|omega|(simp;omega)) _|refine Zf.trans (by assumption) ?_))
    ·by_cases q4:top<0
     ·simp +contextual -implicitDefEqProofs only[go_sem,↓reduceIte,q1,q2,q3,q4]
      (repeat' (first|exact Zf.refl _ _|assumption|refine Zf.add ?_ _|refine Zf.Zj ?_ (by first|omega|(simp;omega)) _|refine Zf.trans (by assumption) ?_))
     ·have q5:1073741824<top:=by omega
      simp +contextual -implicitDefEqProofs only[go_sem,↓reduceIte,q1,q2,q3,q4,q5]
      (repeat' (first|exact Zf.refl _ _|assumption|refine Zf.add ?_ _|refine Zf.Zj ?_ (by first|omega|(simp;omega)) _|refine Zf.trans (by assumption) ?_))
  ·simp +contextual -implicitDefEqProofs only[go_sem,↓reduceIte,q1]
   (repeat' (first|exact Zf.refl _ _|assumption|refine Zf.add ?_ _|refine Zf.Zj ?_ (by first|omega|(simp;omega)) _|refine Zf.trans (by assumption) ?_))
 ·have q1:(n:Int)=32:=by omega
  have q2:¬ZH<0:=by omega
  have q3:¬1073741824<ZH:=by omega
  have q4:¬top<0:=by omega
  have q5:¬1073741824<top:=by omega
  simp +contextual -implicitDefEqProofs only[go_sem,↓reduceIte,q1,q2,q3,q4,q5,hs',tk]
  obtain⟨H,hH⟩:=Zx (h.push (.cells (.slice p n c :: .int .i64 ZH :: .int .i64 top :: s.map Value.bool).toArray 138):Hp)
  have hb:Zf h.size h H:=by rw[hH];exact (Zf.refl _ _).add _
  have x1:H[h.size]? = some (.cells (.slice p n c :: .int .i64 ZH :: .int .i64 top :: s.map Value.bool).toArray 138):=by rw[hH];exact Zb
  have x2:hc H ⟨h.size,2,none⟩=some (.int .i64 top):=by rw[Zg x1];rfl
  have x7:hc H ⟨h.size,3+7,none⟩=some (.bool (s.getD 7 false)):=by rw[Zg x1];exact n7
  rw[←hH]
  refine VS.ZW (fun F g=>g=H∧F 1=.pointer (some ⟨h.size,0,none⟩)∧F 30=.agg (s.map Value.bool).toArray∧∃i:Nat,i≤8∧F 31=.int .i64 i∧early top s i=false)
   (fun F _=>8-(vi (F 31)).toNat) rfl ⟨rfl,rfl,rfl,0,by omega,rfl,rfl⟩ ?_
  rintro F g ⟨rfl,f1,f30,i,hi,f31,he⟩
  by_cases ZD:i<8
  ·have ZL:(i:Int)<8:=by omega
   have ni:=Zck s i (by omega)
   by_cases c1:s.getD i false=true
   ·rw[c1]at ni
    by_cases c2:top-8+i<0
    ·have e:Xh n ZH top s=5:=by unfold Xh;rw[if_neg q,if_pos (ZmR ZD c1 c2)]
     rw[e]
     simp +contextual -implicitDefEqProofs only[go_sem,↓reduceIte,f1,f30,f31,ZL,ni,x2,c2,hb]
    ·simp +contextual -implicitDefEqProofs only[go_sem,↓reduceIte,f1,f30,f31,ZL,ni,x2,c2]
     refine⟨⟨rfl,f1,f30,i+1,ZD,rfl,by rw[Zgs,he,c1];simpa using c2⟩,?_⟩
     simp only[vi,Zk,↓reduceIte,f31];omega
   ·have c1:s.getD i false=false:=by simpa using c1
    rw[c1]at ni
    simp +contextual -implicitDefEqProofs only[go_sem,↓reduceIte,f1,f30,f31,ZL,ni]
    refine⟨⟨rfl,f1,f30,i+1,ZD,rfl,by rw[Zgs,he,c1];rfl⟩,?_⟩
    simp only[vi,Zk,↓reduceIte,f31];omega
  ·have YK:¬(i:Int)<8:=by omega
   obtain rfl:i=8:=by omega
   have e:Xh n ZH top s=if 0<top∧s.getD 7 false=false then 5 else 0:=by unfold Xh;rw[if_neg q,he];rfl
   rw[e]
   by_cases c1:0<top
   ·by_cases c2:s.getD 7 false=true
    ·rw[c2]at x7
     simp +contextual -implicitDefEqProofs only[go_sem,↓reduceIte,f1,f30,f31,YK,x2,x7,c1,c2,hb]
    ·have c2:s.getD 7 false=false:=by simpa using c2
     rw[c2]at x7
     simp +contextual -implicitDefEqProofs only[go_sem,↓reduceIte,f1,f30,f31,YK,x2,x7,c1,c2,hb]
   ·simp +contextual -implicitDefEqProofs only[go_sem,↓reduceIte,f1,f30,f31,YK,x2,c1,hb]
def Zbn (top:Int) (s:List Bool) (n:Nat):List Int:=((List.range n).filter fun i=>s.getD i false).map fun i:Nat=>top-8+(i:Int)
theorem ZpM (top:Int) (s:List Bool) (i:Nat):Zbn top s (i+1)=Zbn top s i++(if s.getD i false=true then [top-8+(i:Int)] else []):=by
 unfold Zbn
 rw[List.range_succ,List.filter_append,List.map_append]
 congr 1
 by_cases h:s.getD i false=true
 ·rw[List.filter_cons_of_pos (by simpa using h),if_pos h];rfl
 ·rw[List.filter_cons_of_neg (by simpa using h),if_neg h];rfl
def Xs (l:List Int) (t:Int):List Bool:=(List.range 8).map fun k:Nat=>l.any fun x=>x-t+8 == (k:Int)
theorem Zax (l:List Int) (t:Int):(Xs l t).length=8:=by simp[Xs]
theorem ZeX (l:List Int) (t x:Int) (hx:x-t+8<8):Xs (l++[x]) t=if 0≤x-t+8 then (Xs l t).set (x-t+8).toNat true else Xs l t:=by
 apply List.ext_getElem
 ·split<;>simp[Xs]
 ·intro k h1 h2
  have hk:k<8:=by simpa [Xs] using h1
  by_cases h0:0≤x-t+8
  ·simp only[if_pos h0,List.getElem_set]
   by_cases e:(x-t+8).toNat=k
   ·rw[if_pos e]
    simp only[Xs,List.getElem_map,List.getElem_range,List.any_append,List.any_cons,List.any_nil,Bool.or_false,Bool.or_eq_true]
    right
    simp only[beq_iff_eq];omega
   ·rw[if_neg e]
    simp only[Xs,List.getElem_map,List.getElem_range,List.any_append,List.any_cons,List.any_nil,Bool.or_false]
    have:(x-t+8 == (k:Int))=false:=by simp only[beq_eq_false_iff_ne,ne_eq];omega
    rw[this,Bool.or_false]
  ·simp only[if_neg h0]
   simp only[Xs,List.getElem_map,List.getElem_range,List.any_append,List.any_cons,List.any_nil,Bool.or_false]
   have:(x-t+8 == (k:Int))=false:=by simp only[beq_eq_false_iff_ne,ne_eq];omega
   rw[this,Bool.or_false]
def Ub:List Value:=[.slice none 0 0,.int .i64 0,.int .i64 0,.bool false,.bool false,.bool false,.bool false,.bool false,.bool false,.bool false,.bool false]
theorem Zkp (k:Value) (ZH top:Int) (s:List Bool) (i:Nat):(ZO k ZH top s).set (3+i) (.bool true)=ZO k ZH top (s.set i true):=by
 rw[show 3+i=i+1+1+1 by omega]
 simp[ZO,List.map_set]
def Zjc (B:Nat) (h':Hp) (v':Value) (kl:List Nat) (ZH top:Int) (s:List Bool):Prop:=∃w,v'=.agg (ZO w ZH top s).toArray∧ZZ B 5 h' w kl
theorem Ya (k:Value) (ZH top:Int) (s:List Bool) (hs:s.length=8):(ZO k ZH top s).length=11:=by simp[ZO,hs]
theorem Qk {p:Option Addr} {n c:Nat} (ZH top:Int) (s:List Bool):(ZO (.slice p n c) ZH top s).all Z8=true:=by simp[ZO,Z8]
theorem ZmS (k w:Value) (ZH top:Int) (s:List Bool):(ZO k ZH top s).set 0 w=ZO w ZH top s:=rfl
theorem ZpN {h h2:Hp} {kl:List Nat} {p:Option Addr} {c:Nat} {k:Value} {ZH top:Int} {s:List Bool} (hs:s.length=8) (b:Zf (h.size+2) ((h.push (.cells (ZO k ZH top s).toArray 138)).push (.cells Ub.toArray 138)) h2) :
  Jp h2 ⟨h.size,0,none⟩ (.slice p kl.length c)=some (h2.setIfInBounds h.size (.cells (ZO (.slice p kl.length c) ZH top s).toArray 138))∧h2[h.size+1]? = some (.cells Ub.toArray 138)∧h.size+2≤h2.size:=by
 have x0:h2[h.size]? = some (.cells (ZO k ZH top s).toArray 138):=b.get (by omega) (by rw[Zq (by simp),Zb])
 have x1:h2[h.size+1]? = some (.cells Ub.toArray 138):=b.get (by omega) (by have:=Zb (h:=h.push (.cells (ZO k ZH top s).toArray 138)) (o:=.cells Ub.toArray 138);rw[Array.size_push]at this;exact this)
 have z:=b.size
 simp at z
 refine⟨?_,x1,by omega⟩
 rw[Yu x0,if_pos ⟨by rw[Ya _ _ _ _ hs];omega,rfl⟩,ZmS]
theorem Zsx (T:World) (h:Hp) (k:Value) (kl:List Nat) (ZH top:Int) (s:List Bool) (hs:s.length=8) (sk:Bs h k kl) (hk:kl.length≤140737488355328) :
  Zd Tryz.prog T 113 #[.agg (ZO k ZH top s).toArray] h fun v' h'=>Zjc h.size h' v' kl ZH top s∧Zf h.size h h':=by
 obtain⟨p,c,rfl,_⟩:=sk.open
 refine Zd.Zi (args:=[_]) Tryz.func113 rfl rfl rfl rfl ?_
 have hs':(s.map Value.bool).length=8:=by rw[List.length_map,hs]
 unfold ZO
 simp +contextual -implicitDefEqProofs only[go_sem,↓reduceIte]
 refine (Zgp T _ _ kl (sk.Z9 ((Zf.refl h.size h).add _ |>.add _)) hk).use ?_
 rintro w h2 ⟨ow,b2⟩
 have b2':Zf (h.size+2) _ h2:=b2.mono (by simp)
 have hB:Zf h.size h h2:=((Zf.refl h.size h).add _ |>.add _).trans (b2.mono (by simp;omega))
 obtain⟨pw,cw,rfl,_⟩:=ow.open
 obtain⟨y1,y2,y3⟩:=ZpN (kl:=kl) (p:=pw) (c:=cw) hs b2'
 have ow:=ow.mono (B':=h.size+2) (by simp)
 have y4:=ZQ y2 0 (ZO (.slice pw kl.length cw) ZH top s)
 rw[ZN (Ya _ _ _ _ hs),if_pos ⟨by rw[Ya _ _ _ _ hs];exact Nat.le_refl _,Qk _ _ _⟩]at y4
 obtain⟨C,hC⟩:=Zx (ZO (.slice pw kl.length cw) ZH top s)
 have U7:C.length=11:=by rw[hC];exact Ya _ _ _ _ hs
 have tk:=Xi U7
 rw[←hC]at y1 y4
 have y5:=ZQ (h:=h2.setIfInBounds h.size (.cells C.toArray 138)) (b:=h.size+1) (l:=Ub) (t:=138) (by rw[Array.getElem?_setIfInBounds,if_neg (by omega)];exact y2) 0 C
 have Xf:C.all Z8=true:=by rw[hC];exact Qk _ _ _
 rw[ZN (by rw[U7];rfl),if_pos ⟨by rw[U7];exact Nat.le_refl _,Xf⟩]at y5
 clear y4
 simp +contextual -implicitDefEqProofs only[go_sem,↓reduceIte,y1,y5,U7,tk]
 refine⟨⟨_,by rw[hC],?_⟩,(hB.Zj (by omega) _).Zj (by omega) _⟩
 exact ((ow.ZR (by omega) _).ZR (by omega) _).mono (by omega)
end Go.Proofs.YtnhbpmoeaodmnaaGreatDoor
