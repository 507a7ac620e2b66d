/- Part Line. -/
import Derived.Test.YthlfaofofaphfaaGreatDoorTape
import Derived.Test.YthlfaofofaphfaaGreatDoorW8
import Derived.Test.YthlfaofofaphfaaGreatDoorVst
import Derived.Test.YthlfaofofaphfaaGreatDoorBytes
open Go.Value renaming int→r,bool→y,slice→A,agg→G,pointer→N
open Go.IntKind renaming i64→j
open Go.Obj renaming cells→m
open Go.Proofs.Tryz renaming prog→aa
open List renaming length→u,getElem_range→L,getElem_map→O,any_append→Q,any_cons→S,any_nil→U,range_succ→X,length_map→Y,range→Z
open Nat renaming le_refl→R
open Option renaming some→D,none→M
open Array renaming getElem?_setIfInBounds→K,size_push→W
open Bool renaming or_false→J
open Go renaming Value→E
namespace Go.Proofs.YthlfaofofaphfaaGreatDoor
open Go Go.V
set_option linter.unusedSimpArgs false
set_option linter.unusedVariables false
set_option maxRecDepth 100000
def XH(l:List Nat)(i:Nat):Nat:=l.getD i 0*16777216+l.getD (i+1) 0*65536+l.getD (i+2) 0*256+l.getD (i+3) 0
theorem By{a b c d:Nat}(ha:a<256)(hb:b<256)(hc:c<256)(hd:d<256):
  YO .or j (YO .or j (YO .or j (Xr j a 24) (Xr j b 16)) (Xr j c 8)) d=((a*16777216+b*65536+c*256+d:Nat):Int):=by
 have e1:Xr j (a:Int) 24=((a*16777216:Nat):Int):=Rk ha 24 pA;have e2:Xr j (b:Int) 16=((b*65536:Nat):Int):=Rk hb 16 pA;have e3:Xr j (c:Int) 8=((c*256:Nat):Int):=Rk hc 8 pA;have f1:a*16777216 ||| b*65536=a*16777216+b*65536:=Uw (k:=24) pA pA
 have f2:(a*16777216+b*65536) ||| c*256=a*16777216+b*65536+c*256:=Uw (k:=16) pA pA
 rw[e1,e2,e3,Mp _ _ pA pA,f1,Mp _ _ pA pA,f2,Mp _ _ pA pA,Uw (k:=8) pA pA]
def HK:List E:=Ua 0 0 0 0 0
def QA(l:List Nat):Int:=if (u l)=20 then YC (XH l 0) (XH l 4) (XH l 8) (XH l 12) (XH l 16) else 1
def Fb(l:List Nat):List E:=if QA l=0 then Ua (XH l 0) (XH l 4) (XH l 8) (XH l 12) (XH l 16) else HK
theorem DT(T:World)(h:Hp)(v:E)(l:List Nat)(s:Bs h v l)(hl:(u l)<=140737488355328):
  Zd aa T 83 #[v] h fun v' h'=>v'=.tuple [G (Fb l).toArray,r j (QA l)].toArray/\Zj h.size h h':=by
 obtain⟨p,c,rfl,WB⟩:=s.VM;refine Zd.XS [_] Tryz.func83 ?_;by_cases h20:(u l)=20
 .have Zg2:((u l):Int)=20:=pA;obtain⟨b,o,rfl,hb,XL⟩:=WB (by intro e;subst e;simp at h20);simp +contextual -implicitDefEqProofs only[go_sem,Zg2,h20];refine (Fa T _ (h.size+1)).use ?_;rintro v1 h1 ⟨rfl,b1⟩;have b1':Zj (h.size+2) _ h1:=b1.mono IQ;have z1:h.size+2<=h1.size:=by have:=b1.size;simp at this;omega
  have x0:h1[h.size]? = D (m HK.toArray 25):=b1'.get pA (by rw[ZJ IQ,Zc];rfl);have x1:h1[h.size+1]? = D (m HK.toArray 25):=b1'.get pA (by have:=Zc (h:=h.push (m HK.toArray 25)) (o:=m HK.toArray 25);rw[W]at this;exact this);have Zfy:Zj h.size h h1:=(((Zj.refl h.size h).add _).add _).trans (b1.mono VL);clear b1 b1';obtain⟨xs,hxs⟩:∃xs:List E,xs=Ua (XH l 0) (XH l 4) (XH l 8) (XH l 12) (XH l 16):=⟨_,rfl⟩
  have hx5:(u xs)=5:=by rw[hxs];rfl
  have hxi:∀i (hi:i<5),xs[i]'pA=r j (XH l (4*i):Nat):=by
   intro i hi;subst hxs;rcases i with _|_|_|_|_|i<;>first|rfl|omega
  simp +contextual -implicitDefEqProofs only[go_sem];refine VS.Yk (fun F g=>Zj (h.size+1) h1 g/\F 0=A (D ⟨b,o,M⟩) 20 c/\F 2=N (D ⟨h.size,0,M⟩)/\F 4=N (D ⟨h.size+1,0,M⟩)/\F 12=G (Zg1 (h.size+1)).toArray/\∃i:Nat,i<=5/\F 13=r j i/\g[h.size+1]? = D (m (xs.take i++HK.drop i).toArray 25))
   (fun F _=>5-(vi (F 13)).toNat) rfl ⟨Zj.refl _ _,rfl,rfl,rfl,rfl,0,pA,rfl,by rw[DM];exact x1⟩ ?_
  rintro F g ⟨Qi,f0,f2,f4,f12,i,hi,f13,hg⟩;by_cases ZT:i<5
  .have Z7:(i:Int)<5:=pA;have p1:=aY (h.size+1) i ZT;simp +contextual -implicitDefEqProofs only[go_sem,f0,f4,f12,f13,Z7,p1];refine VS.b (h.size+1) [(0,true),(1,true),(2,true),(3,true),(4,true),(5,true),(6,true),(7,true),(8,true),(9,true),(10,true),(11,true),(12,true),(13,true),(14,true),(15,true),(16,true),(17,true),(18,true),(19,true),(20,true),(21,true),(22,true),(23,true),(24,true),(25,true),(26,true),(27,true),(28,true),(29,true),(30,true),(31,true),(32,true),(33,true),(34,true),(35,false)] mixed vM ?_;have g0:∀i,i<20->hc g ⟨b,o+i,M⟩=D (r .u8 (l.getD i 0:Nat)):=fun i hi=>by rw[Qi.hc (by show b<h.size+1;omega),Zfy.hc (by exact hb)];exact XL i pA
   have e0:=g0 (4*i) pA;have e1:=g0 (4*i+1) pA;have e2:=g0 (4*i+2) pA;have e3:=g0 (4*i+3) pA;have b0:=Z4 s.byte (4*i);have b1:=Z4 s.byte (4*i+1);have b2:=Z4 s.byte (4*i+2);have b3:=Z4 s.byte (4*i+3);have t0:(4*(i:Int)).toNat=4*i:=pA;have t1:(4*(i:Int)+1).toNat=4*i+1:=pA;have t2:(4*(i:Int)+2).toNat=4*i+2:=pA;have t3:(4*(i:Int)+3).toNat=4*i+3:=pA;have r1:i+1<6:=pA;have hlen:(xs.take i++HK.drop i).length=5:=by rw[Si _ _ _ pA (by rw[hx5];rfl),hx5]
   have eo:=By b0 b1 b2 b3;rw[show l.getD (4*i) 0*16777216+l.getD (4*i+1) 0*65536+l.getD (4*i+2) 0*256+l.getD (4*i+3) 0=XH l (4*i) from rfl]at eo;simp +contextual -implicitDefEqProofs only[go_sem,f0,f4,e0,e1,e2,e3,t0,t1,t2,t3,eo];rw[Xj hg,if_pos ⟨pA,rfl⟩];simp +contextual -implicitDefEqProofs only[go_sem,f13];refine⟨(Zj.refl _ _).Zt pA _,⟨Qi.Zt pA _,f0,f2,f4,f12,i+1,ZT,rfl,?_⟩,?_⟩
   .rw[<-hxi i ZT,KB _ _ _ pA (by rw[hx5];rfl),K,if_pos rfl,if_pos (Za hg)]
   .simp only[vi,Zr,↓reduceIte,f13];omega
  .have Xv:¬(i:Int)<5:=pA;obtain rfl:i=5:=pA;rw[<-hx5,KC _ _ (by rw[hx5];rfl)]at hg;have Wf:rd g ⟨h.size+1,0,M⟩ 5=D (Ua (XH l 0) (XH l 4) (XH l 8) (XH l 12) (XH l 16)):=by rw[<-hxs];exact Zy hg hx5
   simp +contextual -implicitDefEqProofs only[go_sem,f2,f4,f12,f13,Xv,Wf];refine (UG T _ _ _ _ _ _).use ?_;rintro v1 h2 ⟨rfl,rfl⟩;have y0:g[h.size]? = D (m HK.toArray 25):=Qi.get pA x0;have y1:rd g ⟨h.size,0,M⟩ 5=D HK:=Zy y0 rfl;unfold Fb QA;rw[if_pos h20];have zg:h.size+2<=g.size:=Nat.le_trans z1 Qi.size;have hB:=Zfy.trans (Qi.mono pA);have y2:=Ye y0 0;unfold HK Ua at *;by_cases q:YC (XH l 0) (XH l 4) (XH l 8) (XH l 12) (XH l 16)=0
   .rw[if_pos q];simp +contextual -implicitDefEqProofs only[go_sem,q,f2,f4,Wf,y1,y2];exact (hB.Zt (R _) _).YX VL _
   .simp only[if_neg q];simp +contextual -implicitDefEqProofs only[go_sem,q,f2,f4,Wf,y1,y2];exact (hB.Zt (R _) _).YX VL _
 .have Zg2:¬((u l):Int)=20:=pA;unfold Fb QA HK Ua;simp +contextual -implicitDefEqProofs only[go_sem,Zg2,h20]
  (repeat' (first|exact Zj.refl _ _|assumption|refine Zj.add ?_ _|refine Zj.Zt ?_ aab _|refine Zj.trans aac ?_))
def Yc(k:E)(Z2 Z5:Int)(s:List Bool):List E:=k :: r j Z2 :: r j Z5 :: s.map Value.bool
def iv(x:Int):List E:=[r j x]
def early(Z5:Int)(s:List Bool)(n:Nat):Bool:=(Z n).any fun i=>s.getD i false&&decide (Z5-8+i<0)
def Ji(n:Nat)(Z2 Z5:Int)(s:List Bool):Int:=
 if n≠32\/Z2<0\/1073741824<Z2\/Z5<0\/1073741824<Z5 then 5 else
 if early Z5 s 8=true then 5 else if 0<Z5/\s.getD 7 false=false then 5 else 0
theorem Nc(s:List Bool)(i:Nat)(hi:i<(u s)):nth (s.map Value.bool) i=D (y (s.getD i false)):=by
 rw[YU,List.getElem?_map,List.getD_eq_getElem?_getD,List.getElem?_eq_getElem hi];rfl
theorem Fc(Z5:Int)(s:List Bool)(i:Nat):early Z5 s (i+1)=(early Z5 s i||(s.getD i false&&decide (Z5-8+i<0))):=by
 simp[early,X]
theorem iR{Z5:Int}{s:List Bool}{i:Nat}(hi:i<8)(h1:s.getD i false=true)(h2:Z5-8+i<0):early Z5 s 8=true:=by
 unfold early;rw[List.any_eq_true];exact⟨i,List.mem_range.2 hi,by simp only[h1,Bool.true_and,decide_eq_true_eq];exact h2⟩
theorem Ly(T:World)(h:Hp)(p:Option Addr)(n c:Nat)(Z2 Z5:Int)(s:List Bool)(hs:(u s)=8):
  Zd aa T 30 #[G (Yc (A p n c) Z2 Z5 s).toArray] h fun v' h'=>v'=r j (Ji n Z2 Z5 s)/\Zj h.size h h':=by
 refine Zd.XS [_] Tryz.func30 ?_;have Od:(s.map Value.bool).length=8:=by rw[Y,hs]
 have tk:(s.map Value.bool).take 8=s.map Value.bool:=Xt Od;have n7:=Nc s 7 pA;unfold Yc;by_cases q:n≠32\/Z2<0\/1073741824<Z2\/Z5<0\/1073741824<Z5
 .have e:Ji n Z2 Z5 s=5:=by unfold Ji;rw[if_pos q]
  rw[e];by_cases q1:(n:Int)=32
  .by_cases q2:Z2<0
   .simp +contextual -implicitDefEqProofs only[go_sem,q1,q2]
    (repeat' (first|exact Zj.refl _ _|assumption|refine Zj.add ?_ _|refine Zj.Zt ?_ aab _|refine Zj.trans aac ?_))
   .by_cases q3:1073741824<Z2
    .simp +contextual -implicitDefEqProofs only[go_sem,q1,q2,q3]
     (repeat' (first|exact Zj.refl _ _|assumption|refine Zj.add ?_ _|refine Zj.Zt ?_ aab _|refine Zj.trans aac ?_))
    .by_cases q4:Z5<0
     .simp +contextual -implicitDefEqProofs only[go_sem,q1,q2,q3,q4]
      (repeat' (first|exact Zj.refl _ _|assumption|refine Zj.add ?_ _|refine Zj.Zt ?_ aab _|refine Zj.trans aac ?_))
     .have q5:1073741824<Z5:=pA;simp +contextual -implicitDefEqProofs only[go_sem,q1,q2,q3,q4,q5]
      (repeat' (first|exact Zj.refl _ _|assumption|refine Zj.add ?_ _|refine Zj.Zt ?_ aab _|refine Zj.trans aac ?_))
  .simp +contextual -implicitDefEqProofs only[go_sem,q1]
   (repeat' (first|exact Zj.refl _ _|assumption|refine Zj.add ?_ _|refine Zj.Zt ?_ aab _|refine Zj.trans aac ?_))
 .have q1:(n:Int)=32:=pA;have q2:¬Z2<0:=pA;have q3:¬1073741824<Z2:=pA;have q4:¬Z5<0:=pA;have q5:¬1073741824<Z5:=pA;simp +contextual -implicitDefEqProofs only[go_sem,q1,q2,q3,q4,q5,Od,tk];obtain⟨H,hH⟩:=ZL (h.push (m (A p n c :: r j Z2 :: r j Z5 :: s.map Value.bool).toArray 66):Hp);have hb:Zj h.size h H:=by rw[hH];exact (Zj.refl _ _).add _
  have x1:H[h.size]? = D (m (A p n c :: r j Z2 :: r j Z5 :: s.map Value.bool).toArray 66):=by rw[hH];exact Zc
  have x2:hc H ⟨h.size,2,M⟩=D (r j Z5):=by rw[Zn x1];rfl
  have x7:hc H ⟨h.size,3+7,M⟩=D (y (s.getD 7 false)):=by rw[Zn x1];exact n7
  rw[<-hH];refine VS.Yk (fun F g=>g=H/\F 1=N (D ⟨h.size,0,M⟩)/\F 30=G (s.map Value.bool).toArray/\∃i:Nat,i<=8/\F 31=r j i/\early Z5 s i=false)
   (fun F _=>8-(vi (F 31)).toNat) rfl ⟨rfl,rfl,rfl,0,pA,rfl,rfl⟩ ?_
  rintro F g ⟨rfl,f1,f30,i,hi,f31,he⟩;by_cases ZT:i<8
  .have Z7:(i:Int)<8:=pA;have ni:=Nc s i pA;by_cases c1:s.getD i false=true
   .rw[c1]at ni;by_cases c2:Z5-8+i<0
    .have e:Ji n Z2 Z5 s=5:=by unfold Ji;rw[if_neg q,if_pos (iR ZT c1 c2)]
     rw[e];simp +contextual -implicitDefEqProofs only[go_sem,f1,f30,f31,Z7,ni,x2,c2,hb]
    .simp +contextual -implicitDefEqProofs only[go_sem,f1,f30,f31,Z7,ni,x2,c2];refine⟨⟨rfl,f1,f30,i+1,ZT,rfl,by rw[Fc,he,c1];simpa using c2⟩,?_⟩;simp only[vi,Zr,↓reduceIte,f31];omega
   .have c1:s.getD i false=false:=by simpa using c1
    rw[c1]at ni;simp +contextual -implicitDefEqProofs only[go_sem,f1,f30,f31,Z7,ni];refine⟨⟨rfl,f1,f30,i+1,ZT,rfl,by rw[Fc,he,c1];rfl⟩,?_⟩;simp only[vi,Zr,↓reduceIte,f31];omega
  .have Xv:¬(i:Int)<8:=pA;obtain rfl:i=8:=pA;have e:Ji n Z2 Z5 s=if 0<Z5/\s.getD 7 false=false then 5 else 0:=by unfold Ji;rw[if_neg q,he];rfl
   rw[e];by_cases c1:0<Z5
   .by_cases c2:s.getD 7 false=true
    .rw[c2]at x7;simp +contextual -implicitDefEqProofs only[go_sem,f1,f30,f31,Xv,x2,x7,c1,c2,hb]
    .have c2:s.getD 7 false=false:=by simpa using c2
     rw[c2]at x7;simp +contextual -implicitDefEqProofs only[go_sem,f1,f30,f31,Xv,x2,x7,c1,c2,hb]
   .simp +contextual -implicitDefEqProofs only[go_sem,f1,f30,f31,Xv,x2,c1,hb]
def Pa(Z5:Int)(s:List Bool)(n:Nat):List Int:=((Z n).filter fun i=>s.getD i false).map fun i:Nat=>Z5-8+(i:Int)
theorem qG(Z5:Int)(s:List Bool)(i:Nat):Pa Z5 s (i+1)=Pa Z5 s i++(if s.getD i false=true then [Z5-8+(i:Int)] else []):=by
 unfold Pa;rw[X,List.filter_append,List.map_append]
 congr 1
 by_cases h:s.getD i false=true
 .rw[List.filter_cons_of_pos (by simpa using h),if_pos h];rfl
 .rw[List.filter_cons_of_neg (by simpa using h),if_neg h];rfl
def JF(l:List Int)(t:Int):List Bool:=(Z 8).map fun k:Nat=>l.any fun x=>x-t+8 == (k:Int)
theorem SJ(l:List Int)(t:Int):(JF l t).length=8:=by simp[JF]
theorem IS(l:List Int)(t x:Int)(hx:x-t+8<8):JF (l++[x]) t=if 0<=x-t+8 then (JF l t).set (x-t+8).toNat true else JF l t:=by
 apply List.ext_getElem
 .split<;>simp[JF]
 .intro k h1 h2;have hk:k<8:=by simpa [JF] using h1
  by_cases h0:0<=x-t+8
  .simp only[if_pos h0,List.getElem_set];by_cases e:(x-t+8).toNat=k
   .rw[if_pos e];simp only[JF,O,L,Q,S,U,J,Bool.or_eq_true];right;simp only[beq_iff_eq];omega
   .rw[if_neg e];simp only[JF,O,L,Q,S,U,J];have:(x-t+8 == (k:Int))=false:=by simp only[beq_eq_false_iff_ne,ne_eq];omega
    rw[this,J]
  .simp only[if_neg h0];simp only[JF,O,L,Q,S,U,J];have:(x-t+8 == (k:Int))=false:=by simp only[beq_eq_false_iff_ne,ne_eq];omega
   rw[this,J]
def Vl:List E:=[A M 0 0,r j 0,r j 0,y false,y false,y false,y false,y false,y false,y false,y false]
theorem aZ(k:E)(Z2 Z5:Int)(s:List Bool)(i:Nat):(Yc k Z2 Z5 s).set (3+i) (y true)=Yc k Z2 Z5 (s.set i true):=by
 rw[show 3+i=i+1+1+1 by omega];simp[Yc,List.map_set]
def Bz(B:Nat)(h':Hp)(v':E)(kl:List Nat)(Z2 Z5:Int)(s:List Bool):Prop:=∃w,v'=G (Yc w Z2 Z5 s).toArray/\YB B 5 h' w kl
theorem YP(k:E)(Z2 Z5:Int)(s:List Bool)(hs:(u s)=8):(Yc k Z2 Z5 s).length=11:=by simp[Yc,hs]
theorem U1{p:Option Addr}{n c:Nat}(Z2 Z5:Int)(s:List Bool):(Yc (A p n c) Z2 Z5 s).all YE=true:=by simp[Yc,YE]
theorem iS(k w:E)(Z2 Z5:Int)(s:List Bool):(Yc k Z2 Z5 s).set 0 w=Yc w Z2 Z5 s:=rfl
theorem qH{h h2:Hp}{kl:List Nat}{p:Option Addr}{c:Nat}{k:E}{Z2 Z5:Int}{s:List Bool}(hs:(u s)=8)(b:Zj (h.size+2) ((h.push (m (Yc k Z2 Z5 s).toArray 66)).push (m Vl.toArray 66)) h2):
  QX h2 ⟨h.size,0,M⟩ (A p (u kl) c)=D (h2.setIfInBounds h.size (m (Yc (A p (u kl) c) Z2 Z5 s).toArray 66))/\h2[h.size+1]? = D (m Vl.toArray 66)/\h.size+2<=h2.size:=by
 have x0:h2[h.size]? = D (m (Yc k Z2 Z5 s).toArray 66):=b.get pA (by rw[ZJ IQ,Zc]);have x1:h2[h.size+1]? = D (m Vl.toArray 66):=b.get pA (by have:=Zc (h:=h.push (m (Yc k Z2 Z5 s).toArray 66)) (o:=m Vl.toArray 66);rw[W]at this;exact this);have z:=b.size;simp at z;refine⟨?_,x1,pA⟩;rw[Xj x0,if_pos ⟨by rw[YP _ _ _ _ hs];omega,rfl⟩,iS]
theorem yE(T:World)(h:Hp)(k:E)(kl:List Nat)(Z2 Z5:Int)(s:List Bool)(hs:(u s)=8)(sk:Bs h k kl)(hk:(u kl)<=140737488355328):
  Zd aa T 34 #[G (Yc k Z2 Z5 s).toArray] h fun v' h'=>Bz h.size h' v' kl Z2 Z5 s/\Zj h.size h h':=by
 obtain⟨p,c,rfl,_⟩:=sk.open;refine Zd.XS [_] Tryz.func34 ?_;have Od:(s.map Value.bool).length=8:=by rw[Y,hs]
 unfold Yc;simp +contextual -implicitDefEqProofs only[go_sem];refine (On T _ _ kl (sk.Yz ((Zj.refl h.size h).add _ |>.add _)) hk).use ?_;rintro w h2 ⟨ow,b2⟩;have vr:Zj (h.size+2) _ h2:=b2.mono IQ;have hB:Zj h.size h h2:=((Zj.refl h.size h).add _ |>.add _).trans (b2.mono VL);obtain⟨pw,cw,rfl,_⟩:=ow.open;obtain⟨y1,y2,y3⟩:=qH (kl:=kl) (p:=pw) (c:=cw) hs vr;have ow:=ow.mono (B':=h.size+2) IQ;have y4:=Ye y2 0 (Yc (A pw (u kl) cw) Z2 Z5 s);rw[ZW (YP _ _ _ _ hs),if_pos ⟨by rw[YP _ _ _ _ hs];exact R _,U1 _ _ _⟩]at y4;obtain⟨C,hC⟩:=ZL (Yc (A pw (u kl) cw) Z2 Z5 s);have T5:(u C)=11:=by rw[hC];exact YP _ _ _ _ hs
 have tk:=Xt T5;rw[<-hC]at y1 y4;have y5:=Ye (h:=h2.setIfInBounds h.size (m C.toArray 66)) (b:=h.size+1) (l:=Vl) (t:=66) (by rw[K,if_neg pA];exact y2) 0 C;have X3:C.all YE=true:=by rw[hC];exact U1 _ _ _
 rw[ZW (by rw[T5];rfl),if_pos ⟨by rw[T5];exact R _,X3⟩]at y5;clear y4;simp +contextual -implicitDefEqProofs only[go_sem,y1,y5,T5,tk];refine⟨⟨_,by rw[hC],?_⟩,(hB.Zt pA _).Zt pA _⟩;exact ((ow.Ya pA _).Ya pA _).mono pA
end Go.Proofs.YthlfaofofaphfaaGreatDoor
