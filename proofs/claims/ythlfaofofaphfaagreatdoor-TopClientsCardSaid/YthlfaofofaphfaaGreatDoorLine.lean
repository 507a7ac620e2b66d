/- Part Line. -/
import Derived.Test.YthlfaofofaphfaaGreatDoorTape
import Derived.Test.YthlfaofofaphfaaGreatDoorW8
import Derived.Test.YthlfaofofaphfaaGreatDoorVst
import Derived.Test.YthlfaofofaphfaaGreatDoorBytes
open Go.Value renaming int→r,bool→y,slice→A,agg→G,pointer→N
open Go.IntKind renaming i64→j
open Go.Obj renaming cells→m
open Go.Proofs.Tryz renaming prog→aa
open List renaming length→u,getElem_range→L,getElem_map→O,any_append→Q,any_cons→S,any_nil→U,range_succ→X,length_map→Y,range→Z
open Nat renaming le_refl→R
open Option renaming some→D,none→M
open Array renaming getElem?_setIfInBounds→K,size_push→W
open Bool renaming or_false→J
open Go renaming Value→E
namespace Go.Proofs.YthlfaofofaphfaaGreatDoor
open Go Go.V
set_option linter.unusedSimpArgs false
set_option linter.unusedVariables false
set_option maxRecDepth 100000
def XB(l:List Nat)(i:Nat):Nat:=l.getD i 0*16777216+l.getD (i+1) 0*65536+l.getD (i+2) 0*256+l.getD (i+3) 0
theorem CO{a b c d:Nat}(ha:a<256)(hb:b<256)(hc:c<256)(hd:d<256):
  YM .or j (YM .or j (YM .or j (Xm j a 24) (Xm j b 16)) (Xm j c 8)) d=((a*16777216+b*65536+c*256+d:Nat):Int):=by
 have e1:Xm j (a:Int) 24=((a*16777216:Nat):Int):=SQ ha 24 nc;have e2:Xm j (b:Int) 16=((b*65536:Nat):Int):=SQ hb 16 nc;have e3:Xm j (c:Int) 8=((c*256:Nat):Int):=SQ hc 8 nc;have f1:a*16777216 ||| b*65536=a*16777216+b*65536:=Um (k:=24) nc nc
 have f2:(a*16777216+b*65536) ||| c*256=a*16777216+b*65536+c*256:=Um (k:=16) nc nc
 rw[e1,e2,e3,NK _ _ nc nc,f1,NK _ _ nc nc,f2,NK _ _ nc nc,Um (k:=8) nc nc]
def I4:List E:=QW 0 0 0 0 0
def Qr(l:List Nat):Int:=if (u l)=20 then YE (XB l 0) (XB l 4) (XB l 8) (XB l 12) (XB l 16) else 1
def Gw(l:List Nat):List E:=if Qr l=0 then QW (XB l 0) (XB l 4) (XB l 8) (XB l 12) (XB l 16) else I4
theorem Dh(T:World)(h:Hp)(v:E)(l:List Nat)(s:Bs h v l)(hl:(u l)<=140737488355328):
  Zd aa T 83 #[v] h fun v' h'=>v'=.tuple [G (Gw l).toArray,r j (Qr l)].toArray/\Zk h.size h h':=by
 obtain⟨p,c,rfl,Wr⟩:=s.VA;refine Zd.XS [_] Tryz.func83 ?_;by_cases h20:(u l)=20
 .have ZfZ:((u l):Int)=20:=nc;obtain⟨b,o,rfl,hb,XE⟩:=Wr (by intro e;subst e;simp at h20);simp +contextual -implicitDefEqProofs only[go_sem,ZfZ,h20];refine (Gv T _ (h.size+1)).use ?_;rintro v1 h1 ⟨rfl,b1⟩;have b1':Zk (h.size+2) _ h1:=b1.mono Hg;have z1:h.size+2<=h1.size:=by have:=b1.size;simp at this;omega
  have x0:h1[h.size]? = D (m I4.toArray 25):=b1'.get nc (by rw[ZJ Hg,Zc];rfl);have x1:h1[h.size+1]? = D (m I4.toArray 25):=b1'.get nc (by have:=Zc (h:=h.push (m I4.toArray 25)) (o:=m I4.toArray 25);rw[W]at this;exact this);have ZeB:Zk h.size h h1:=(((Zk.refl h.size h).add _).add _).trans (b1.mono KQ);clear b1 b1';obtain⟨xs,hxs⟩:∃xs:List E,xs=QW (XB l 0) (XB l 4) (XB l 8) (XB l 12) (XB l 16):=⟨_,rfl⟩
  have hx5:(u xs)=5:=by rw[hxs];rfl
  have hxi:∀i (hi:i<5),xs[i]'nc=r j (XB l (4*i):Nat):=by
   intro i hi;subst hxs;rcases i with _|_|_|_|_|i<;>first|rfl|omega
  simp +contextual -implicitDefEqProofs only[go_sem];refine VS.Yj (fun F g=>Zk (h.size+1) h1 g/\F 0=A (D ⟨b,o,M⟩) 20 c/\F 2=N (D ⟨h.size,0,M⟩)/\F 4=N (D ⟨h.size+1,0,M⟩)/\F 12=G (ZfY (h.size+1)).toArray/\∃i:Nat,i<=5/\F 13=r j i/\g[h.size+1]? = D (m (xs.take i++I4.drop i).toArray 25))
   (fun F _=>5-(vi (F 13)).toNat) rfl ⟨Zk.refl _ _,rfl,rfl,rfl,rfl,0,nc,rfl,by rw[E8];exact x1⟩ ?_
  rintro F g ⟨Qa,f0,f2,f4,f12,i,hi,f13,hg⟩;by_cases ZU:i<5
  .have Z8:(i:Int)<5:=nc;have p1:=AY (h.size+1) i ZU;simp +contextual -implicitDefEqProofs only[go_sem,f0,f4,f12,f13,Z8,p1];refine VS.b (h.size+1) [(0,true),(1,true),(2,true),(3,true),(4,true),(5,true),(6,true),(7,true),(8,true),(9,true),(10,true),(11,true),(12,true),(13,true),(14,true),(15,true),(16,true),(17,true),(18,true),(19,true),(20,true),(21,true),(22,true),(23,true),(24,true),(25,true),(26,true),(27,true),(28,true),(29,true),(30,true),(31,true),(32,true),(33,true),(34,true),(35,false)] mixed uf ?_;have g0:∀i,i<20->hc g ⟨b,o+i,M⟩=D (r .u8 (l.getD i 0:Nat)):=fun i hi=>by rw[Qa.hc (by show b<h.size+1;omega),ZeB.hc (by exact hb)];exact XE i nc
   have e0:=g0 (4*i) nc;have e1:=g0 (4*i+1) nc;have e2:=g0 (4*i+2) nc;have e3:=g0 (4*i+3) nc;have b0:=Z2 s.byte (4*i);have b1:=Z2 s.byte (4*i+1);have b2:=Z2 s.byte (4*i+2);have b3:=Z2 s.byte (4*i+3);have t0:(4*(i:Int)).toNat=4*i:=nc;have t1:(4*(i:Int)+1).toNat=4*i+1:=nc;have t2:(4*(i:Int)+2).toNat=4*i+2:=nc;have t3:(4*(i:Int)+3).toNat=4*i+3:=nc;have r1:i+1<6:=nc;have hlen:(xs.take i++I4.drop i).length=5:=by rw[TX _ _ _ nc (by rw[hx5];rfl),hx5]
   have eo:=CO b0 b1 b2 b3;rw[show l.getD (4*i) 0*16777216+l.getD (4*i+1) 0*65536+l.getD (4*i+2) 0*256+l.getD (4*i+3) 0=XB l (4*i) from rfl]at eo;simp +contextual -implicitDefEqProofs only[go_sem,f0,f4,e0,e1,e2,e3,t0,t1,t2,t3,eo];rw[Xe hg,if_pos ⟨nc,rfl⟩];simp +contextual -implicitDefEqProofs only[go_sem,f13];refine⟨(Zk.refl _ _).Zt nc _,⟨Qa.Zt nc _,f0,f2,f4,f12,i+1,ZU,rfl,?_⟩,?_⟩
   .rw[<-hxi i ZU,L1 _ _ _ nc (by rw[hx5];rfl),K,if_pos rfl,if_pos (Za hg)]
   .simp only[vi,Zr,↓reduceIte,f13];omega
  .have Xp:¬(i:Int)<5:=nc;obtain rfl:i=5:=nc;rw[<-hx5,L4 _ _ (by rw[hx5];rfl)]at hg;have UY:rd g ⟨h.size+1,0,M⟩ 5=D (QW (XB l 0) (XB l 4) (XB l 8) (XB l 12) (XB l 16)):=by rw[<-hxs];exact Zy hg hx5
   simp +contextual -implicitDefEqProofs only[go_sem,f2,f4,f12,f13,Xp,UY];refine (Uv T _ _ _ _ _ _).use ?_;rintro v1 h2 ⟨rfl,rfl⟩;have y0:g[h.size]? = D (m I4.toArray 25):=Qa.get nc x0;have y1:rd g ⟨h.size,0,M⟩ 5=D I4:=Zy y0 rfl;unfold Gw Qr;rw[if_pos h20];have zg:h.size+2<=g.size:=Nat.le_trans z1 Qa.size;have hB:=ZeB.trans (Qa.mono nc);have y2:=Ye y0 0;unfold I4 QW at *;by_cases q:YE (XB l 0) (XB l 4) (XB l 8) (XB l 12) (XB l 16)=0
   .rw[if_pos q];simp +contextual -implicitDefEqProofs only[go_sem,q,f2,f4,UY,y1,y2];exact (hB.Zt (R _) _).YU KQ _
   .simp only[if_neg q];simp +contextual -implicitDefEqProofs only[go_sem,q,f2,f4,UY,y1,y2];exact (hB.Zt (R _) _).YU KQ _
 .have ZfZ:¬((u l):Int)=20:=nc;unfold Gw Qr I4 QW;simp +contextual -implicitDefEqProofs only[go_sem,ZfZ,h20]
  (repeat' (first|exact Zk.refl _ _|assumption|refine Zk.add ?_ _|refine Zk.Zt ?_ aab _|refine Zk.trans aac ?_))
def Yc(k:E)(Z0 Z4:Int)(s:List Bool):List E:=k :: r j Z0 :: r j Z4 :: s.map Value.bool
def iv(x:Int):List E:=[r j x]
def early(Z4:Int)(s:List Bool)(n:Nat):Bool:=(Z n).any fun i=>s.getD i false&&decide (Z4-8+i<0)
def Jc(n:Nat)(Z0 Z4:Int)(s:List Bool):Int:=
 if n≠32\/Z0<0\/1073741824<Z0\/Z4<0\/1073741824<Z4 then 5 else
 if early Z4 s 8=true then 5 else if 0<Z4/\s.getD 7 false=false then 5 else 0
theorem OH(s:List Bool)(i:Nat)(hi:i<(u s)):nth (s.map Value.bool) i=D (y (s.getD i false)):=by
 rw[YR,List.getElem?_map,List.getD_eq_getElem?_getD,List.getElem?_eq_getElem hi];rfl
theorem Gx(Z4:Int)(s:List Bool)(i:Nat):early Z4 s (i+1)=(early Z4 s i||(s.getD i false&&decide (Z4-8+i<0))):=by
 simp[early,X]
theorem gE{Z4:Int}{s:List Bool}{i:Nat}(hi:i<8)(h1:s.getD i false=true)(h2:Z4-8+i<0):early Z4 s 8=true:=by
 unfold early;rw[List.any_eq_true];exact⟨i,List.mem_range.2 hi,by simp only[h1,Bool.true_and,decide_eq_true_eq];exact h2⟩
theorem MV(T:World)(h:Hp)(p:Option Addr)(n c:Nat)(Z0 Z4:Int)(s:List Bool)(hs:(u s)=8):
  Zd aa T 30 #[G (Yc (A p n c) Z0 Z4 s).toArray] h fun v' h'=>v'=r j (Jc n Z0 Z4 s)/\Zk h.size h h':=by
 refine Zd.XS [_] Tryz.func30 ?_;have Px:(s.map Value.bool).length=8:=by rw[Y,hs]
 have tk:(s.map Value.bool).take 8=s.map Value.bool:=Xy Px;have n7:=OH s 7 nc;unfold Yc;by_cases q:n≠32\/Z0<0\/1073741824<Z0\/Z4<0\/1073741824<Z4
 .have e:Jc n Z0 Z4 s=5:=by unfold Jc;rw[if_pos q]
  rw[e];by_cases q1:(n:Int)=32
  .by_cases q2:Z0<0
   .simp +contextual -implicitDefEqProofs only[go_sem,q1,q2]
    (repeat' (first|exact Zk.refl _ _|assumption|refine Zk.add ?_ _|refine Zk.Zt ?_ aab _|refine Zk.trans aac ?_))
   .by_cases q3:1073741824<Z0
    .simp +contextual -implicitDefEqProofs only[go_sem,q1,q2,q3]
     (repeat' (first|exact Zk.refl _ _|assumption|refine Zk.add ?_ _|refine Zk.Zt ?_ aab _|refine Zk.trans aac ?_))
    .by_cases q4:Z4<0
     .simp +contextual -implicitDefEqProofs only[go_sem,q1,q2,q3,q4]
      (repeat' (first|exact Zk.refl _ _|assumption|refine Zk.add ?_ _|refine Zk.Zt ?_ aab _|refine Zk.trans aac ?_))
     .have q5:1073741824<Z4:=nc;simp +contextual -implicitDefEqProofs only[go_sem,q1,q2,q3,q4,q5]
      (repeat' (first|exact Zk.refl _ _|assumption|refine Zk.add ?_ _|refine Zk.Zt ?_ aab _|refine Zk.trans aac ?_))
  .simp +contextual -implicitDefEqProofs only[go_sem,q1]
   (repeat' (first|exact Zk.refl _ _|assumption|refine Zk.add ?_ _|refine Zk.Zt ?_ aab _|refine Zk.trans aac ?_))
 .have q1:(n:Int)=32:=nc;have q2:¬Z0<0:=nc;have q3:¬1073741824<Z0:=nc;have q4:¬Z4<0:=nc;have q5:¬1073741824<Z4:=nc;simp +contextual -implicitDefEqProofs only[go_sem,q1,q2,q3,q4,q5,Px,tk];obtain⟨H,hH⟩:=ZQ (h.push (m (A p n c :: r j Z0 :: r j Z4 :: s.map Value.bool).toArray 66):Hp);have hb:Zk h.size h H:=by rw[hH];exact (Zk.refl _ _).add _
  have x1:H[h.size]? = D (m (A p n c :: r j Z0 :: r j Z4 :: s.map Value.bool).toArray 66):=by rw[hH];exact Zc
  have x2:hc H ⟨h.size,2,M⟩=D (r j Z4):=by rw[Zn x1];rfl
  have x7:hc H ⟨h.size,3+7,M⟩=D (y (s.getD 7 false)):=by rw[Zn x1];exact n7
  rw[<-hH];refine VS.Yj (fun F g=>g=H/\F 1=N (D ⟨h.size,0,M⟩)/\F 30=G (s.map Value.bool).toArray/\∃i:Nat,i<=8/\F 31=r j i/\early Z4 s i=false)
   (fun F _=>8-(vi (F 31)).toNat) rfl ⟨rfl,rfl,rfl,0,nc,rfl,rfl⟩ ?_
  rintro F g ⟨rfl,f1,f30,i,hi,f31,he⟩;by_cases ZU:i<8
  .have Z8:(i:Int)<8:=nc;have ni:=OH s i nc;by_cases c1:s.getD i false=true
   .rw[c1]at ni;by_cases c2:Z4-8+i<0
    .have e:Jc n Z0 Z4 s=5:=by unfold Jc;rw[if_neg q,if_pos (gE ZU c1 c2)]
     rw[e];simp +contextual -implicitDefEqProofs only[go_sem,f1,f30,f31,Z8,ni,x2,c2,hb]
    .simp +contextual -implicitDefEqProofs only[go_sem,f1,f30,f31,Z8,ni,x2,c2];refine⟨⟨rfl,f1,f30,i+1,ZU,rfl,by rw[Gx,he,c1];simpa using c2⟩,?_⟩;simp only[vi,Zr,↓reduceIte,f31];omega
   .have c1:s.getD i false=false:=by simpa using c1
    rw[c1]at ni;simp +contextual -implicitDefEqProofs only[go_sem,f1,f30,f31,Z8,ni];refine⟨⟨rfl,f1,f30,i+1,ZU,rfl,by rw[Gx,he,c1];rfl⟩,?_⟩;simp only[vi,Zr,↓reduceIte,f31];omega
  .have Xp:¬(i:Int)<8:=nc;obtain rfl:i=8:=nc;have e:Jc n Z0 Z4 s=if 0<Z4/\s.getD 7 false=false then 5 else 0:=by unfold Jc;rw[if_neg q,he];rfl
   rw[e];by_cases c1:0<Z4
   .by_cases c2:s.getD 7 false=true
    .rw[c2]at x7;simp +contextual -implicitDefEqProofs only[go_sem,f1,f30,f31,Xp,x2,x7,c1,c2,hb]
    .have c2:s.getD 7 false=false:=by simpa using c2
     rw[c2]at x7;simp +contextual -implicitDefEqProofs only[go_sem,f1,f30,f31,Xp,x2,x7,c1,c2,hb]
   .simp +contextual -implicitDefEqProofs only[go_sem,f1,f30,f31,Xp,x2,c1,hb]
def Rz(Z4:Int)(s:List Bool)(n:Nat):List Int:=((Z n).filter fun i=>s.getD i false).map fun i:Nat=>Z4-8+(i:Int)
theorem oP(Z4:Int)(s:List Bool)(i:Nat):Rz Z4 s (i+1)=Rz Z4 s i++(if s.getD i false=true then [Z4-8+(i:Int)] else []):=by
 unfold Rz;rw[X,List.filter_append,List.map_append]
 congr 1
 by_cases h:s.getD i false=true
 .rw[List.filter_cons_of_pos (by simpa using h),if_pos h];rfl
 .rw[List.filter_cons_of_neg (by simpa using h),if_neg h];rfl
def Jx(l:List Int)(t:Int):List Bool:=(Z 8).map fun k:Nat=>l.any fun x=>x-t+8 == (k:Int)
theorem Sk(l:List Int)(t:Int):(Jx l t).length=8:=by simp[Jx]
theorem Ij(l:List Int)(t x:Int)(hx:x-t+8<8):Jx (l++[x]) t=if 0<=x-t+8 then (Jx l t).set (x-t+8).toNat true else Jx l t:=by
 apply List.ext_getElem
 .split<;>simp[Jx]
 .intro k h1 h2;have hk:k<8:=by simpa [Jx] using h1
  by_cases h0:0<=x-t+8
  .simp only[if_pos h0,List.getElem_set];by_cases e:(x-t+8).toNat=k
   .rw[if_pos e];simp only[Jx,O,L,Q,S,U,J,Bool.or_eq_true];right;simp only[beq_iff_eq];omega
   .rw[if_neg e];simp only[Jx,O,L,Q,S,U,J];have:(x-t+8 == (k:Int))=false:=by simp only[beq_eq_false_iff_ne,ne_eq];omega
    rw[this,J]
  .simp only[if_neg h0];simp only[Jx,O,L,Q,S,U,J];have:(x-t+8 == (k:Int))=false:=by simp only[beq_eq_false_iff_ne,ne_eq];omega
   rw[this,J]
def Vc:List E:=[A M 0 0,r j 0,r j 0,y false,y false,y false,y false,y false,y false,y false,y false]
theorem AZ(k:E)(Z0 Z4:Int)(s:List Bool)(i:Nat):(Yc k Z0 Z4 s).set (3+i) (y true)=Yc k Z0 Z4 (s.set i true):=by
 rw[show 3+i=i+1+1+1 by omega];simp[Yc,List.map_set]
def CQ(B:Nat)(h':Hp)(v':E)(kl:List Nat)(Z0 Z4:Int)(s:List Bool):Prop:=∃w,v'=G (Yc w Z0 Z4 s).toArray/\Yx B 5 h' w kl
theorem YN(k:E)(Z0 Z4:Int)(s:List Bool)(hs:(u s)=8):(Yc k Z0 Z4 s).length=11:=by simp[Yc,hs]
theorem UQ{p:Option Addr}{n c:Nat}(Z0 Z4:Int)(s:List Bool):(Yc (A p n c) Z0 Z4 s).all YC=true:=by simp[Yc,YC]
theorem gF(k w:E)(Z0 Z4:Int)(s:List Bool):(Yc k Z0 Z4 s).set 0 w=Yc w Z0 Z4 s:=rfl
theorem oQ{h h2:Hp}{kl:List Nat}{p:Option Addr}{c:Nat}{k:E}{Z0 Z4:Int}{s:List Bool}(hs:(u s)=8)(b:Zk (h.size+2) ((h.push (m (Yc k Z0 Z4 s).toArray 66)).push (m Vc.toArray 66)) h2):
  QP h2 ⟨h.size,0,M⟩ (A p (u kl) c)=D (h2.setIfInBounds h.size (m (Yc (A p (u kl) c) Z0 Z4 s).toArray 66))/\h2[h.size+1]? = D (m Vc.toArray 66)/\h.size+2<=h2.size:=by
 have x0:h2[h.size]? = D (m (Yc k Z0 Z4 s).toArray 66):=b.get nc (by rw[ZJ Hg,Zc]);have x1:h2[h.size+1]? = D (m Vc.toArray 66):=b.get nc (by have:=Zc (h:=h.push (m (Yc k Z0 Z4 s).toArray 66)) (o:=m Vc.toArray 66);rw[W]at this;exact this);have z:=b.size;simp at z;refine⟨?_,x1,nc⟩;rw[Xe x0,if_pos ⟨by rw[YN _ _ _ _ hs];omega,rfl⟩,gF]
theorem wy(T:World)(h:Hp)(k:E)(kl:List Nat)(Z0 Z4:Int)(s:List Bool)(hs:(u s)=8)(sk:Bs h k kl)(hk:(u kl)<=140737488355328):
  Zd aa T 34 #[G (Yc k Z0 Z4 s).toArray] h fun v' h'=>CQ h.size h' v' kl Z0 Z4 s/\Zk h.size h h':=by
 obtain⟨p,c,rfl,_⟩:=sk.open;refine Zd.XS [_] Tryz.func34 ?_;have Px:(s.map Value.bool).length=8:=by rw[Y,hs]
 unfold Yc;simp +contextual -implicitDefEqProofs only[go_sem];refine (PM T _ _ kl (sk.Yy ((Zk.refl h.size h).add _ |>.add _)) hk).use ?_;rintro w h2 ⟨ow,b2⟩;have tI:Zk (h.size+2) _ h2:=b2.mono Hg;have hB:Zk h.size h h2:=((Zk.refl h.size h).add _ |>.add _).trans (b2.mono KQ);obtain⟨pw,cw,rfl,_⟩:=ow.open;obtain⟨y1,y2,y3⟩:=oQ (kl:=kl) (p:=pw) (c:=cw) hs tI;have ow:=ow.mono (B':=h.size+2) Hg;have y4:=Ye y2 0 (Yc (A pw (u kl) cw) Z0 Z4 s);rw[Z3 (YN _ _ _ _ hs),if_pos ⟨by rw[YN _ _ _ _ hs];exact R _,UQ _ _ _⟩]at y4;obtain⟨C,hC⟩:=ZQ (Yc (A pw (u kl) cw) Z0 Z4 s);have TG:(u C)=11:=by rw[hC];exact YN _ _ _ _ hs
 have tk:=Xy TG;rw[<-hC]at y1 y4;have y5:=Ye (h:=h2.setIfInBounds h.size (m C.toArray 66)) (b:=h.size+1) (l:=Vc) (t:=66) (by rw[K,if_neg nc];exact y2) 0 C;have XV:C.all YC=true:=by rw[hC];exact UQ _ _ _
 rw[Z3 (by rw[TG];rfl),if_pos ⟨by rw[TG];exact R _,XV⟩]at y5;clear y4;simp +contextual -implicitDefEqProofs only[go_sem,y1,y5,TG,tk];refine⟨⟨_,by rw[hC],?_⟩,(hB.Zt nc _).Zt nc _⟩;exact ((ow.Ya nc _).Ya nc _).mono nc
end Go.Proofs.YthlfaofofaphfaaGreatDoor
