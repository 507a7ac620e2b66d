/- Part Line. -/
import Derived.Test.YtdapjaalaomghaaGreatDoorTape
import Derived.Test.YtdapjaalaomghaaGreatDoorW8
import Derived.Test.YtdapjaalaomghaaGreatDoorVst
import Derived.Test.YtdapjaalaomghaaGreatDoorBytes
open Go.Value renaming int→r,bool→y,slice→A,agg→G,pointer→N
open Go.IntKind renaming i64→j
open Go.Obj renaming cells→m
open Go.Proofs.Tryz renaming prog→aa
open List renaming length→u,getElem_range→L,getElem_map→O,any_append→Q,any_cons→S,any_nil→U,range_succ→X,length_map→Y,range→Z
open Nat renaming le_refl→R
open Option renaming some→D,none→M
open Array renaming getElem?_setIfInBounds→K,size_push→W
open Bool renaming or_false→J
open Go renaming Value→E
namespace Go.Proofs.YtdapjaalaomghaaGreatDoor
open Go Go.V
set_option linter.all false
set_option maxRecDepth 100000
def XD(l:List Nat)(i:Nat):Nat:=l.getD i 0*16777216+l.getD (i+1) 0*65536+l.getD (i+2) 0*256+l.getD (i+3) 0
theorem Be{a b c d:Nat}(ha:a<256)(hb:b<256)(hc:c<256)(hd:d<256):
  YN .or j (YN .or j (YN .or j (Xo j a 24) (Xo j b 16)) (Xo j c 8)) d=((a*16777216+b*65536+c*256+d:Nat):Int):=by
 have e1:Xo j (a:Int) 24=((a*16777216:Nat):Int):=Rc ha 24 nT;have e2:Xo j (b:Int) 16=((b*65536:Nat):Int):=Rc hb 16 nT;have e3:Xo j (c:Int) 8=((c*256:Nat):Int):=Rc hc 8 nT;have f1:a*16777216 ||| b*65536=a*16777216+b*65536:=Uo (k:=24) nT nT
 have f2:(a*16777216+b*65536) ||| c*256=a*16777216+b*65536+c*256:=Uo (k:=16) nT nT
 rw[e1,e2,e3,Mc _ _ nT nT,f1,Mc _ _ nT nT,f2,Mc _ _ nT nT,Uo (k:=8) nT nT]
def Hh:List E:=Uy 0 0 0 0 0
def Qq(l:List Nat):Int:=if (u l)=20 then Y0 (XD l 0) (XD l 4) (XD l 8) (XD l 12) (XD l 16) else 1
def GO(l:List Nat):List E:=if Qq l=0 then Uy (XD l 0) (XD l 4) (XD l 8) (XD l 12) (XD l 16) else Hh
theorem Dz(T:World)(h:Hp)(v:E)(l:List Nat)(s:Bs h v l)(hl:(u l)<=140737488355328):
  Zd aa T 81 #[v] h fun v' h'=>v'=.tuple [G (GO l).toArray,r j (Qq l)].toArray/\Zj h.size h h':=by
 obtain⟨p,c,rfl,WE⟩:=s.VJ;refine Zd.XT [_] Tryz.func81 ?_;by_cases h20:(u l)=20
 .have ZgD:((u l):Int)=20:=nT;obtain⟨b,o,rfl,hb,XI⟩:=WE (by intro e;subst e;simp at h20);simp +contextual -implicitDefEqProofs only[go_sem,ZgD,h20];refine (GN T _ (h.size+1)).use ?_;rintro v1 h1 ⟨rfl,b1⟩;have b1':Zj (h.size+2) _ h1:=b1.mono uK;have z1:h.size+2<=h1.size:=by have:=b1.size;simp at this;omega
  have x0:h1[h.size]? = D (m Hh.toArray 24):=b1'.get nT (by rw[ZI uK,Zc];rfl);have x1:h1[h.size+1]? = D (m Hh.toArray 24):=b1'.get nT (by have:=Zc (h:=h.push (m Hh.toArray 24)) (o:=m Hh.toArray 24);rw[W]at this;exact this);have Zfa:Zj h.size h h1:=(((Zj.refl h.size h).add _).add _).trans (b1.mono Ig);clear b1 b1';obtain⟨xs,hxs⟩:∃xs:List E,xs=Uy (XD l 0) (XD l 4) (XD l 8) (XD l 12) (XD l 16):=⟨_,rfl⟩
  have hx5:(u xs)=5:=by rw[hxs];rfl
  have hxi:∀i (hi:i<5),xs[i]'nT=r j (XD l (4*i):Nat):=by
   intro i hi;subst hxs;rcases i with _|_|_|_|_|i<;>first|rfl|omega
  simp +contextual -implicitDefEqProofs only[go_sem];refine VS.Yk (fun F g=>Zj (h.size+1) h1 g/\F 0=A (D ⟨b,o,M⟩) 20 c/\F 2=N (D ⟨h.size,0,M⟩)/\F 4=N (D ⟨h.size+1,0,M⟩)/\F 12=G (ZgC (h.size+1)).toArray/\∃i:Nat,i<=5/\F 13=r j i/\g[h.size+1]? = D (m (xs.take i++Hh.drop i).toArray 24))
   (fun F _=>5-(vi (F 13)).toNat) rfl ⟨Zj.refl _ _,rfl,rfl,rfl,rfl,0,nT,rfl,by rw[Dr];exact x1⟩ ?_
  rintro F g ⟨J9,f0,f2,f4,f12,i,hi,f13,hg⟩;by_cases ZS:i<5
  .have Z7:(i:Int)<5:=nT;have p1:=aC (h.size+1) i ZS;simp +contextual -implicitDefEqProofs only[go_sem,f0,f4,f12,f13,Z7,p1];refine VS.b (h.size+1) [(0,true),(1,true),(2,true),(3,true),(4,true),(5,true),(6,true),(7,true),(8,true),(9,true),(10,true),(11,true),(12,true),(13,true),(14,true),(15,true),(16,true),(17,true),(18,true),(19,true),(20,true),(21,true),(22,true),(23,true),(24,true),(25,true),(26,true),(27,true),(28,true),(29,true),(30,true),(31,true),(32,true),(33,true),(34,true),(35,false)] mixed uj ?_;have g0:∀i,i<20->hc g ⟨b,o+i,M⟩=D (r .u8 (l.getD i 0:Nat)):=fun i hi=>by rw[J9.hc (by show b<h.size+1;omega),Zfa.hc (by exact hb)];exact XI i nT
   have e0:=g0 (4*i) nT;have e1:=g0 (4*i+1) nT;have e2:=g0 (4*i+2) nT;have e3:=g0 (4*i+3) nT;have b0:=Z3 s.byte (4*i);have b1:=Z3 s.byte (4*i+1);have b2:=Z3 s.byte (4*i+2);have b3:=Z3 s.byte (4*i+3);have t0:(4*(i:Int)).toNat=4*i:=nT;have t1:(4*(i:Int)+1).toNat=4*i+1:=nT;have t2:(4*(i:Int)+2).toNat=4*i+2:=nT;have t3:(4*(i:Int)+3).toNat=4*i+3:=nT;have r1:i+1<6:=nT;have hlen:(xs.take i++Hh.drop i).length=5:=by rw[Se _ _ _ nT (by rw[hx5];rfl),hx5]
   have eo:=Be b0 b1 b2 b3;rw[show l.getD (4*i) 0*16777216+l.getD (4*i+1) 0*65536+l.getD (4*i+2) 0*256+l.getD (4*i+3) 0=XD l (4*i) from rfl]at eo;simp +contextual -implicitDefEqProofs only[go_sem,f0,f4,e0,e1,e2,e3,t0,t1,t2,t3,eo];rw[Xh hg,if_pos ⟨nT,rfl⟩];simp +contextual -implicitDefEqProofs only[go_sem,f13];refine⟨(Zj.refl _ _).Zs nT _,⟨J9.Zs nT _,f0,f2,f4,f12,i+1,ZS,rfl,?_⟩,?_⟩
   .rw[<-hxi i ZS,Kl _ _ _ nT (by rw[hx5];rfl),K,if_pos rfl,if_pos (Za hg)]
   .simp only[vi,Zq,↓reduceIte,f13];omega
  .have Xv:¬(i:Int)<5:=nT;obtain rfl:i=5:=nT;rw[<-hx5,Km _ _ (by rw[hx5];rfl)]at hg;have Wi:rd g ⟨h.size+1,0,M⟩ 5=D (Uy (XD l 0) (XD l 4) (XD l 8) (XD l 12) (XD l 16)):=by rw[<-hxs];exact Zz hg hx5
   simp +contextual -implicitDefEqProofs only[go_sem,f2,f4,f12,f13,Xv,Wi];refine (Uz T _ _ _ _ _ _).use ?_;rintro v1 h2 ⟨rfl,rfl⟩;have y0:g[h.size]? = D (m Hh.toArray 24):=J9.get nT x0;have y1:rd g ⟨h.size,0,M⟩ 5=D Hh:=Zz y0 rfl;unfold GO Qq;rw[if_pos h20];have zg:h.size+2<=g.size:=Nat.le_trans z1 J9.size;have hB:=Zfa.trans (J9.mono nT);have y2:=Yd y0 0;unfold Hh Uy at *;by_cases q:Y0 (XD l 0) (XD l 4) (XD l 8) (XD l 12) (XD l 16)=0
   .rw[if_pos q];simp +contextual -implicitDefEqProofs only[go_sem,q,f2,f4,Wi,y1,y2];exact (hB.Zs (R _) _).YU Ig _
   .simp only[if_neg q];simp +contextual -implicitDefEqProofs only[go_sem,q,f2,f4,Wi,y1,y2];exact (hB.Zs (R _) _).YU Ig _
 .have ZgD:¬((u l):Int)=20:=nT;unfold GO Qq Hh Uy;simp +contextual -implicitDefEqProofs only[go_sem,ZgD,h20]
  (repeat' (first|exact Zj.refl _ _|assumption|refine Zj.add ?_ _|refine Zj.Zs ?_ aaa _|refine Zj.trans aab ?_))
def Yb(k:E)(ZZ Z1:Int)(s:List Bool):List E:=k :: r j ZZ :: r j Z1 :: s.map Value.bool
def iv(x:Int):List E:=[r j x]
def early(Z1:Int)(s:List Bool)(n:Nat):Bool:=(Z n).any fun i=>s.getD i false&&decide (Z1-8+i<0)
def Ja(n:Nat)(ZZ Z1:Int)(s:List Bool):Int:=
 if n≠32\/ZZ<0\/1073741824<ZZ\/Z1<0\/1073741824<Z1 then 5 else
 if early Z1 s 8=true then 5 else if 0<Z1/\s.getD 7 false=false then 5 else 0
theorem OY(s:List Bool)(i:Nat)(hi:i<(u s)):nth (s.map Value.bool) i=D (y (s.getD i false)):=by
 rw[YW,List.getElem?_map,List.getD_eq_getElem?_getD,List.getElem?_eq_getElem hi];rfl
theorem GP(Z1:Int)(s:List Bool)(i:Nat):early Z1 s (i+1)=(early Z1 s i||(s.getD i false&&decide (Z1-8+i<0))):=by
 simp[early,X]
theorem it{Z1:Int}{s:List Bool}{i:Nat}(hi:i<8)(h1:s.getD i false=true)(h2:Z1-8+i<0):early Z1 s 8=true:=by
 unfold early;rw[List.any_eq_true];exact⟨i,List.mem_range.2 hi,by simp only[h1,Bool.true_and,decide_eq_true_eq];exact h2⟩
theorem Lj(T:World)(h:Hp)(p:Option Addr)(n c:Nat)(ZZ Z1:Int)(s:List Bool)(hs:(u s)=8):
  Zd aa T 28 #[G (Yb (A p n c) ZZ Z1 s).toArray] h fun v' h'=>v'=r j (Ja n ZZ Z1 s)/\Zj h.size h h':=by
 refine Zd.XT [_] Tryz.func28 ?_;have P9:(s.map Value.bool).length=8:=by rw[Y,hs]
 have tk:(s.map Value.bool).take 8=s.map Value.bool:=XB P9;have n7:=OY s 7 nT;unfold Yb;by_cases q:n≠32\/ZZ<0\/1073741824<ZZ\/Z1<0\/1073741824<Z1
 .have e:Ja n ZZ Z1 s=5:=by unfold Ja;rw[if_pos q]
  rw[e];by_cases q1:(n:Int)=32
  .by_cases q2:ZZ<0
   .simp +contextual -implicitDefEqProofs only[go_sem,q1,q2]
    (repeat' (first|exact Zj.refl _ _|assumption|refine Zj.add ?_ _|refine Zj.Zs ?_ aaa _|refine Zj.trans aab ?_))
   .by_cases q3:1073741824<ZZ
    .simp +contextual -implicitDefEqProofs only[go_sem,q1,q2,q3]
     (repeat' (first|exact Zj.refl _ _|assumption|refine Zj.add ?_ _|refine Zj.Zs ?_ aaa _|refine Zj.trans aab ?_))
    .by_cases q4:Z1<0
     .simp +contextual -implicitDefEqProofs only[go_sem,q1,q2,q3,q4]
      (repeat' (first|exact Zj.refl _ _|assumption|refine Zj.add ?_ _|refine Zj.Zs ?_ aaa _|refine Zj.trans aab ?_))
     .have q5:1073741824<Z1:=nT;simp +contextual -implicitDefEqProofs only[go_sem,q1,q2,q3,q4,q5]
      (repeat' (first|exact Zj.refl _ _|assumption|refine Zj.add ?_ _|refine Zj.Zs ?_ aaa _|refine Zj.trans aab ?_))
  .simp +contextual -implicitDefEqProofs only[go_sem,q1]
   (repeat' (first|exact Zj.refl _ _|assumption|refine Zj.add ?_ _|refine Zj.Zs ?_ aaa _|refine Zj.trans aab ?_))
 .have q1:(n:Int)=32:=nT;have q2:¬ZZ<0:=nT;have q3:¬1073741824<ZZ:=nT;have q4:¬Z1<0:=nT;have q5:¬1073741824<Z1:=nT;simp +contextual -implicitDefEqProofs only[go_sem,q1,q2,q3,q4,q5,P9,tk];obtain⟨H,hH⟩:=ZN (h.push (m (A p n c :: r j ZZ :: r j Z1 :: s.map Value.bool).toArray 65):Hp);have hb:Zj h.size h H:=by rw[hH];exact (Zj.refl _ _).add _
  have x1:H[h.size]? = D (m (A p n c :: r j ZZ :: r j Z1 :: s.map Value.bool).toArray 65):=by rw[hH];exact Zc
  have x2:hc H ⟨h.size,2,M⟩=D (r j Z1):=by rw[Zl x1];rfl
  have x7:hc H ⟨h.size,3+7,M⟩=D (y (s.getD 7 false)):=by rw[Zl x1];exact n7
  rw[<-hH];refine VS.Yk (fun F g=>g=H/\F 1=N (D ⟨h.size,0,M⟩)/\F 30=G (s.map Value.bool).toArray/\∃i:Nat,i<=8/\F 31=r j i/\early Z1 s i=false)
   (fun F _=>8-(vi (F 31)).toNat) rfl ⟨rfl,rfl,rfl,0,nT,rfl,rfl⟩ ?_
  rintro F g ⟨rfl,f1,f30,i,hi,f31,he⟩;by_cases ZS:i<8
  .have Z7:(i:Int)<8:=nT;have ni:=OY s i nT;by_cases c1:s.getD i false=true
   .rw[c1]at ni;by_cases c2:Z1-8+i<0
    .have e:Ja n ZZ Z1 s=5:=by unfold Ja;rw[if_neg q,if_pos (it ZS c1 c2)]
     rw[e];simp +contextual -implicitDefEqProofs only[go_sem,f1,f30,f31,Z7,ni,x2,c2,hb]
    .simp +contextual -implicitDefEqProofs only[go_sem,f1,f30,f31,Z7,ni,x2,c2];refine⟨⟨rfl,f1,f30,i+1,ZS,rfl,by rw[GP,he,c1];simpa using c2⟩,?_⟩;simp only[vi,Zq,↓reduceIte,f31];omega
   .have c1:s.getD i false=false:=by simpa using c1
    rw[c1]at ni;simp +contextual -implicitDefEqProofs only[go_sem,f1,f30,f31,Z7,ni];refine⟨⟨rfl,f1,f30,i+1,ZS,rfl,by rw[GP,he,c1];rfl⟩,?_⟩;simp only[vi,Zq,↓reduceIte,f31];omega
  .have Xv:¬(i:Int)<8:=nT;obtain rfl:i=8:=nT;have e:Ja n ZZ Z1 s=if 0<Z1/\s.getD 7 false=false then 5 else 0:=by unfold Ja;rw[if_neg q,he];rfl
   rw[e];by_cases c1:0<Z1
   .by_cases c2:s.getD 7 false=true
    .rw[c2]at x7;simp +contextual -implicitDefEqProofs only[go_sem,f1,f30,f31,Xv,x2,x7,c1,c2,hb]
    .have c2:s.getD 7 false=false:=by simpa using c2
     rw[c2]at x7;simp +contextual -implicitDefEqProofs only[go_sem,f1,f30,f31,Xv,x2,x7,c1,c2,hb]
   .simp +contextual -implicitDefEqProofs only[go_sem,f1,f30,f31,Xv,x2,c1,hb]
def RT(Z1:Int)(s:List Bool)(n:Nat):List Int:=((Z n).filter fun i=>s.getD i false).map fun i:Nat=>Z1-8+(i:Int)
theorem pM(Z1:Int)(s:List Bool)(i:Nat):RT Z1 s (i+1)=RT Z1 s i++(if s.getD i false=true then [Z1-8+(i:Int)] else []):=by
 unfold RT;rw[X,List.filter_append,List.map_append]
 congr 1
 by_cases h:s.getD i false=true
 .rw[List.filter_cons_of_pos (by simpa using h),if_pos h];rfl
 .rw[List.filter_cons_of_neg (by simpa using h),if_neg h];rfl
def Jy(l:List Int)(t:Int):List Bool:=(Z 8).map fun k:Nat=>l.any fun x=>x-t+8 == (k:Int)
theorem SD(l:List Int)(t:Int):(Jy l t).length=8:=by simp[Jy]
theorem Iy(l:List Int)(t x:Int)(hx:x-t+8<8):Jy (l++[x]) t=if 0<=x-t+8 then (Jy l t).set (x-t+8).toNat true else Jy l t:=by
 apply List.ext_getElem
 .split<;>simp[Jy]
 .intro k h1 h2;have hk:k<8:=by simpa [Jy] using h1
  by_cases h0:0<=x-t+8
  .simp only[if_pos h0,List.getElem_set];by_cases e:(x-t+8).toNat=k
   .rw[if_pos e];simp only[Jy,O,L,Q,S,U,J,Bool.or_eq_true];right;simp only[beq_iff_eq];omega
   .rw[if_neg e];simp only[Jy,O,L,Q,S,U,J];have:(x-t+8 == (k:Int))=false:=by simp only[beq_eq_false_iff_ne,ne_eq];omega
    rw[this,J]
  .simp only[if_neg h0];simp only[Jy,O,L,Q,S,U,J];have:(x-t+8 == (k:Int))=false:=by simp only[beq_eq_false_iff_ne,ne_eq];omega
   rw[this,J]
def Vn:List E:=[A M 0 0,r j 0,r j 0,y false,y false,y false,y false,y false,y false,y false,y false]
theorem aD(k:E)(ZZ Z1:Int)(s:List Bool)(i:Nat):(Yb k ZZ Z1 s).set (3+i) (y true)=Yb k ZZ Z1 (s.set i true):=by
 rw[show 3+i=i+1+1+1 by omega];simp[Yb,List.map_set]
def Bf(B:Nat)(h':Hp)(v':E)(kl:List Nat)(ZZ Z1:Int)(s:List Bool):Prop:=∃w,v'=G (Yb w ZZ Z1 s).toArray/\Yx B 5 h' w kl
theorem YO(k:E)(ZZ Z1:Int)(s:List Bool)(hs:(u s)=8):(Yb k ZZ Z1 s).length=11:=by simp[Yb,hs]
theorem UY{p:Option Addr}{n c:Nat}(ZZ Z1:Int)(s:List Bool):(Yb (A p n c) ZZ Z1 s).all YD=true:=by simp[Yb,YD]
theorem iu(k w:E)(ZZ Z1:Int)(s:List Bool):(Yb k ZZ Z1 s).set 0 w=Yb w ZZ Z1 s:=rfl
theorem pN{h h2:Hp}{kl:List Nat}{p:Option Addr}{c:Nat}{k:E}{ZZ Z1:Int}{s:List Bool}(hs:(u s)=8)(b:Zj (h.size+2) ((h.push (m (Yb k ZZ Z1 s).toArray 65)).push (m Vn.toArray 65)) h2):
  QQ h2 ⟨h.size,0,M⟩ (A p (u kl) c)=D (h2.setIfInBounds h.size (m (Yb (A p (u kl) c) ZZ Z1 s).toArray 65))/\h2[h.size+1]? = D (m Vn.toArray 65)/\h.size+2<=h2.size:=by
 have x0:h2[h.size]? = D (m (Yb k ZZ Z1 s).toArray 65):=b.get nT (by rw[ZI uK,Zc]);have x1:h2[h.size+1]? = D (m Vn.toArray 65):=b.get nT (by have:=Zc (h:=h.push (m (Yb k ZZ Z1 s).toArray 65)) (o:=m Vn.toArray 65);rw[W]at this;exact this);have z:=b.size;simp at z;refine⟨?_,x1,nT⟩;rw[Xh x0,if_pos ⟨by rw[YO _ _ _ _ hs];omega,rfl⟩,iu]
theorem xr(T:World)(h:Hp)(k:E)(kl:List Nat)(ZZ Z1:Int)(s:List Bool)(hs:(u s)=8)(sk:Bs h k kl)(hk:(u kl)<=140737488355328):
  Zd aa T 32 #[G (Yb k ZZ Z1 s).toArray] h fun v' h'=>Bf h.size h' v' kl ZZ Z1 s/\Zj h.size h h':=by
 obtain⟨p,c,rfl,_⟩:=sk.open;refine Zd.XT [_] Tryz.func32 ?_;have P9:(s.map Value.bool).length=8:=by rw[Y,hs]
 unfold Yb;simp +contextual -implicitDefEqProofs only[go_sem];refine (Oj T _ _ kl (sk.Yz ((Zj.refl h.size h).add _ |>.add _)) hk).use ?_;rintro w h2 ⟨ow,b2⟩;have uk:Zj (h.size+2) _ h2:=b2.mono uK;have hB:Zj h.size h h2:=((Zj.refl h.size h).add _ |>.add _).trans (b2.mono Ig);obtain⟨pw,cw,rfl,_⟩:=ow.open;obtain⟨y1,y2,y3⟩:=pN (kl:=kl) (p:=pw) (c:=cw) hs uk;have ow:=ow.mono (B':=h.size+2) uK;have y4:=Yd y2 0 (Yb (A pw (u kl) cw) ZZ Z1 s);rw[Z4 (YO _ _ _ _ hs),if_pos ⟨by rw[YO _ _ _ _ hs];exact R _,UY _ _ _⟩]at y4;obtain⟨C,hC⟩:=ZN (Yb (A pw (u kl) cw) ZZ Z1 s);have TV:(u C)=11:=by rw[hC];exact YO _ _ _ _ hs
 have tk:=XB TV;rw[<-hC]at y1 y4;have y5:=Yd (h:=h2.setIfInBounds h.size (m C.toArray 65)) (b:=h.size+1) (l:=Vn) (t:=65) (by rw[K,if_neg nT];exact y2) 0 C;have XW:C.all YD=true:=by rw[hC];exact UY _ _ _
 rw[Z4 (by rw[TV];rfl),if_pos ⟨by rw[TV];exact R _,XW⟩]at y5;clear y4;simp +contextual -implicitDefEqProofs only[go_sem,y1,y5,TV,tk];refine⟨⟨_,by rw[hC],?_⟩,(hB.Zs nT _).Zs nT _⟩;exact ((ow.Z9 nT _).Z9 nT _).mono nT
end Go.Proofs.YtdapjaalaomghaaGreatDoor
