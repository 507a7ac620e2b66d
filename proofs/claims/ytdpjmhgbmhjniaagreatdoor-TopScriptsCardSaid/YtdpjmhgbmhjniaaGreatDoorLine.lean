/- Part Line. -/
import Derived.Test.YtdpjmhgbmhjniaaGreatDoorTape
import Derived.Test.YtdpjmhgbmhjniaaGreatDoorW8
import Derived.Test.YtdpjmhgbmhjniaaGreatDoorVst
import Derived.Test.YtdpjmhgbmhjniaaGreatDoorBytes
open Go.Value renaming int→r,bool→y,slice→A,agg→G,pointer→N
open Go.IntKind renaming i64→j
open Go.Obj renaming cells→m
open Go.Proofs.Tryz renaming prog→aa
open List renaming length→u,getElem_range→L,getElem_map→O,any_append→Q,any_cons→S,any_nil→U,range_succ→X,length_map→Y,range→Z
open Nat renaming le_refl→R
open Option renaming some→D,none→M
open Array renaming getElem?_setIfInBounds→K,size_push→W
open Bool renaming or_false→J
open Go renaming Value→E
namespace Go.Proofs.YtdpjmhgbmhjniaaGreatDoor
open Go Go.V
set_option linter.all false
set_option maxRecDepth 100000
def XZ(l:List Nat)(i:Nat):Nat:=l.getD i 0*16777216+l.getD (i+1) 0*65536+l.getD (i+2) 0*256+l.getD (i+3) 0
theorem Es{a b c d:Nat}(ha:a<256)(hb:b<256)(hc:c<256)(hd:d<256):
  Ym .or j (Ym .or j (Ym .or j (YS j a 24) (YS j b 16)) (YS j c 8)) d=((a*16777216+b*65536+c*256+d:Nat):Int):=by
 have e1:YS j (a:Int) 24=((a*16777216:Nat):Int):=Te ha 24 gX;have e2:YS j (b:Int) 16=((b*65536:Nat):Int):=Te hb 16 gX;have e3:YS j (c:Int) 8=((c*256:Nat):Int):=Te hc 8 gX;have f1:a*16777216 ||| b*65536=a*16777216+b*65536:=Qn (k:=24) gX gX
 have f2:(a*16777216+b*65536) ||| c*256=a*16777216+b*65536+c*256:=Qn (k:=16) gX gX
 rw[e1,e2,e3,PU _ _ gX gX,f1,PU _ _ gX gX,f2,PU _ _ gX gX,Qn (k:=8) gX gX]
def LS:List E:=QR 0 0 0 0 0
def Uu(l:List Nat):Int:=if (u l)=20 then Y9 (XZ l 0) (XZ l 4) (XZ l 8) (XZ l 12) (XZ l 16) else 1
def Iq(l:List Nat):List E:=if Uu l=0 then QR (XZ l 0) (XZ l 4) (XZ l 8) (XZ l 12) (XZ l 16) else LS
theorem GW(T:World)(h:Hp)(v:E)(l:List Nat)(s:Bs h v l)(hl:(u l)<=140737488355328):
  Zc aa T 27 #[v] h fun v' h'=>v'=.tuple [G (Iq l).toArray,r j (Uu l)].toArray/\Zf h.size h h':=by
 obtain⟨p,c,rfl,UX⟩:=s.UM;refine Zc.Y8 [_] Tryz.func27 ?_;by_cases h20:(u l)=20
 .have ZcH:((u l):Int)=20:=gX;obtain⟨b,o,rfl,hb,YR⟩:=UX (by intro e;subst e;simp at h20);simp +contextual -implicitDefEqProofs only[go_sem,ZcH,h20];refine (Io T _ (h.size+1)).use ?_;rintro v1 h1 ⟨rfl,b1⟩;have b1':Zf (h.size+2) _ h1:=b1.mono Dq;have z1:h.size+2<=h1.size:=by have:=b1.size;simp at this;omega
  have x0:h1[h.size]? = D (m LS.toArray 43):=b1'.get gX (by rw[Zl Dq,Zb];rfl);have x1:h1[h.size+1]? = D (m LS.toArray 43):=b1'.get gX (by have:=Zb (h:=h.push (m LS.toArray 43)) (o:=m LS.toArray 43);rw[W]at this;exact this);have Zbe:Zf h.size h h1:=(((Zf.refl h.size h).add _).add _).trans (b1.mono L6);clear b1 b1';obtain⟨xs,Ip⟩:∃xs:List E,xs=QR (XZ l 0) (XZ l 4) (XZ l 8) (XZ l 12) (XZ l 16):=⟨_,rfl⟩
  have hx5:(u xs)=5:=by rw[Ip];rfl
  have hxi:∀i (hi:i<5),xs[i]'gX=r j (XZ l (4*i):Nat):=by
   intro i hi;subst Ip;rcases i with _|_|_|_|_|i<;>first|rfl|omega
  simp +contextual -implicitDefEqProofs only[go_sem];refine VS.Z9 (fun F g=>Zf (h.size+1) h1 g/\F 0=A (D ⟨b,o,M⟩) 20 c/\F 2=N (D ⟨h.size,0,M⟩)/\F 4=N (D ⟨h.size+1,0,M⟩)/\F 12=G (ZcG (h.size+1)).toArray/\∃i:Nat,i<=5/\F 13=r j i/\g[h.size+1]? = D (m (xs.take i++LS.drop i).toArray 43))
   (fun F _=>5-(vi (F 13)).toNat) rfl ⟨Zf.refl _ _,rfl,rfl,rfl,rfl,0,gX,rfl,by rw[GM];exact x1⟩ ?_
  rintro F g ⟨Jc,f0,f2,f4,f12,i,hi,f13,hg⟩;by_cases ZL:i<5
  .have ZW:(i:Int)<5:=gX;have p1:=Cf (h.size+1) i ZL;simp +contextual -implicitDefEqProofs only[go_sem,f0,f4,f12,f13,ZW,p1];refine VS.b (h.size+1) [(0,true),(1,true),(2,true),(3,true),(4,true),(5,true),(6,true),(7,true),(8,true),(9,true),(10,true),(11,true),(12,true),(13,true),(14,true),(15,true),(16,true),(17,true),(18,true),(19,true),(20,true),(21,true),(22,true),(23,true),(24,true),(25,true),(26,true),(27,true),(28,true),(29,true),(30,true),(31,true),(32,true),(33,true),(34,true),(35,false)] mixed po ?_;have g0:∀i,i<20->hc g ⟨b,o+i,M⟩=D (r .u8 (l.getD i 0:Nat)):=fun i hi=>by rw[Jc.hc (by show b<h.size+1;omega),Zbe.hc (by exact hb)];exact YR i gX
   have e0:=g0 (4*i) gX;have e1:=g0 (4*i+1) gX;have e2:=g0 (4*i+2) gX;have e3:=g0 (4*i+3) gX;have b0:=ZT s.byte (4*i);have b1:=ZT s.byte (4*i+1);have b2:=ZT s.byte (4*i+2);have b3:=ZT s.byte (4*i+3);have t0:(4*(i:Int)).toNat=4*i:=gX;have t1:(4*(i:Int)+1).toNat=4*i+1:=gX;have t2:(4*(i:Int)+2).toNat=4*i+2:=gX;have t3:(4*(i:Int)+3).toNat=4*i+3:=gX;have r1:i+1<6:=gX;have hlen:(xs.take i++LS.drop i).length=5:=by rw[Vf _ _ _ gX (by rw[hx5];rfl),hx5]
   have eo:=Es b0 b1 b2 b3;rw[show l.getD (4*i) 0*16777216+l.getD (4*i+1) 0*65536+l.getD (4*i+2) 0*256+l.getD (4*i+3) 0=XZ l (4*i) from rfl]at eo;simp +contextual -implicitDefEqProofs only[go_sem,f0,f4,e0,e1,e2,e3,t0,t1,t2,t3,eo];rw[Ye hg,if_pos ⟨gX,rfl⟩];simp +contextual -implicitDefEqProofs only[go_sem,f13];refine⟨(Zf.refl _ _).Zj gX _,⟨Jc.Zj gX _,f0,f2,f4,f12,i+1,ZL,rfl,?_⟩,?_⟩
   .rw[<-hxi i ZL,N0 _ _ _ gX (by rw[hx5];rfl),K,if_pos rfl,if_pos (Za hg)]
   .simp only[vi,Zk,↓reduceIte,f13];omega
  .have YU:¬(i:Int)<5:=gX;obtain rfl:i=5:=gX;rw[<-hx5,N9 _ _ (by rw[hx5];rfl)]at hg;have QH:rd g ⟨h.size+1,0,M⟩ 5=D (QR (XZ l 0) (XZ l 4) (XZ l 8) (XZ l 12) (XZ l 16)):=by rw[<-Ip];exact Zs hg hx5
   simp +contextual -implicitDefEqProofs only[go_sem,f2,f4,f12,f13,YU,QH];refine (Qt T _ _ _ _ _ _).use ?_;rintro v1 h2 ⟨rfl,rfl⟩;have y0:g[h.size]? = D (m LS.toArray 43):=Jc.get gX x0;have y1:rd g ⟨h.size,0,M⟩ 5=D LS:=Zs y0 rfl;unfold Iq Uu;rw[if_pos h20];have zg:h.size+2<=g.size:=Nat.le_trans z1 Jc.size;have hB:=Zbe.trans (Jc.mono gX);have y2:=Z2 y0 0;unfold LS QR at *;by_cases q:Y9 (XZ l 0) (XZ l 4) (XZ l 8) (XZ l 12) (XZ l 16)=0
   .rw[if_pos q];simp +contextual -implicitDefEqProofs only[go_sem,q,f2,f4,QH,y1,y2];exact (hB.Zj (R _) _).Yx L6 _
   .simp only[if_neg q];simp +contextual -implicitDefEqProofs only[go_sem,q,f2,f4,QH,y1,y2];exact (hB.Zj (R _) _).Yx L6 _
 .have ZcH:¬((u l):Int)=20:=gX;unfold Iq Uu LS QR;simp +contextual -implicitDefEqProofs only[go_sem,ZcH,h20]
  (repeat' (first|exact Zf.refl _ _|assumption|refine Zf.add ?_ _|refine Zf.Zj ?_ aaa _|refine Zf.trans aab ?_))
def Z0(k:E)(ZU Z4:Int)(s:List Bool):List E:=k :: r j ZU :: r j Z4 :: s.map Value.bool
def iv(x:Int):List E:=[r j x]
def early(Z4:Int)(s:List Bool)(n:Nat):Bool:=(Z n).any fun i=>s.getD i false&&decide (Z4-8+i<0)
def XE(n:Nat)(ZU Z4:Int)(s:List Bool):Int:=
 if n≠32\/ZU<0\/1073741824<ZU\/Z4<0\/1073741824<Z4 then 5 else
 if early Z4 s 8=true then 5 else if 0<Z4/\s.getD 7 false=false then 5 else 0
theorem RF(s:List Bool)(i:Nat)(hi:i<(u s)):nth (s.map Value.bool) i=D (y (s.getD i false)):=by
 rw[YE,List.getElem?_map,List.getD_eq_getElem?_getD,List.getElem?_eq_getElem hi];rfl
theorem Ir(Z4:Int)(s:List Bool)(i:Nat):early Z4 s (i+1)=(early Z4 s i||(s.getD i false&&decide (Z4-8+i<0))):=by
 simp[early,X]
theorem aZ{Z4:Int}{s:List Bool}{i:Nat}(hi:i<8)(h1:s.getD i false=true)(h2:Z4-8+i<0):early Z4 s 8=true:=by
 unfold early;rw[List.any_eq_true];exact⟨i,List.mem_range.2 hi,by simp only[h1,Bool.true_and,decide_eq_true_eq];exact h2⟩
theorem OZ(T:World)(h:Hp)(p:Option Addr)(n c:Nat)(ZU Z4:Int)(s:List Bool)(hs:(u s)=8):
  Zc aa T 43 #[G (Z0 (A p n c) ZU Z4 s).toArray] h fun v' h'=>v'=r j (XE n ZU Z4 s)/\Zf h.size h h':=by
 refine Zc.Y8 [_] Tryz.func43 ?_;have V1:(s.map Value.bool).length=8:=by rw[Y,hs]
 have tk:(s.map Value.bool).take 8=s.map Value.bool:=XH V1;have n7:=RF s 7 gX;unfold Z0;by_cases q:n≠32\/ZU<0\/1073741824<ZU\/Z4<0\/1073741824<Z4
 .have e:XE n ZU Z4 s=5:=by unfold XE;rw[if_pos q]
  rw[e];by_cases q1:(n:Int)=32
  .by_cases q2:ZU<0
   .simp +contextual -implicitDefEqProofs only[go_sem,q1,q2]
    (repeat' (first|exact Zf.refl _ _|assumption|refine Zf.add ?_ _|refine Zf.Zj ?_ aaa _|refine Zf.trans aab ?_))
   .by_cases q3:1073741824<ZU
    .simp +contextual -implicitDefEqProofs only[go_sem,q1,q2,q3]
     (repeat' (first|exact Zf.refl _ _|assumption|refine Zf.add ?_ _|refine Zf.Zj ?_ aaa _|refine Zf.trans aab ?_))
    .by_cases q4:Z4<0
     .simp +contextual -implicitDefEqProofs only[go_sem,q1,q2,q3,q4]
      (repeat' (first|exact Zf.refl _ _|assumption|refine Zf.add ?_ _|refine Zf.Zj ?_ aaa _|refine Zf.trans aab ?_))
     .have q5:1073741824<Z4:=gX;simp +contextual -implicitDefEqProofs only[go_sem,q1,q2,q3,q4,q5]
      (repeat' (first|exact Zf.refl _ _|assumption|refine Zf.add ?_ _|refine Zf.Zj ?_ aaa _|refine Zf.trans aab ?_))
  .simp +contextual -implicitDefEqProofs only[go_sem,q1]
   (repeat' (first|exact Zf.refl _ _|assumption|refine Zf.add ?_ _|refine Zf.Zj ?_ aaa _|refine Zf.trans aab ?_))
 .have q1:(n:Int)=32:=gX;have q2:¬ZU<0:=gX;have q3:¬1073741824<ZU:=gX;have q4:¬Z4<0:=gX;have q5:¬1073741824<Z4:=gX;simp +contextual -implicitDefEqProofs only[go_sem,q1,q2,q3,q4,q5,V1,tk];obtain⟨H,hH⟩:=ZD (h.push (m (A p n c :: r j ZU :: r j Z4 :: s.map Value.bool).toArray 76):Hp);have hb:Zf h.size h H:=by rw[hH];exact (Zf.refl _ _).add _
  have x1:H[h.size]? = D (m (A p n c :: r j ZU :: r j Z4 :: s.map Value.bool).toArray 76):=by rw[hH];exact Zb
  have x2:hc H ⟨h.size,2,M⟩=D (r j Z4):=by rw[Zg x1];rfl
  have x7:hc H ⟨h.size,3+7,M⟩=D (y (s.getD 7 false)):=by rw[Zg x1];exact n7
  rw[<-hH];refine VS.Z9 (fun F g=>g=H/\F 1=N (D ⟨h.size,0,M⟩)/\F 30=G (s.map Value.bool).toArray/\∃i:Nat,i<=8/\F 31=r j i/\early Z4 s i=false)
   (fun F _=>8-(vi (F 31)).toNat) rfl ⟨rfl,rfl,rfl,0,gX,rfl,rfl⟩ ?_
  rintro F g ⟨rfl,f1,f30,i,hi,f31,he⟩;by_cases ZL:i<8
  .have ZW:(i:Int)<8:=gX;have ni:=RF s i gX;by_cases c1:s.getD i false=true
   .rw[c1]at ni;by_cases c2:Z4-8+i<0
    .have e:XE n ZU Z4 s=5:=by unfold XE;rw[if_neg q,if_pos (aZ ZL c1 c2)]
     rw[e];simp +contextual -implicitDefEqProofs only[go_sem,f1,f30,f31,ZW,ni,x2,c2,hb]
    .simp +contextual -implicitDefEqProofs only[go_sem,f1,f30,f31,ZW,ni,x2,c2];refine⟨⟨rfl,f1,f30,i+1,ZL,rfl,by rw[Ir,he,c1];simpa using c2⟩,?_⟩;simp only[vi,Zk,↓reduceIte,f31];omega
   .have c1:s.getD i false=false:=by simpa using c1
    rw[c1]at ni;simp +contextual -implicitDefEqProofs only[go_sem,f1,f30,f31,ZW,ni];refine⟨⟨rfl,f1,f30,i+1,ZL,rfl,by rw[Ir,he,c1];rfl⟩,?_⟩;simp only[vi,Zk,↓reduceIte,f31];omega
  .have YU:¬(i:Int)<8:=gX;obtain rfl:i=8:=gX;have e:XE n ZU Z4 s=if 0<Z4/\s.getD 7 false=false then 5 else 0:=by unfold XE;rw[if_neg q,he];rfl
   rw[e];by_cases c1:0<Z4
   .by_cases c2:s.getD 7 false=true
    .rw[c2]at x7;simp +contextual -implicitDefEqProofs only[go_sem,f1,f30,f31,YU,x2,x7,c1,c2,hb]
    .have c2:s.getD 7 false=false:=by simpa using c2
     rw[c2]at x7;simp +contextual -implicitDefEqProofs only[go_sem,f1,f30,f31,YU,x2,x7,c1,c2,hb]
   .simp +contextual -implicitDefEqProofs only[go_sem,f1,f30,f31,YU,x2,c1,hb]
def TT(Z4:Int)(s:List Bool)(n:Nat):List Int:=((Z n).filter fun i=>s.getD i false).map fun i:Nat=>Z4-8+(i:Int)
theorem jh(Z4:Int)(s:List Bool)(i:Nat):TT Z4 s (i+1)=TT Z4 s i++(if s.getD i false=true then [Z4-8+(i:Int)] else []):=by
 unfold TT;rw[X,List.filter_append,List.map_append]
 congr 1
 by_cases h:s.getD i false=true
 .rw[List.filter_cons_of_pos (by simpa using h),if_pos h];rfl
 .rw[List.filter_cons_of_neg (by simpa using h),if_neg h];rfl
def XU(l:List Int)(t:Int):List Bool:=(Z 8).map fun k:Nat=>l.any fun x=>x-t+8 == (k:Int)
theorem VD(l:List Int)(t:Int):(XU l t).length=8:=by simp[XU]
theorem M1(l:List Int)(t x:Int)(hx:x-t+8<8):XU (l++[x]) t=if 0<=x-t+8 then (XU l t).set (x-t+8).toNat true else XU l t:=by
 apply List.ext_getElem
 .split<;>simp[XU]
 .intro k h1 h2;have hk:k<8:=by simpa [XU] using h1
  by_cases h0:0<=x-t+8
  .simp only[if_pos h0,List.getElem_set];by_cases e:(x-t+8).toNat=k
   .rw[if_pos e];simp only[XU,O,L,Q,S,U,J,Bool.or_eq_true];right;simp only[beq_iff_eq];omega
   .rw[if_neg e];simp only[XU,O,L,Q,S,U,J];have:(x-t+8 == (k:Int))=false:=by simp only[beq_eq_false_iff_ne,ne_eq];omega
    rw[this,J]
  .simp only[if_neg h0];simp only[XU,O,L,Q,S,U,J];have:(x-t+8 == (k:Int))=false:=by simp only[beq_eq_false_iff_ne,ne_eq];omega
   rw[this,J]
def UP:List E:=[A M 0 0,r j 0,r j 0,y false,y false,y false,y false,y false,y false,y false,y false]
theorem Cg(k:E)(ZU Z4:Int)(s:List Bool)(i:Nat):(Z0 k ZU Z4 s).set (3+i) (y true)=Z0 k ZU Z4 (s.set i true):=by
 rw[show 3+i=i+1+1+1 by omega];simp[Z0,List.map_set]
def Et(B:Nat)(h':Hp)(v':E)(kl:List Nat)(ZU Z4:Int)(s:List Bool):Prop:=∃w,v'=G (Z0 w ZU Z4 s).toArray/\Yd B 5 h' w kl
theorem Yu(k:E)(ZU Z4:Int)(s:List Bool)(hs:(u s)=8):(Z0 k ZU Z4 s).length=11:=by simp[Z0,hs]
theorem QI{p:Option Addr}{n c:Nat}(ZU Z4:Int)(s:List Bool):(Z0 (A p n c) ZU Z4 s).all Yq=true:=by simp[Z0,Yq]
theorem bi(k w:E)(ZU Z4:Int)(s:List Bool):(Z0 k ZU Z4 s).set 0 w=Z0 w ZU Z4 s:=rfl
theorem ji{h h2:Hp}{kl:List Nat}{p:Option Addr}{c:Nat}{k:E}{ZU Z4:Int}{s:List Bool}(hs:(u s)=8)(b:Zf (h.size+2) ((h.push (m (Z0 k ZU Z4 s).toArray 76)).push (m UP.toArray 76)) h2):
  Jb h2 ⟨h.size,0,M⟩ (A p (u kl) c)=D (h2.setIfInBounds h.size (m (Z0 (A p (u kl) c) ZU Z4 s).toArray 76))/\h2[h.size+1]? = D (m UP.toArray 76)/\h.size+2<=h2.size:=by
 have x0:h2[h.size]? = D (m (Z0 k ZU Z4 s).toArray 76):=b.get gX (by rw[Zl Dq,Zb]);have x1:h2[h.size+1]? = D (m UP.toArray 76):=b.get gX (by have:=Zb (h:=h.push (m (Z0 k ZU Z4 s).toArray 76)) (o:=m UP.toArray 76);rw[W]at this;exact this);have z:=b.size;simp at z;refine⟨?_,x1,gX⟩;rw[Ye x0,if_pos ⟨by rw[Yu _ _ _ _ hs];omega,rfl⟩,bi]
theorem pM(T:World)(h:Hp)(k:E)(kl:List Nat)(ZU Z4:Int)(s:List Bool)(hs:(u s)=8)(sk:Bs h k kl)(hk:(u kl)<=140737488355328):
  Zc aa T 80 #[G (Z0 k ZU Z4 s).toArray] h fun v' h'=>Et h.size h' v' kl ZU Z4 s/\Zf h.size h h':=by
 obtain⟨p,c,rfl,_⟩:=sk.open;refine Zc.Y8 [_] Tryz.func80 ?_;have V1:(s.map Value.bool).length=8:=by rw[Y,hs]
 unfold Z0;simp +contextual -implicitDefEqProofs only[go_sem];refine (Il T _ _ kl (sk.Yb ((Zf.refl h.size h).add _ |>.add _)) hk).use ?_;rintro w h2 ⟨ow,b2⟩;have xt:Zf (h.size+2) _ h2:=b2.mono Dq;have hB:Zf h.size h h2:=((Zf.refl h.size h).add _ |>.add _).trans (b2.mono L6);obtain⟨pw,cw,rfl,_⟩:=ow.open;obtain⟨y1,y2,y3⟩:=ji (kl:=kl) (p:=pw) (c:=cw) hs xt;have ow:=ow.mono (B':=h.size+2) Dq;have y4:=Z2 y2 0 (Z0 (A pw (u kl) cw) ZU Z4 s);rw[ZZ (Yu _ _ _ _ hs),if_pos ⟨by rw[Yu _ _ _ _ hs];exact R _,QI _ _ _⟩]at y4;obtain⟨C,hC⟩:=ZD (Z0 (A pw (u kl) cw) ZU Z4 s);have WW:(u C)=11:=by rw[hC];exact Yu _ _ _ _ hs
 have tk:=XH WW;rw[<-hC]at y1 y4;have y5:=Z2 (h:=h2.setIfInBounds h.size (m C.toArray 76)) (b:=h.size+1) (l:=UP) (t:=76) (by rw[K,if_neg gX];exact y2) 0 C;have Xz:C.all Yq=true:=by rw[hC];exact QI _ _ _
 rw[ZZ (by rw[WW];rfl),if_pos ⟨by rw[WW];exact R _,Xz⟩]at y5;clear y4;simp +contextual -implicitDefEqProofs only[go_sem,y1,y5,WW,tk];refine⟨⟨_,by rw[hC],?_⟩,(hB.Zj gX _).Zj gX _⟩;exact ((ow.Z3 gX _).Z3 gX _).mono gX
end Go.Proofs.YtdpjmhgbmhjniaaGreatDoor
