/- Part Line. -/
import Derived.Test.YtnhfdnlcpdbjlaaGreatDoorVst
import Derived.Test.YtnhfdnlcpdbjlaaGreatDoorBytes
import Derived.Test.YtnhfdnlcpdbjlaaGreatDoorW8
open Go.Value renaming bool→d,int→j,slice→y
open Go.IntKind renaming i64→a
open Go.Obj renaming cells→m
open List renaming length→A,getElem_range→G,getElem_map→J,any_append→K,any_cons→L,any_nil→M,range_succ→N,length_map→O,range→Q
open Nat renaming le_refl→R
open Bool renaming or_false→D
open Go renaming Value→E
namespace Go.Proofs.YtnhfdnlcpdbjlaaGreatDoor
open Go Go.V
set_option linter.all false
set_option maxRecDepth 100000
def Yc(k:E)(Z2 Z5:Int)(s:List Bool):List E:=k :: j a Z2 :: j a Z5 :: s.map Value.bool
def iv(x:Int):List E:=[j a x]
def early(Z5:Int)(s:List Bool)(n:Nat):Bool:=(Q n).any fun i=>s.getD i false&&decide (Z5-8+i<0)
def Jg(n:Nat)(Z2 Z5:Int)(s:List Bool):Int:=
 if n≠32\/Z2<0\/1073741824<Z2\/Z5<0\/1073741824<Z5 then 5 else
 if early Z5 s 8=true then 5 else if 0<Z5/\s.getD 7 false=false then 5 else 0
theorem OI(s:List Bool)(i:Nat)(hi:i<(A s)):nth (s.map Value.bool) i=some (d (s.getD i false)):=by
 rw[Y7,List.getElem?_map,List.getD_eq_getElem?_getD,List.getElem?_eq_getElem hi];rfl
theorem Gd(Z5:Int)(s:List Bool)(i:Nat):early Z5 s (i+1)=(early Z5 s i||(s.getD i false&&decide (Z5-8+i<0))):=by
 simp[early,N]
theorem gx{Z5:Int}{s:List Bool}{i:Nat}(hi:i<8)(h1:s.getD i false=true)(h2:Z5-8+i<0):early Z5 s 8=true:=by
 unfold early;rw[List.any_eq_true];exact⟨i,List.mem_range.2 hi,by simp only[h1,Bool.true_and,decide_eq_true_eq];exact h2⟩
theorem MQ(T:World)(h:Hp)(p:Option Addr)(n c:Nat)(Z2 Z5:Int)(s:List Bool)(hs:(A s)=8):
  Zg Tryz.prog T 56 #[.agg (Yc (y p n c) Z2 Z5 s).toArray] h fun v' h'=>v'=j a (Jg n Z2 Z5 s)/\Zk h.size h h':=by
 refine Zg.XK [_] Tryz.func56 ?_;have LN:(s.map Value.bool).length=8:=by rw[O,hs]
 have tk:(s.map Value.bool).take 8=s.map Value.bool:=Ji LN;have n7:=OI s 7 mD;unfold Yc;by_cases q:n≠32\/Z2<0\/1073741824<Z2\/Z5<0\/1073741824<Z5
 .have e:Jg n Z2 Z5 s=5:=by unfold Jg;rw[if_pos q]
  rw[e];by_cases q1:(n:Int)=32
  .by_cases q2:Z2<0
   .simp +contextual only[go_sem,q1,q2]
    (repeat' (first|exact Zk.refl _ _|assumption|refine Zk.add ?_ _|refine Zk.Zu ?_ IX _|refine Zk.trans KO ?_))
   .by_cases q3:1073741824<Z2
    .simp +contextual only[go_sem,q1,q2,q3]
     (repeat' (first|exact Zk.refl _ _|assumption|refine Zk.add ?_ _|refine Zk.Zu ?_ IX _|refine Zk.trans KO ?_))
    .by_cases q4:Z5<0
     .simp +contextual only[go_sem,q1,q2,q3,q4]
      (repeat' (first|exact Zk.refl _ _|assumption|refine Zk.add ?_ _|refine Zk.Zu ?_ IX _|refine Zk.trans KO ?_))
     .have q5:1073741824<Z5:=mD;simp +contextual only[go_sem,q1,q2,q3,q4,q5]
      (repeat' (first|exact Zk.refl _ _|assumption|refine Zk.add ?_ _|refine Zk.Zu ?_ IX _|refine Zk.trans KO ?_))
  .simp +contextual only[go_sem,q1]
   (repeat' (first|exact Zk.refl _ _|assumption|refine Zk.add ?_ _|refine Zk.Zu ?_ IX _|refine Zk.trans KO ?_))
 .have q1:(n:Int)=32:=mD;have q2:¬Z2<0:=mD;have q3:¬1073741824<Z2:=mD;have q4:¬Z5<0:=mD;have q5:¬1073741824<Z5:=mD;simp +contextual only[go_sem,q1,q2,q3,q4,q5,LN,tk];obtain⟨H,hH⟩:=ZP (h.push (m (y p n c :: j a Z2 :: j a Z5 :: s.map Value.bool).toArray 111):Hp);have hb:Zk h.size h H:=by rw[hH];exact (Zk.refl _ _).add _
  have x1:H[h.size]? = some (m (y p n c :: j a Z2 :: j a Z5 :: s.map Value.bool).toArray 111):=by rw[hH];exact Zd
  have x2:hc H ⟨h.size,2,none⟩=some (j a Z5):=by rw[Zn x1];rfl
  have x7:hc H ⟨h.size,3+7,none⟩=some (d (s.getD 7 false)):=by rw[Zn x1];exact n7
  rw[<-hH];refine VS.Yq (fun F g=>g=H/\F 1=.pointer (some ⟨h.size,0,none⟩)/\F 30=.agg (s.map Value.bool).toArray/\∃i:Nat,i<=8/\F 31=j a i/\early Z5 s i=false)
   (fun F _=>8-(vi (F 31)).toNat) rfl ⟨rfl,rfl,rfl,0,mD,rfl,rfl⟩ ?_
  rintro F g ⟨rfl,f1,f30,i,hi,f31,he⟩;by_cases ZV:i<8
  .have Z4:(i:Int)<8:=mD;have ni:=OI s i mD;by_cases c1:s.getD i false=true
   .rw[c1]at ni;by_cases c2:Z5-8+i<0
    .have e:Jg n Z2 Z5 s=5:=by unfold Jg;rw[if_neg q,if_pos (gx ZV c1 c2)]
     rw[e];simp +contextual only[go_sem,f1,f30,f31,Z4,ni,x2,c2,hb]
    .simp +contextual only[go_sem,f1,f30,f31,Z4,ni,x2,c2];refine⟨⟨rfl,f1,f30,i+1,ZV,rfl,by rw[Gd,he,c1];simpa using c2⟩,?_⟩;simp only[vi,Zt,↓reduceIte,f31];omega
   .have c1:s.getD i false=false:=by simpa using c1
    rw[c1]at ni;simp +contextual only[go_sem,f1,f30,f31,Z4,ni];refine⟨⟨rfl,f1,f30,i+1,ZV,rfl,by rw[Gd,he,c1];rfl⟩,?_⟩;simp only[vi,Zt,↓reduceIte,f31];omega
  .have Xw:¬(i:Int)<8:=mD;obtain rfl:i=8:=mD;have e:Jg n Z2 Z5 s=if 0<Z5/\s.getD 7 false=false then 5 else 0:=by unfold Jg;rw[if_neg q,he];rfl
   rw[e];by_cases c1:0<Z5
   .by_cases c2:s.getD 7 false=true
    .rw[c2]at x7;simp +contextual only[go_sem,f1,f30,f31,Xw,x2,x7,c1,c2,hb]
    .have c2:s.getD 7 false=false:=by simpa using c2
     rw[c2]at x7;simp +contextual only[go_sem,f1,f30,f31,Xw,x2,x7,c1,c2,hb]
   .simp +contextual only[go_sem,f1,f30,f31,Xw,x2,c1,hb]
def Ry(Z5:Int)(s:List Bool)(n:Nat):List Int:=((Q n).filter fun i=>s.getD i false).map fun i:Nat=>Z5-8+(i:Int)
theorem nR(Z5:Int)(s:List Bool)(i:Nat):Ry Z5 s (i+1)=Ry Z5 s i++(if s.getD i false=true then [Z5-8+(i:Int)] else []):=by
 unfold Ry;rw[N,List.filter_append,List.map_append]
 congr 1
 by_cases h:s.getD i false=true
 .rw[List.filter_cons_of_pos (by simpa using h),if_pos h];rfl
 .rw[List.filter_cons_of_neg (by simpa using h),if_neg h];rfl
def Jv(l:List Int)(t:Int):List Bool:=(Q 8).map fun k:Nat=>l.any fun x=>x-t+8 == (k:Int)
theorem Sh(l:List Int)(t:Int):(Jv l t).length=8:=by simp[Jv]
theorem KR(l:List Int)(t x:Int)(hx:x-t+8<8):Jv (l++[x]) t=if 0<=x-t+8 then (Jv l t).set (x-t+8).toNat true else Jv l t:=by
 apply List.ext_getElem
 .split<;>simp[Jv]
 .intro k h1 h2;have hk:k<8:=by simpa [Jv] using h1
  by_cases h0:0<=x-t+8
  .simp only[if_pos h0,List.getElem_set];by_cases e:(x-t+8).toNat=k
   .rw[if_pos e];simp only[Jv,J,G,K,L,M,D,Bool.or_eq_true];right;simp only[beq_iff_eq];omega
   .rw[if_neg e];simp only[Jv,J,G,K,L,M,D];have:(x-t+8 == (k:Int))=false:=by simp only[beq_eq_false_iff_ne,ne_eq];omega
    rw[this,D]
  .simp only[if_neg h0];simp only[Jv,J,G,K,L,M,D];have:(x-t+8 == (k:Int))=false:=by simp only[beq_eq_false_iff_ne,ne_eq];omega
   rw[this,D]
def WJ:List E:=[y none 0 0,j a 0,j a 0,d false,d false,d false,d false,d false,d false,d false,d false]
theorem AI(k:E)(Z2 Z5:Int)(s:List Bool)(i:Nat):(Yc k Z2 Z5 s).set (3+i) (d true)=Yc k Z2 Z5 (s.set i true):=by
 rw[show 3+i=i+1+1+1 by omega];simp[Yc,List.map_set]
def Ct(B:Nat)(h':Hp)(v':E)(kl:List Nat)(Z2 Z5:Int)(s:List Bool):Prop:=∃w,v'=.agg (Yc w Z2 Z5 s).toArray/\YB B 5 h' w kl
theorem YO(k:E)(Z2 Z5:Int)(s:List Bool)(hs:(A s)=8):(Yc k Z2 Z5 s).length=11:=by simp[Yc,hs]
theorem UA{p:Option Addr}{n c:Nat}(Z2 Z5:Int)(s:List Bool):(Yc (y p n c) Z2 Z5 s).all YN=true:=by simp[Yc,YN]
theorem gy(k w:E)(Z2 Z5:Int)(s:List Bool):(Yc k Z2 Z5 s).set 0 w=Yc w Z2 Z5 s:=rfl
theorem nT{h h2:Hp}{kl:List Nat}{p:Option Addr}{c:Nat}{k:E}{Z2 Z5:Int}{s:List Bool}(hs:(A s)=8)(b:Zk (h.size+2) ((h.push (m (Yc k Z2 Z5 s).toArray 111)).push (m WJ.toArray 111)) h2):
  QF h2 ⟨h.size,0,none⟩ (y p (A kl) c)=some (h2.setIfInBounds h.size (m (Yc (y p (A kl) c) Z2 Z5 s).toArray 111))/\h2[h.size+1]? = some (m WJ.toArray 111)/\h.size+2<=h2.size:=by
 have x0:h2[h.size]? = some (m (Yc k Z2 Z5 s).toArray 111):=b.get mD (by rw[ZF sW,Zd]);have x1:h2[h.size+1]? = some (m WJ.toArray 111):=b.get mD (by have:=Zd (h:=h.push (m (Yc k Z2 Z5 s).toArray 111)) (o:=m WJ.toArray 111);rw[Array.size_push]at this;exact this);have z:=b.size;simp at z;refine⟨?_,x1,mD⟩;rw[Xk x0,if_pos ⟨by rw[YO _ _ _ _ hs];omega,rfl⟩,gy]
theorem vU(T:World)(h:Hp)(k:E)(kl:List Nat)(Z2 Z5:Int)(s:List Bool)(hs:(A s)=8)(sk:Bs h k kl)(hk:(A kl)<=140737488355328):
  Zg Tryz.prog T 60 #[.agg (Yc k Z2 Z5 s).toArray] h fun v' h'=>Ct h.size h' v' kl Z2 Z5 s/\Zk h.size h h':=by
 obtain⟨p,c,rfl,_⟩:=sk.open;refine Zg.XK [_] Tryz.func60 ?_;have LN:(s.map Value.bool).length=8:=by rw[O,hs]
 unfold Yc;simp +contextual only[go_sem];refine (Gc T _ _ kl (sk.YJ ((Zk.refl h.size h).add _ |>.add _)) hk).use ?_;rintro w h2 ⟨ow,b2⟩;have nU:Zk (h.size+2) _ h2:=b2.mono sW;have hB:Zk h.size h h2:=((Zk.refl h.size h).add _ |>.add _).trans (b2.mono vI);obtain⟨pw,cw,rfl,_⟩:=ow.open;obtain⟨y1,y2,y3⟩:=nT (kl:=kl) (p:=pw) (c:=cw) hs nU;have ow:=ow.mono (B':=h.size+2) sW;have y4:=Yh y2 0 (Yc (y pw (A kl) cw) Z2 Z5 s);rw[Yb (YO _ _ _ _ hs),if_pos ⟨by rw[YO _ _ _ _ hs];exact R _,UA _ _ _⟩]at y4;obtain⟨C,hC⟩:=ZP (Yc (y pw (A kl) cw) Z2 Z5 s);have TB:(A C)=11:=by rw[hC];exact YO _ _ _ _ hs
 have tk:=Ji TB;rw[<-hC]at y1 y4;have y5:=Yh (h:=h2.setIfInBounds h.size (m C.toArray 111)) (b:=h.size+1) (l:=WJ) (t:=111) (by rw[Array.getElem?_setIfInBounds,if_neg mD];exact y2) 0 C;have X1:C.all YN=true:=by rw[hC];exact UA _ _ _
 rw[Yb (by rw[TB];rfl),if_pos ⟨by rw[TB];exact R _,X1⟩]at y5;clear y4;simp +contextual only[go_sem,y1,y5,TB,tk];refine⟨⟨_,by rw[hC],?_⟩,(hB.Zu mD _).Zu mD _⟩;exact ((ow.Yi mD _).Yi mD _).mono mD
end Go.Proofs.YtnhfdnlcpdbjlaaGreatDoor
