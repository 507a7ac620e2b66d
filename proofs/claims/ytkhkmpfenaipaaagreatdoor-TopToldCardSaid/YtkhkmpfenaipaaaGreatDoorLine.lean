/- Part Line. -/
import Derived.Test.YtkhkmpfenaipaaaGreatDoorVst
import Derived.Test.YtkhkmpfenaipaaaGreatDoorBytes
import Derived.Test.YtkhkmpfenaipaaaGreatDoorW8
open Go.Value renaming bool→d,int→j,slice→m
open Go.IntKind renaming i64→a
open Go.Obj renaming cells→y
open List renaming length→o,toArray→E,range_succ→G,length_map→J,range→K
open Nat renaming le_refl→L
open Array renaming setIfInBounds→D
open Go renaming Value→A
namespace Go.Proofs.YtkhkmpfenaipaaaGreatDoor
open Go Go.V
set_option linter.all false
set_option maxRecDepth 100000
def Ys(k:A)(Z8 Yi:Int)(s:List Bool):List A:=k :: j a Z8 :: j a Yi :: s.map Value.bool
def iv(x:Int):List A:=[j a x]
def early(Yi:Int)(s:List Bool)(n:Nat):Bool:=(K n).any fun i=>s.getD i false&&decide (Yi-8+i<0)
def JJ(n:Nat)(Z8 Yi:Int)(s:List Bool):Int:=
 if n≠32\/Z8<0\/1073741824<Z8\/Yi<0\/1073741824<Yi then 5 else
 if early Yi s 8=true then 5 else if 0<Yi/\s.getD 7 false=false then 5 else 0
theorem Mj(s:List Bool)(i:Nat)(hi:i<(o s)):nth (s.map Value.bool) i=some (d (s.getD i false)):=by
 grind [X2]
theorem Er(Yi:Int)(s:List Bool)(i:Nat):early Yi s (i+1)=(early Yi s i||(s.getD i false&&decide (Yi-8+i<0))):=by
 simp[early,G]
theorem mg{Yi:Int}{s:List Bool}{i:Nat}(hi:i<8)(c:s.getD i false=true)(b:Yi-8+i<0):early Yi s 8=true:=by
 grind [early]
theorem Ky(T:World)(h:Hp)(p:Option Addr)(n c:Nat)(Z8 Yi:Int)(s:List Bool)(Q:(o s)=8):
  Zg Tryz.prog T 34 #[.agg (Ys (m p n c) Z8 Yi s).toArray] h fun O h'=>O=j a (JJ n Z8 Yi s)/\Zm h.size h h':=by
 refine Zg.X8 [_] Tryz.func34 ?_;have N:(s.map Value.bool).length=8:=by rw[J,Q]
 have tk:(s.map Value.bool).take 8=s.map Value.bool:=Ja N;have P:=Mj s 7 uh;unfold Ys;by_cases q:n≠32\/Z8<0\/1073741824<Z8\/Yi<0\/1073741824<Yi
 .have e:JJ n Z8 Yi s=5:=by unfold JJ;rw[if_pos q]
  rw[e];by_cases k:(n:Int)=32
  .by_cases l:Z8<0
   .simp +contextual only[go_sem,k,l]
    grind [Zm.add,Zm.refl]
   .by_cases t:1073741824<Z8
    .simp +contextual only[go_sem,k,l,t]
     grind [Zm.add,Zm.refl]
    .by_cases v:Yi<0
     .simp +contextual only[go_sem,k,l,t,v]
      grind [Zm.add,Zm.refl]
     .have w:1073741824<Yi:=uh;simp +contextual only[go_sem,k,l,t,v,w]
      grind [Zm.add,Zm.refl]
  .simp +contextual only[go_sem,k]
   grind [Zm.add,Zm.refl]
 .have k:(n:Int)=32:=uh;have l:¬Z8<0:=uh;have t:¬1073741824<Z8:=uh;have v:¬Yi<0:=uh;have w:¬1073741824<Yi:=uh;simp +contextual only[go_sem,k,l,t,v,w,N,tk];let⟨H,z⟩:=ZO (h.push (y (m p n c :: j a Z8 :: j a Yi :: s.map Value.bool).toArray 70):Hp);have hb:Zm h.size h H:=by rw[z];exact (Zm.refl _ _).add _
  have M:H[h.size]? = some (y (m p n c :: j a Z8 :: j a Yi :: s.map Value.bool).toArray 70):=by rw[z];exact Zf
  have r:hc H ⟨h.size,2,none⟩=some (j a Yi):=by rw[Zr M];rfl
  have u:hc H ⟨h.size,3+7,none⟩=some (d (s.getD 7 false)):=by rw[Zr M];exact P
  rw[<-z];refine VS.YC (fun F g=>g=H/\F 1=.pointer (some ⟨h.size,0,none⟩)/\F 30=.agg (s.map Value.bool).toArray/\∃i:Nat,i<=8/\F 31=j a i/\early Yi s i=false)
   (fun F _=>8-(vi (F 31)).toNat) rfl ⟨rfl,rfl,rfl,0,uh,rfl,rfl⟩ ?_
  rintro F g ⟨rfl,f1,f30,i,hi,f31,x⟩;by_cases C:i<8
  .have B:(i:Int)<8:=uh;have ni:=Mj s i uh;by_cases b:s.getD i false=true
   .rw[b]at ni;by_cases f:Yi-8+i<0
    .have e:JJ n Z8 Yi s=5:=by unfold JJ;rw[if_neg q,if_pos (mg C b f)]
     rw[e];simp +contextual only[go_sem,f1,f30,f31,B,ni,r,f,hb]
    .simp +contextual only[go_sem,f1,f30,f31,B,ni,r,f];refine⟨⟨rfl,f1,f30,i+1,C,rfl,by rw[Er,x,b];grind⟩,?_⟩;simp only[vi,Zu,↓reduceIte,f31];omega
   .have b:s.getD i false=false:=by simpa using b
    rw[b]at ni;simp +contextual only[go_sem,f1,f30,f31,B,ni];refine⟨⟨rfl,f1,f30,i+1,C,rfl,by rw[Er,x,b];rfl⟩,?_⟩;simp only[vi,Zu,↓reduceIte,f31];omega
  .have I:¬(i:Int)<8:=uh;obtain rfl:i=8:=uh;have e:JJ n Z8 Yi s=if 0<Yi/\s.getD 7 false=false then 5 else 0:=by unfold JJ;rw[if_neg q,x];rfl
   rw[e];by_cases b:0<Yi
   .by_cases f:s.getD 7 false=true
    .rw[f]at u;simp +contextual only[go_sem,f1,f30,f31,I,r,u,b,f,hb]
    .have f:s.getD 7 false=false:=by simpa using f
     rw[f]at u;simp +contextual only[go_sem,f1,f30,f31,I,r,u,b,f,hb]
   .simp +contextual only[go_sem,f1,f30,f31,I,r,b,hb]
def Oj(Yi:Int)(s:List Bool)(n:Nat):List Int:=((K n).filter fun i=>s.getD i false).map fun i:Nat=>Yi-8+(i:Int)
theorem vy(Yi:Int)(s:List Bool)(i:Nat):Oj Yi s (i+1)=Oj Yi s i++(if s.getD i false=true then [Yi-8+(i:Int)] else []):=by
 grind [Oj,G]
def J4(l:List Int)(t:Int):List Bool:=(K 8).map fun k:Nat=>l.any fun x=>x-t+8 == (k:Int)
theorem Rl(l:List Int)(t:Int):(J4 l t).length=8:=by simp[J4]
theorem HU(l:List Int)(t x:Int)(f:x-t+8<8):J4 (l++[x]) t=if 0<=x-t+8 then (J4 l t).set (x-t+8).toNat true else J4 l t:=by
 apply List.ext_getElem
 .split<;>simp[J4]
 .intro k c h;have g:k<8:=by simpa [J4] using c
  by_cases b:0<=x-t+8
  .simp only[if_pos b,List.getElem_set];by_cases e:(x-t+8).toNat=k
   .grind [J4]
   .rw[if_neg e];simp only[J4,List.getElem_map,List.getElem_range,List.any_append,List.any_cons,List.any_nil,Bool.or_false]
    grind
  .simp only[if_neg b]
   grind [J4]
def Ti:List A:=[m none 0 0,j a 0,j a 0,d false,d false,d false,d false,d false,d false,d false,d false]
theorem fy(k:A)(Z8 Yi:Int)(s:List Bool)(i:Nat):(Ys k Z8 Yi s).set (3+i) (d true)=Ys k Z8 Yi (s.set i true):=by
 grind [Ys,List.map_set]
def aO(B:Nat)(h':Hp)(b:A)(kl:List Nat)(Z8 Yi:Int)(s:List Bool):Prop:=∃w,b=.agg (Ys w Z8 Yi s).toArray/\YL B 5 h' w kl
theorem Y7(k:A)(Z8 Yi:Int)(s:List Bool)(b:(o s)=8):(Ys k Z8 Yi s).length=11:=by simp[Ys,b]
theorem Wo{p:Option Addr}{n c:Nat}(Z8 Yi:Int)(s:List Bool):(Ys (m p n c) Z8 Yi s).all YV=true:=by simp[Ys,YV]
theorem mh(k w:A)(Z8 Yi:Int)(s:List Bool):(Ys k Z8 Yi s).set 0 w=Ys w Z8 Yi s:=rfl
theorem vz{h e:Hp}{kl:List Nat}{p:Option Addr}{c:Nat}{k:A}{Z8 Yi:Int}{s:List Bool}(f:(o s)=8)(b:Zm (h.size+2) ((h.push (y (Ys k Z8 Yi s).toArray 70)).push (y (E Ti) 70)) e):
  Uf e ⟨h.size,0,none⟩ (m p (o kl) c)=some (D e h.size (y (Ys (m p (o kl) c) Z8 Yi s).toArray 70))/\e[h.size+1]? = some (y (E Ti) 70)/\h.size+2<=e.size:=by
 grind [Zm.get,Uf,YV,Y7,mh]
theorem Zbs(T:World)(h:Hp)(k:A)(kl:List Nat)(Z8 Yi:Int)(s:List Bool)(e:(o s)=8)(u:Bs h k kl)(F:(o kl)<=140737488355328):
  Zg Tryz.prog T 64 #[.agg (Ys k Z8 Yi s).toArray] h fun B h'=>aO h.size h' B kl Z8 Yi s/\Zm h.size h h':=by
 obtain⟨p,c,rfl,_⟩:=u.open;refine Zg.X8 [_] Tryz.func64 ?_;have N:(s.map Value.bool).length=8:=by rw[J,e]
 unfold Ys;simp +contextual only[go_sem];refine (Nk T _ _ kl (u.YQ ((Zm.refl h.size h).add _ |>.add _)) F).use ?_;rintro w i ⟨ow,v⟩;have x:Zm (h.size+2) _ i:=v.mono zX;have H:Zm h.size h i:=((Zm.refl h.size h).add _ |>.add _).trans (v.mono Fo);obtain⟨pw,n,rfl,_⟩:=ow.open;let⟨r,z,M⟩:=vz (kl:=kl) (p:=pw) (c:=n) e x;have ow:=ow.mono (B':=h.size+2) zX;have g:=Yr z 0 (Ys (m pw (o kl) n) Z8 Yi s);rw[Yf (Y7 _ _ _ _ e),if_pos ⟨by rw[Y7 _ _ _ _ e];exact L _,Wo _ _ _⟩]at g;let⟨C,hC⟩:=ZO (Ys (m pw (o kl) n) Z8 Yi s);have f:(o C)=11:=by rw[hC];exact Y7 _ _ _ _ e
 have tk:=Ja f;rw[<-hC]at r g;have q:=Yr (h:=D i h.size (y (E C) 70)) (b:=h.size+1) (l:=Ti) (t:=70) zK 0 C;have I:C.all YV=true:=by rw[hC];exact Wo _ _ _
 rw[Yf (by rw[f];rfl),if_pos ⟨by rw[f];exact L _,I⟩]at q;clear g;simp +contextual only[go_sem,r,q,f,tk];refine⟨⟨_,by rw[hC],?_⟩,(H.ZA uh _).ZA uh _⟩;exact ((ow.Ym uh _).Ym uh _).mono uh
end Go.Proofs.YtkhkmpfenaipaaaGreatDoor
