/- Part Shaq. -/
import Derived.Test.YtdpjmhgbmhjniaaGreatDoorVst
import Derived.Test.YtdpjmhgbmhjniaaGreatDoorW11
import Derived.Test.YtdpjmhgbmhjniaaGreatDoorLine
import Derived.Test.YtdpjmhgbmhjniaaGreatDoorBytes
open Go.Value renaming int→t,pointer→L,slice→M
open Go.IntKind renaming i64→A,u32→D
open Go.Obj renaming cells→J
open Go.Proofs.Tryz renaming prog→al
open List renaming length→H,getD_eq_getElem?_getD→N,replicate→R,getElem?_eq_getElem→W,mem_append→am,length_append→ay,length_drop→az,range→a8,getElem?_map→a9,mem_map→bc,getElem_mem→bd,take_length→be,not_mem_nil→bf,mem_cons→bp
open Nat renaming mod_eq_of_lt→Z,le_refl→aa,testBit_and→ao,mod_lt→av,lt_of_le_of_lt→aw,mul_mod_mul_right→a0,div_lt_iff_lt_mul→a1,pow_add→a2,eq_of_testBit_eq→a3,pow_le_pow_right→a4,xor_lt_two_pow→a7,add_zero→ba,pow_pos→bg,or_comm→bh,div_le_self→bn,testBit_xor→bo
open Option renaming some→O,none→Q
open Array renaming getElem?_setIfInBounds→U,getElem?_push→a5,ext_getElem?→a6
open Go renaming Value→Y,World→aI
namespace Go.Proofs.YtdpjmhgbmhjniaaGreatDoor
open Go Go.V
set_option linter.all false
set_option maxRecDepth 100000
variable{s:List Nat}
def YA(k n a b:Int)(d:Y):List Y:=[t A k,t A n,t A a,t A b,d]
def ZH(k:Int):List (Nat × Int):=
 if k=1\/k=2\/k=3\/k=9 then [(1,4)] else if k=4\/k=5\/k=6 then [(2,1048576)] else if k=8 then [(1,4),(3,100000)] else []
def QJ(b:Nat)(x:Nat × Int):List Y:=[L (O ⟨b,x.1,Q⟩),t A x.2]
set_option maxHeartbeats 2000000 in
theorem SN(T:aI)(h:Hp)(b:Nat)(k n a c:Int)(d:Y)(hb:h[b]? = O (J (YA k n a c d).toArray 41)):
  Zc al T 57 #[L (O ⟨b,0,Q⟩)] h fun v' h'=>∃w,v'=.tuple [w,.bool (decide (1<=k/\k<=9))].toArray/\JD h.size 151 (QJ b) 2 h' w (ZH k)/\Zf h.size h h':=by
 refine Zc.Y8 [_] Tryz.func57 ?_;have b0:=Za hb;have x0:hc h ⟨b,0,Q⟩=O (t A k):=by rw[Zg hb];rfl
 simp +contextual -implicitDefEqProofs (maxSteps:=2000000) only[go_sem];refine VS.w (h.size) [11] (.q 0 (.q 1 (.q 2 (.q 3 (.q 4 (.q 5 (.q 6 (.q 7 (.or 8 (.s 9 (.s 10 (.w 11 .nil))) (.s 9 (.s 8 (.s 10 (.w 11 .nil))))))))))))) mixed po ?_;unfold ZH;have one:∀(g:Hp) (x:Nat × Int),h.size+2=g.size->JD h.size 151 (QJ b) 2 (g.push (J [L (O ⟨b,x.1,Q⟩),t A x.2].toArray 151)) (M (O ⟨h.size+2,0,Q⟩) 1 1) [x]:=fun g x e=>by rw[e];exact JD.one (enc:=QJ b) x (fun _=>rfl) gX
 have two:∀(g:Hp),h.size+2=g.size->JD h.size 151 (QJ b) 2 (g.push (J [L (O ⟨b,1,Q⟩),t A 4,L (O ⟨b,3,Q⟩),t A 100000].toArray 151)) (M (O ⟨h.size+2,0,Q⟩) 2 2) [(1,4),(3,100000)]:=fun g e=>by rw[e];exact JD.made (enc:=QJ b) (fun _=>rfl) [(1,4),(3,100000)] gX
 by_cases k1:k=1
 .have hk:decide (1<=k/\k<=9)=true:=by rw[decide_eq_true_eq];omega
  simp +contextual -implicitDefEqProofs (maxSteps:=2000000) only[go_sem,x0,k1];refine⟨⟨_,rfl,one _ (1,4) Dq,?_⟩,⟨_,rfl,one _ (1,4) Dq,?_⟩⟩<;>(repeat' (first|exact Zf.refl _ _|assumption|refine Zf.add ?_ _|refine Zf.Zj ?_ aaa _|refine Zf.trans aab ?_))
 ·
  by_cases k2:k=2
  .have hk:decide (1<=k/\k<=9)=true:=by rw[decide_eq_true_eq];omega
   simp +contextual -implicitDefEqProofs (maxSteps:=2000000) only[go_sem,x0,k2];refine⟨⟨_,rfl,one _ (1,4) Dq,?_⟩,⟨_,rfl,one _ (1,4) Dq,?_⟩⟩<;>(repeat' (first|exact Zf.refl _ _|assumption|refine Zf.add ?_ _|refine Zf.Zj ?_ aaa _|refine Zf.trans aab ?_))
  ·
   by_cases k3:k=3
   .have hk:decide (1<=k/\k<=9)=true:=by rw[decide_eq_true_eq];omega
    simp +contextual -implicitDefEqProofs (maxSteps:=2000000) only[go_sem,x0,k3];refine⟨⟨_,rfl,one _ (1,4) Dq,?_⟩,⟨_,rfl,one _ (1,4) Dq,?_⟩⟩<;>(repeat' (first|exact Zf.refl _ _|assumption|refine Zf.add ?_ _|refine Zf.Zj ?_ aaa _|refine Zf.trans aab ?_))
   ·
    by_cases k9:k=9
    .have hk:decide (1<=k/\k<=9)=true:=by rw[decide_eq_true_eq];omega
     simp +contextual -implicitDefEqProofs (maxSteps:=2000000) only[go_sem,x0,k9];refine⟨⟨_,rfl,one _ (1,4) Dq,?_⟩,⟨_,rfl,one _ (1,4) Dq,?_⟩⟩<;>(repeat' (first|exact Zf.refl _ _|assumption|refine Zf.add ?_ _|refine Zf.Zj ?_ aaa _|refine Zf.trans aab ?_))
    ·
     by_cases k4:k=4
     .have hk:decide (1<=k/\k<=9)=true:=by rw[decide_eq_true_eq];omega
      simp +contextual -implicitDefEqProofs (maxSteps:=2000000) only[go_sem,x0,k4];refine⟨⟨_,rfl,one _ (2,1048576) Dq,?_⟩,⟨_,rfl,one _ (2,1048576) Dq,?_⟩⟩<;>(repeat' (first|exact Zf.refl _ _|assumption|refine Zf.add ?_ _|refine Zf.Zj ?_ aaa _|refine Zf.trans aab ?_))
     ·
      by_cases k5:k=5
      .have hk:decide (1<=k/\k<=9)=true:=by rw[decide_eq_true_eq];omega
       simp +contextual -implicitDefEqProofs (maxSteps:=2000000) only[go_sem,x0,k5];refine⟨⟨_,rfl,one _ (2,1048576) Dq,?_⟩,⟨_,rfl,one _ (2,1048576) Dq,?_⟩⟩<;>(repeat' (first|exact Zf.refl _ _|assumption|refine Zf.add ?_ _|refine Zf.Zj ?_ aaa _|refine Zf.trans aab ?_))
      ·
       by_cases k6:k=6
       .have hk:decide (1<=k/\k<=9)=true:=by rw[decide_eq_true_eq];omega
        simp +contextual -implicitDefEqProofs (maxSteps:=2000000) only[go_sem,x0,k6];refine⟨⟨_,rfl,one _ (2,1048576) Dq,?_⟩,⟨_,rfl,one _ (2,1048576) Dq,?_⟩⟩<;>(repeat' (first|exact Zf.refl _ _|assumption|refine Zf.add ?_ _|refine Zf.Zj ?_ aaa _|refine Zf.trans aab ?_))
       ·
        by_cases k7:k=7
        .have hk:decide (1<=k/\k<=9)=true:=by rw[decide_eq_true_eq];omega
         simp +contextual -implicitDefEqProofs (maxSteps:=2000000) only[go_sem,x0,k7];exact⟨⟨_,rfl,JD.nil _ _ _ _ _⟩,⟨_,rfl,JD.nil _ _ _ _ _⟩⟩
        ·
         by_cases k8:k=8
         .have hk:decide (1<=k/\k<=9)=true:=by rw[decide_eq_true_eq];omega
          simp +contextual -implicitDefEqProofs (maxSteps:=2000000) only[go_sem,x0,k8];refine⟨?_,?_⟩
          .refine VS.b (h.size+2) [(0,true),(1,true),(2,true),(3,true),(4,true),(5,false),(6,true),(7,true)] mixed po ?_;simp +contextual -implicitDefEqProofs (maxSteps:=2000000) only[go_sem];refine⟨(Zf.refl _ _).Yx Dq _,_,rfl,two _ Dq,?_⟩
           (repeat' (first|exact Zf.refl _ _|assumption|refine Zf.add ?_ _|refine Zf.Zj ?_ aaa _|refine Zf.trans aab ?_))
          .refine VS.b (h.size+2) [(0,true),(1,true),(2,true),(3,true),(4,true),(5,false),(6,true),(7,true)] mixed po ?_;simp +contextual -implicitDefEqProofs (maxSteps:=2000000) only[go_sem];refine⟨(Zf.refl _ _).Yx Dq _,_,rfl,two _ Dq,?_⟩
           (repeat' (first|exact Zf.refl _ _|assumption|refine Zf.add ?_ _|refine Zf.Zj ?_ aaa _|refine Zf.trans aab ?_))
         ·
          have hk:¬(1<=k/\k<=9):=gX;simp +contextual -implicitDefEqProofs (maxSteps:=2000000) only[go_sem,x0,k1,k2,k3,k9,k4,k5,k6,k7,k8,hk];exact⟨⟨_,rfl,JD.nil _ _ _ _ _⟩,⟨_,rfl,JD.nil _ _ _ _ _⟩⟩
def Yl(k:Int):Prop:=k=1\/k=2\/k=3\/k=9\/k=8
def Xe(k:Int):Prop:=4<=k/\k<=6
instance (k:Int):Decidable (Yl k):=by unfold Yl;infer_instance
instance (k:Int):Decidable (Xe k):=by unfold Xe;infer_instance
def XV(k n a b:Int)(len:Nat):Int:=
 if ¬(1<=k/\k<=9) then 4 else
 if (Yl k/\¬(0<=n/\n<=4))\/(Xe k/\¬(0<=a/\a<=1048576))\/(k=8/\¬(0<=b/\b<=100000)) then 2 else
 if 2000<len then 1 else
 if (¬Yl k/\n≠0)\/(¬Xe k/\a≠0)\/(k≠8/\b≠0)\/(k≠1/\0<len) then 3 else 0
def YV(k n a b:Int)(p:Nat):Int:=[k,n,a,b].getD p 0
def Qo(k n a b:Int)(x:Nat × Int):Prop:=0<=YV k n a b x.1/\YV k n a b x.1<=x.2
theorem UQ{k:Int}:∀x∈ZH k,x.1<4/\0<x.1:=by
 intro x hx;unfold ZH at hx
 repeat' split at hx
 all_goals simp at hx
 all_goals rcases hx with rfl|rfl<;>simp
theorem Mg(k:Int):(ZH k).length<=2:=by
 unfold ZH
 repeat' split
 all_goals simp
theorem GX{k n a b:Int}{len:Nat}(h1:1<=k/\k<=9){x:Nat × Int}(hx:x∈ZH k)(hb:¬Qo k n a b x):XV k n a b len=2:=by
 unfold XV;rw[if_neg gX,if_pos];unfold Yl Xe;unfold ZH at hx;unfold Qo YV at hb;split at hx
 .simp at hx;subst hx;simp at hb;left;omega
 .split at hx
  .simp at hx;subst hx;simp at hb;right;left;omega
  .split at hx
   .simp at hx;rcases hx with rfl|rfl
    .simp at hb;left;omega
    .simp at hb;right;right;omega
   .cases hx
theorem bj{k n a b:Int}(hg:∀x∈ZH k,Qo k n a b x):¬((Yl k/\¬(0<=n/\n<=4))\/(Xe k/\¬(0<=a/\a<=1048576))\/(k=8/\¬(0<=b/\b<=100000))):=by
 unfold Yl Xe;unfold ZH at hg;split at hg
 .have:=hg (1,4) Dq;simp[Qo,YV]at this;omega
 .split at hg
  .have:=hg (2,1048576) Dq;simp[Qo,YV]at this;omega
  .split at hg
   .have:=hg (1,4) Dq;have h2:=hg (3,100000) Dq;simp[Qo,YV]at this h2;omega
   .omega
def TU(xs:List (Nat × Int))(cs:List Y):List Y:=xs.foldl (fun cs x=>cs.set x.1 (t A 0)) cs
theorem Ch(xs:List (Nat × Int))(x:Nat × Int)(cs:List Y):TU (xs++[x]) cs=(TU xs cs).set x.1 (t A 0):=by simp[TU]
theorem Gb(xs:List (Nat × Int)):∀cs,(TU xs cs).length=(H cs):=by
 induction xs with
 | nil=>intro cs;rfl
 | cons x xs ih=>intro cs;simp only[TU,List.foldl_cons]at *;rw[ih];simp
theorem bm{k n a b:Int}{d:Y}(h1:1<=k/\k<=9):TU (ZH k) (YA k n a b d)=YA k (if Yl k then 0 else n) (if Xe k then 0 else a) (if k=8 then 0 else b) d:=by
 unfold ZH;split
 .rw[if_pos (by unfold Yl;omega),if_neg (by unfold Xe;omega),if_neg gX];rfl
 .split
  .rw[if_neg (by unfold Yl;omega),if_pos (by unfold Xe;omega),if_neg gX];rfl
  .split
   .rw[if_pos (by unfold Yl;omega),if_neg (by unfold Xe;omega)];rfl
   .rw[if_neg (by unfold Yl;omega),if_neg (by unfold Xe;omega)];rfl
theorem Is(k n a b:Int)(d:Y)(p:Nat)(hp:p<4):nth (YA k n a b d) p=O (t A (YV k n a b p)):=by
 rcases p with _|_|_|_|p<;>first|rfl|omega
theorem VE(T:aI)(h:Hp)(k n a b:Int)(p:Option Addr)(len c:Nat):
  Zc al T 32 #[.agg (YA k n a b (M p len c)).toArray] h fun v' h'=>v'=t A (XV k n a b len)/\Zf h.size h h':=by
 refine Zc.Y8 [_] Tryz.func32 ?_;unfold YA;simp +contextual -implicitDefEqProofs only[go_sem];refine (SN T _ h.size k n a b (M p len c) Zb).use ?_;rintro _ h1 ⟨w,rfl,hw,b1⟩;have hlen:=Mg k;by_cases hk:1<=k/\k<=9
 .obtain⟨pw,cw,rfl,YR⟩:=JD.ZaW (enc:=QJ h.size) (n:=2) (fun _=>rfl) MZ hw;have x0:h1[h.size]? = O (J (YA k n a b (M p len c)).toArray 41):=b1.get Dq Zb;have z1:=Za x0;have UE:Zf h.size h h1:=((Zf.refl h.size h).add _).trans (b1.mono Dq);simp +contextual -implicitDefEqProofs only[go_sem,hk];refine VS.Z9 (fun F g=>Zf h1.size h1 g/\F 1=L (O ⟨h.size,0,Q⟩)/\F 3=M pw (ZH k).length cw/\F 15=M pw (ZH k).length cw/\F 16=t A (ZH k).length/\∃i:Nat,i<=(ZH k).length/\F 17=t A i/\∀x∈(ZH k).take i,Qo k n a b x)
   (fun F _=>(ZH k).length-(vi (F 17)).toNat) rfl ⟨Zf.refl _ _,rfl,rfl,rfl,rfl,0,gX,rfl,fun x hx=>by cases hx⟩ ?_
  rintro F g ⟨hg,f1,f3,f15,f16,i,hi,f17,Xc⟩;have Pd:=hg.size;by_cases ZL:i<(ZH k).length
  .have ZW:(i:Int)<(ZH k).length:=gX;obtain⟨bb,oo,rfl,OJ,U9,YR⟩:=YR (by intro e;rw[e]at ZL;simp at ZL);have hx:=bd ZL;have xu:=UQ _ hx;have r1:=((YR i ZL).Yb hg U9).rd (by simp[QJ]) (m:=2) rfl;obtain⟨x,jj⟩:=ZD ((ZH k)[i]);rw[<-jj]at hx xu r1;have v1:hc g ⟨h.size,x.1,Q⟩=O (t A (YV k n a b x.1)):=by
    rw[hg.hc z1,Zg x0,Is _ _ _ _ _ _ xu.1]
   unfold QJ at r1;simp +contextual -implicitDefEqProofs only[go_sem,f1,f15,f16,f17,ZW,r1];refine VS.q mixed po ?_;by_cases c1:YV k n a b x.1<0
   .have e:=GX (len:=len) hk hx (n:=n) (a:=a) (b:=b) (by unfold Qo;omega);simp +contextual -implicitDefEqProofs only[go_sem,v1,c1,e];exact UE.trans ((hg.mono gX).Yx gX _)
   .by_cases c2:x.2<YV k n a b x.1
    .have e:=GX (len:=len) hk hx (n:=n) (a:=a) (b:=b) (by unfold Qo;omega);simp +contextual -implicitDefEqProofs only[go_sem,v1,c1,c2,e];exact UE.trans ((hg.mono gX).Yx gX _)
    .simp +contextual -implicitDefEqProofs only[go_sem,f1,f3,f15,f16,f17,v1,c1,c2];refine⟨⟨hg.Yx gX _,f1,f3,f15,f16,i+1,gX,rfl,fun y hy=>?_⟩,?_⟩
     .rw[Yp _ i ZL]at hy;rcases am.1 hy with hy|hy
      .exact Xc y hy
      .simp at hy;rw[hy,<-jj];unfold Qo;omega
     .simp only[vi,Zk,↓reduceIte,f17];omega
  .have YU:¬(i:Int)<(ZH k).length:=gX;obtain rfl:i=(ZH k).length:=gX;rw[be]at Xc;have TV:=bj Xc;have x0g:=hg.get z1 x0;have y4:hc g ⟨h.size,4,Q⟩=O (M p len c):=by rw[Zg x0g];rfl
   have Eu:Zf h.size h g:=UE.trans (hg.mono gX);by_cases c1:2000<len
   .have c1':2000<(len:Int):=gX;have e:XV k n a b len=1:=by unfold XV;rw[if_neg gX,if_neg TV,if_pos c1]
    simp +contextual -implicitDefEqProofs only[go_sem,f1,f3,f15,f16,f17,YU,y4,c1',e,Eu]
   .have c1':¬2000<(len:Int):=gX;simp +contextual -implicitDefEqProofs only[go_sem,f1,f3,f15,f16,f17,YU,y4,c1'];have xg:g[h.size]? = O (J (TU ((ZH k).take 0) (YA k n a b (M p len c))).toArray 41):=x0g;clear y4 Xc hi ZL YU;refine VS.Z9 (fun F g'=>Zf h.size h g'/\(∀q,q≠h.size->q<h1.size->g'[q]? = h1[q]?)/\h1.size<=g'.size/\F 1=L (O ⟨h.size,0,Q⟩)/\F 40=M pw (ZH k).length cw/\F 41=t A (ZH k).length/\∃i:Nat,i<=(ZH k).length/\F 42=t A i/\g'[h.size]? = O (J (TU ((ZH k).take i) (YA k n a b (M p len c))).toArray 41))
     (fun F _=>(ZH k).length-(vi (F 42)).toNat) rfl ⟨Eu,fun q _ hq=>hg.block q hq,Pd,f1,rfl,rfl,0,Nat.zero_le _,rfl,xg⟩ ?_
    clear xg x0g Eu Pd hg g f1 f3 f15 f16 f17 F;rintro F g ⟨Eu,pN,Pd,f1,f40,f41,i,hi,f42,xg⟩;by_cases ZL:i<(ZH k).length
    .have ZW:(i:Int)<(ZH k).length:=gX;obtain⟨bb,oo,rfl,OJ,U9,YR⟩:=YR (by intro e;rw[e]at ZL;simp at ZL);have hx:=bd ZL;have xu:=UQ _ hx;have r1:=(YR i ZL).rd (by simp[QJ]) (m:=2) rfl;have ZgX:bb≠h.size:=by simp at OJ;omega
     obtain⟨x,jj⟩:=ZD ((ZH k)[i]);rw[<-jj]at hx xu r1;have r2:rd g ⟨bb,oo+i*2,Q⟩ 2=O (QJ h.size x):=by
      rw[<-r1];unfold rd;rw[pN _ ZgX U9]
     have Dx:(TU ((ZH k).take i) (YA k n a b (M p len c))).length=5:=by rw[Gb];rfl
     have zg:=Za xg;have w1:=Ye xg x.1 (t A 0);rw[if_pos ⟨by rw[Dx];omega,rfl⟩]at w1;unfold QJ at r2;simp +contextual -implicitDefEqProofs only[go_sem,f1,f40,f41,f42,ZW,r2];rw[w1];simp +contextual -implicitDefEqProofs only[go_sem,f42];refine⟨⟨(Eu.Zj (aa _) _).Yx L6 _,fun q hq hq1=>?_,L6,f1,f40,f41,i+1,gX,rfl,?_⟩,?_⟩
     .rw[a5,if_neg L6,U,if_neg (fun e=>hq e.symm)];exact pN q hq hq1
     .rw[a5,if_neg L6,U,if_pos rfl,if_pos zg,Yp _ i ZL,Ch,<-jj]
     .simp only[vi,Zk,↓reduceIte,f42];omega
    .have YU:¬(i:Int)<(ZH k).length:=gX;obtain rfl:i=(ZH k).length:=gX;rw[be,bm hk]at xg;have e:XV k n a b len=if (¬Yl k/\n≠0)\/(¬Xe k/\a≠0)\/(k≠8/\b≠0)\/(k≠1/\0<len) then 3 else 0:=by unfold XV;rw[if_neg gX,if_neg TV,if_neg c1]
     rw[e];clear e TV YR hw;obtain⟨n',Pz⟩:=ZD (if Yl k then 0 else n);obtain⟨a',ha'⟩:=ZD (if Xe k then 0 else a);obtain⟨b',Jc⟩:=ZD (if k=8 then 0 else b);rw[<-Pz,<-ha',<-Jc]at xg;have y0:hc g ⟨h.size,0,Q⟩=O (t A k):=by rw[Zg xg];rfl
     have y1:hc g ⟨h.size,1,Q⟩=O (t A n'):=by rw[Zg xg];rfl
     have y2:hc g ⟨h.size,2,Q⟩=O (t A a'):=by rw[Zg xg];rfl
     have y3:hc g ⟨h.size,3,Q⟩=O (t A b'):=by rw[Zg xg];rfl
     have y4:hc g ⟨h.size,4,Q⟩=O (M p len c):=by rw[Zg xg];rfl
     have en:(¬Yl k/\n≠0)↔n'≠0:=by rw[Pz];by_cases q:Yl k<;>simp[q]
     have ea:(¬Xe k/\a≠0)↔a'≠0:=by rw[ha'];by_cases q:Xe k<;>simp[q]
     have eb:(k≠8/\b≠0)↔b'≠0:=by rw[Jc];by_cases q:k=8<;>simp[q]
     simp only[en,ea,eb];by_cases q1:n'=0
     .by_cases q2:a'=0
      .by_cases q3:b'=0
       .by_cases q4:k=1
        .simp +contextual -implicitDefEqProofs only[go_sem,f1,f40,f41,f42,YU,y0,y1,y2,y3,q1,q2,q3,q4,Eu]
        .by_cases q5:0<len
         .have q5':0<(len:Int):=gX;simp +contextual -implicitDefEqProofs only[go_sem,f1,f40,f41,f42,YU,y0,y1,y2,y3,y4,q1,q2,q3,q4,q5,q5',Eu]
         .have q5':¬0<(len:Int):=gX;simp +contextual -implicitDefEqProofs only[go_sem,f1,f40,f41,f42,YU,y0,y1,y2,y3,y4,q1,q2,q3,q4,q5,q5',Eu]
       .simp +contextual -implicitDefEqProofs only[go_sem,f1,f40,f41,f42,YU,y0,y1,y2,y3,q1,q2,q3,Eu]
      .simp +contextual -implicitDefEqProofs only[go_sem,f1,f40,f41,f42,YU,y0,y1,y2,q1,q2,Eu]
     .simp +contextual -implicitDefEqProofs only[go_sem,f1,f40,f41,f42,YU,y0,y1,q1,Eu]
 .have e:XV k n a b len=4:=by unfold XV;rw[if_pos hk]
  simp +contextual -implicitDefEqProofs only[go_sem,hk,e];exact ((Zf.refl h.size h).add _).trans (b1.mono Dq)
def rotl(x n:Nat):Nat:=x*2 ^ n%4294967296+x/2 ^ (32-n)
theorem Ci{n:Nat}(hn:n<=32):2 ^ (32-n)*2 ^ n=4294967296:=by
 rw[<-a2,show 32-n+n=32 by omega]
theorem fB{x n:Nat}(hx:x<4294967296)(hn:n<=32):rotl x n<4294967296:=by
 unfold rotl;have h1:x*2 ^ n%4294967296=(x%2 ^ (32-n))*2 ^ n:=by
  rw[<-Ci hn,a0]
 have h2:x/2 ^ (32-n)<2 ^ n:=by
  rw[a1 (bg gX),<-a2,show n+(32-n)=32 by omega];exact hx
 have h3:x%2 ^ (32-n)<2 ^ (32-n):=av _ (bg gX);rw[h1];have h4:(x%2 ^ (32-n)+1)*2 ^ n<=2 ^ (32-n)*2 ^ n:=Nat.mul_le_mul_right _ h3;rw[<-a2,show 32-n+n=32 by omega,Nat.add_mul]at h4;omega
theorem fD{x n:Nat}(hx:x<4294967296)(hn:n<=32):x*2 ^ n%4294967296 ||| x/2 ^ (32-n)=rotl x n:=by
 unfold rotl;refine Qn (k:=n) ?_ ?_
 .rw[a1 (bg gX),<-a2,show n+(32-n)=32 by omega];exact hx
 .rw[<-Ci hn,a0,Nat.mul_mod_left]
theorem Ki(x n:Nat)(hn:n<=32):YS D (x:Int) (n:Int)=((x*2 ^ n%4294967296:Nat):Int):=by
 rw[FW D x n (by show n<=32;omega),OK];rfl
theorem UC(x n:Nat)(hn:n<=32):Xw D (x:Int) (n:Int)=((x/2 ^ n:Nat):Int):=by
 rw[RB D x n (by show n<=32;omega),Nat.shiftRight_eq_div_pow]
theorem bq(T:aI)(h:Hp)(x n:Nat)(hx:x<4294967296)(hn:n<=32):
  Zc al T 176 #[t D x,t A n] h fun v' h'=>v'=t D (rotl x n:Nat)/\h'=h:=by
 refine Zc.Y8 [_,_] Tryz.func176 ?_;have e1:=Ki x n hn;have e2:=UC x (32-n) gX;have e3:(32:Int)-n=((32-n:Nat):Int):=gX;have e4:=SC (x*2 ^ n%4294967296) (x/2 ^ (32-n)) gX (aw (bn _ _) hx);rw[fD hx hn]at e4;have e5:¬(n:Int)<0:=gX;have e6:¬((32-n:Nat):Int)<0:=gX;simp +contextual -implicitDefEqProofs only[go_sem];refine VS.q mixed po ?_;simp +contextual -implicitDefEqProofs only[go_sem,e3,e1,e2,e4,e5,e6]
def wv(x:Nat):Y:=t D (x:Nat)
def nv(x:Nat):Y:=t A (x:Nat)
def RH(s:List Nat):Prop:=∀x∈s,x<4294967296
theorem RH.getD(w:RH s)(i:Nat):s.getD i 0<4294967296:=by
 rw[N]
 cases hx:s[i]? with
 | none=>simp
 | some x=>exact w x (List.mem_of_getElem? hx)
theorem RH.set(w:RH s)(i:Nat){y:Nat}(hy:y<4294967296):RH (s.set i y):=by
 intro x hx;rcases List.mem_or_eq_of_mem_set hx with h|h
 .exact w x h
 .rw[h];exact hy
theorem ZX{f:Nat->Y}{g:Hp}{b:Nat}{E:TypeId}{sp:List Y}(hx:g[b]? = O (J (s.map f++sp).toArray E)){i:Nat}(hi:i<(H s)):hc g ⟨b,i,Q⟩=O (f (s.getD i 0)):=by
 rw[Zg hx,YE,List.getElem?_append_left (by simpa using hi),a9,N,W hi];rfl
theorem Yk{f:Nat->Y}{g:Hp}{b:Nat}{E:TypeId}{sp:List Y}(hx:g[b]? = O (J (s.map f++sp).toArray E)){i:Nat}(hi:i<(H s))(y:Nat)(ho:Yq (f y)=true):
  Jb g ⟨b,i,Q⟩ (f y)=O (g.setIfInBounds b (J ((s.set i y).map f++sp).toArray E)):=by
 rw[Ye hx,if_pos ⟨L6,ho⟩,List.set_append_left _ _ (by simpa using hi),List.map_set]
theorem Z1{g:Hp}{b:Nat}{o o':Obj}(hx:g[b]? = O o'):(g.setIfInBounds b o)[b]? = O o:=by
 rw[U,if_pos rfl,if_pos (Za hx)]
theorem UR{g:Hp}{b:Nat}{o:Obj}(hx:g[b]? = O o):g.setIfInBounds b o=g:=by
 apply a6;intro i;rw[U];by_cases hb:b=i
 .subst hb;rw[if_pos rfl,if_pos (Za hx),hx]
 .rw[if_neg hb]
theorem set_set(g:Hp)(b:Nat)(o o':Obj):(g.setIfInBounds b o).setIfInBounds b o'=g.setIfInBounds b o':=by
 apply a6;intro i;rw[U,U,U,Array.size_setIfInBounds];by_cases hb:b=i
 .rw[if_pos hb,if_pos hb]
 .rw[if_neg hb,if_neg hb,if_neg hb]
def PB(s:List Nat)(a b d n:Nat):List Nat:=
 (s.set a ((s.getD a 0+s.getD b 0)%4294967296)).set d (rotl ((s.set a ((s.getD a 0+s.getD b 0)%4294967296)).getD d 0 ^^^ (s.set a ((s.getD a 0+s.getD b 0)%4294967296)).getD a 0) n)
def Ob(s:List Nat)(a b c d:Nat):List Nat:=PB (PB (PB (PB s a b d 16) c d b 12) a b d 8) c d b 7
theorem Wy{a b:Nat}(ha:a<4294967296)(hb:b<4294967296):a ^^^ b<4294967296:=a7 (n:=32) ha hb
theorem Th(w:RH s)(a b d n:Nat)(hn:n<=32):RH (PB s a b d n):=by
 unfold PB;have w1:=w.set a (y:=(s.getD a 0+s.getD b 0)%4294967296) gX;exact w1.set d (fB (Wy (w1.getD d) (w1.getD a)) hn)
theorem O0(s:List Nat)(a b d n:Nat):(PB s a b d n).length=(H s):=by simp[PB]
theorem It(w:RH s)(a b c d:Nat):RH (Ob s a b c d):=
 Th (Th (Th (Th w _ _ _ _ gX) _ _ _ _ gX) _ _ _ _ gX) _ _ _ _ gX
theorem PC(s:List Nat)(a b c d:Nat):(Ob s a b c d).length=(H s):=by simp[Ob,O0]
def pv(j x y:Nat):Nat:=if j%2=0 then x else y
def pn(j:Nat):Nat:=[16,12,8,7].getD j 0
def pO(s:List Nat)(a b c d:Nat):Nat->List Nat
 | 0=>s
 | j+1=>PB (pO s a b c d j) (pv j a c) (pv j b d) (pv j d b) (pn j)
theorem pP(s:List Nat)(a b c d:Nat):pO s a b c d 4=Ob s a b c d:=rfl
theorem ZcK(j:Nat)(hj:j<4):nth [Value.int A 16,t A 12,t A 8,t A 7] j=O (t A (pn j:Nat)):=by
 rcases j with _|_|_|_|j<;>first|rfl|omega
theorem Zbf(j:Nat)(hj:j<4):pn j<=32:=by
 rcases j with _|_|_|_|j<;>first|decide|omega
theorem Kj(j x y:Nat):pv (j+1) x y=pv j y x:=by
 unfold pv;by_cases h:j%2=0
 .rw[if_pos h,if_neg gX]
 .rw[if_neg h,if_pos gX]
theorem ZcL(w:RH s)(a b c d:Nat):∀j,j<=4->RH (pO s a b c d j)/\(pO s a b c d j).length=(H s):=by
 intro j
 induction j with
 | zero=>intro _;exact⟨w,rfl⟩
 | succ j ih=>
  intro hj;obtain⟨h1,h2⟩:=ih gX;exact⟨Th h1 _ _ _ _ (Zbf j gX),by rw[pO,O0,h2]⟩
theorem Iu(T:aI)(h:Hp)(bk:Nat)(s:List Nat)(a b c d:Nat)(hs:(H s)=16)(w:RH s)(ha:a<16)(hb:b<16)(hc:c<16)(hd:d<16)(hx:h[bk]? = O (J (s.map wv++[]).toArray 232)):
  Zc al T 139 #[L (O ⟨bk,0,Q⟩),t A a,t A b,t A c,t A d] h fun v' h'=>h'=h.setIfInBounds bk (J ((Ob s a b c d).map wv++[]).toArray 232):=by
 refine Zc.Y8 [_,_,_,_,_] Tryz.func139 ?_;simp +contextual -implicitDefEqProofs only[go_sem];refine VS.Z9 (fun F g=>∃j:Nat,j<=4/\F 0=L (O ⟨bk,0,Q⟩)/\F 1=t A (pv j a c:Nat)/\F 2=t A (pv j b d:Nat)/\F 3=t A (pv j c a:Nat)/\F 4=t A (pv j d b:Nat)/\F 12=.agg [t A 16,t A 12,t A 8,t A 7].toArray/\F 13=t A j/\g=h.setIfInBounds bk (J ((pO s a b c d j).map wv++[]).toArray 232))
  (fun F _=>4-(vi (F 13)).toNat) rfl ⟨0,gX,rfl,rfl,rfl,rfl,rfl,rfl,rfl,?_⟩ ?_
 .exact (UR hx).symm
 rintro F g ⟨j,hj,f0,f1,f2,f3,f4,f12,f13,rfl⟩;by_cases ZL:j<4
 .have ZW:(j:Int)<4:=gX;have n1:=ZcK j ZL;have n2:=Zbf j ZL;obtain⟨w1,l1⟩:=ZcL w a b c d j hj;rw[hs]at l1;have q1:pv j a c<16:=by unfold pv;split<;>assumption
  have q2:pv j b d<16:=by unfold pv;split<;>assumption
  have q4:pv j d b<16:=by unfold pv;split<;>assumption
  have QH:=Z1 (o:=J ((pO s a b c d j).map wv++[]).toArray 232) hx;obtain⟨G,hG⟩:=ZD (h.setIfInBounds bk (J ((pO s a b c d j).map wv++[]).toArray 232));rw[<-hG]at QH ⊢;generalize mC:pO s a b c d j=st at *;simp +contextual -implicitDefEqProofs only[go_sem,f12,f13,ZW,n1];refine VS.w (bk+1) [13] (.q 0 (.q 1 (.q 2 (.q 3 (.q 4 (.q 5 (.q 6 (.q 7 (.q 8 (.q 9 (.q 10 (.q 11 (.q 12 (.w 13 .nil)))))))))))))) mixed po ?_;have g1:=ZX QH (i:=pv j a c) gX;have g2:=ZX QH (i:=pv j b d) gX;have c1:Jb G ⟨bk,pv j a c,Q⟩ (t D ((((st.getD (pv j a c) 0+st.getD (pv j b d) 0)%4294967296:Nat)):Int))=_:=Yk (f:=wv) QH (i:=pv j a c) gX _ rfl;have e1:((st.getD (pv j a c) 0:Int)+(st.getD (pv j b d) 0:Int))%4294967296=(((st.getD (pv j a c) 0+st.getD (pv j b d) 0)%4294967296:Nat):Int):=gX;unfold wv at g1 g2;obtain⟨y,hy⟩:=ZD ((st.getD (pv j a c) 0+st.getD (pv j b d) 0)%4294967296);have Zpa:y<4294967296:=gX;rw[<-hy]at c1 e1;simp +contextual -implicitDefEqProofs only[go_sem,f0,f1,f2,g1,g2,e1,c1];have PA:=Z1 (o:=J ((st.set (pv j a c) y).map wv++[]).toArray 232) QH;have w2:=w1.set (pv j a c) Zpa;have l2:(st.set (pv j a c) y).length=16:=by rw[List.length_set,l1]
  have Zpb:pO s a b c d (j+1)=(st.set (pv j a c) y).set (pv j d b) (rotl ((st.set (pv j a c) y).getD (pv j d b) 0 ^^^ (st.set (pv j a c) y).getD (pv j a c) 0) (pn j)):=by
   rw[pO,mC,PB,<-hy]
  rw[hG];generalize st.set (pv j a c) y=st2 at *;refine VS.w (bk+1) [17] (.q 0 (.q 1 (.q 2 (.q 3 (.q 4 (.q 5 (.q 6 (.q 7 (.q 8 (.q 9 (.q 10 (.q 11 (.q 12 (.q 13 (.q 15 (.s 14 (.q 16 (.w 17 .nil)))))))))))))))))) mixed po ?_;clear PA;rw[set_set];have PA:(h.setIfInBounds bk (J (st2.map wv++[]).toArray 232))[bk]? = O (J (st2.map wv++[]).toArray 232):=Z1 hx;obtain⟨G2,fE⟩:=ZD (h.setIfInBounds bk (J (st2.map wv++[]).toArray 232));rw[<-fE]at PA ⊢;have g3:=ZX PA (i:=pv j d b) gX;have g4:=ZX PA (i:=pv j a c) gX;unfold wv at g3 g4;have e2:=Qf (st2.getD (pv j d b) 0) (st2.getD (pv j a c) 0) (w2.getD _) (w2.getD _);have hz:=Wy (w2.getD (pv j d b)) (w2.getD (pv j a c));generalize st2.getD (pv j d b) 0 ^^^ st2.getD (pv j a c) 0=z at *;simp +contextual -implicitDefEqProofs only[go_sem,f0,f1,f4,g3,g4,e2];refine (bq T _ z (pn j) hz n2).pure ?_;have c2:Jb G2 ⟨bk,pv j d b,Q⟩ (t D ((rotl z (pn j):Nat):Int))=_:=Yk (f:=wv) PA (i:=pv j d b) gX _ rfl;simp +contextual -implicitDefEqProofs only[go_sem,c2,f1,f2,f3,f4,f12,f13];refine⟨⟨j+1,gX,f0,?_,?_,?_,?_,f12,rfl,?_⟩,?_⟩
  .rw[Kj];rfl
  .rw[Kj];rfl
  .rw[Kj];rfl
  .rw[Kj];rfl
  .rw[fE,set_set,Zpb]
  .simp only[vi,Zk,↓reduceIte,f13];omega
 .have YU:¬(j:Int)<4:=gX;obtain rfl:j=4:=gX;simp +contextual -implicitDefEqProofs only[go_sem,f12,f13,YU];rw[pP]
theorem xw{h:Hp}{v:Y}{l:List Nat}(s:Ts (fun x=>[nv x]) 1 h v l):∃p cap,v=M p (H l) cap/\(l≠[]->∃b o,p=O ⟨b,o,Q⟩/\b<h.size/\∀i,i<(H l)->hc h ⟨b,o+i,Q⟩=O (t A (l.getD i 0:Nat))):=by
 obtain⟨p,cap,hv,UX⟩:=Ts.open (enc:=fun x=>[nv x]) (n:=1) (fun _=>rfl) Nat.one_ne_zero s;refine⟨p,cap,hv,fun Ys=>?_⟩;obtain⟨b,o,hp,hb,YR⟩:=UX Ys;refine⟨b,o,hp,hb,fun i hi=>?_⟩;have:=(YR i hi).hc (i:=0) rfl;rw[Nat.mul_one,ba]at this;rw[this,N,W hi];rfl
def rr(x n:Nat):Nat:=rotl x (32-n)
theorem Uo{x n:Nat}(hx:x<4294967296):rr x n<4294967296:=fB hx gX
def sg0(x:Nat):Nat:=rr x 7 ^^^ rr x 18 ^^^ x/8
def sg1(x:Nat):Nat:=rr x 17 ^^^ rr x 19 ^^^ x/1024
def bg0(x:Nat):Nat:=rr x 2 ^^^ rr x 13 ^^^ rr x 22
def bg1(x:Nat):Nat:=rr x 6 ^^^ rr x 11 ^^^ rr x 25
theorem Zpc{a b:Nat}(ha:a<256)(hb:b<256):a ^^^ b<256:=a7 (n:=8) ha hb
theorem Q3{a b:Nat}(ha:a<4294967296):a &&& b<4294967296:=aw Nat.and_le_left ha
theorem Zbg{e:Nat}(he:e<4294967296):4294967295 ^^^ e=4294967295-e:=by
 have h1:(BitVec.allOnes 32 ^^^ BitVec.ofNat 32 e).toNat=(~~~ (BitVec.ofNat 32 e)).toNat:=by rw[BitVec.allOnes_xor]
 rw[BitVec.toNat_xor,BitVec.toNat_not,BitVec.toNat_allOnes,BitVec.toNat_ofNat,Z gX]at h1;exact h1
theorem jk{a b:Nat}(ha:a<4294967296)(hb:b<4294967296)(h:a &&& b=0):a ^^^ b=a+b:=by
 have hx:BitVec.ofNat 33 a &&& BitVec.ofNat 33 b=0#33:=by
  apply BitVec.eq_of_toNat_eq;rw[BitVec.toNat_and,BitVec.toNat_ofNat,BitVec.toNat_ofNat,Z gX,Z gX,h];rfl
 have h1:=BitVec.add_eq_or_of_and_eq_zero _ _ hx;have h2:BitVec.ofNat 33 a ||| BitVec.ofNat 33 b=BitVec.ofNat 33 a ^^^ BitVec.ofNat 33 b:=by
  apply BitVec.eq_of_getLsbD_eq;intro i hi;have:=congrArg (·.getLsbD i) hx
  simp only[BitVec.getLsbD_and,BitVec.getLsbD_zero]at this;rw[BitVec.getLsbD_or,BitVec.getLsbD_xor]
  revert this
  cases (BitVec.ofNat 33 a).getLsbD i<;>cases (BitVec.ofNat 33 b).getLsbD i<;>simp
 have h3:=congrArg BitVec.toNat (h1.trans h2);rw[BitVec.toNat_add,BitVec.toNat_xor,BitVec.toNat_ofNat,BitVec.toNat_ofNat,Z (by omega:a<2 ^ 33),Z (by omega:b<2 ^ 33),Z (by omega:a+b<2 ^ 33)]at h3;exact h3.symm
def chw(e f g:Nat):Nat:=(e &&& f)+((4294967295-e) &&& g)
def jl(a b c:Nat):Nat:=(a &&& b) ||| (a &&& c) ||| (b &&& c)
theorem pQ{e f g:Nat}(he:e<4294967296):(e &&& f) &&& ((4294967295-e) &&& g)=0:=by
 rw[<-Zbg he];apply a3;intro i;rw[ao,ao,ao,bo,Nat.zero_testBit];by_cases hi:i<32
 .have:Nat.testBit 4294967295 i=true:=by
   rw[show (4294967295:Nat)=2 ^ 32-1 from rfl,Nat.testBit_two_pow_sub_one];simpa using hi
  rw[this]
  cases e.testBit i<;>simp
 .have:e.testBit i=false:=Nat.testBit_lt_two_pow (Nat.lt_of_lt_of_le he (a4 (n:=2) gX (by omega:32<=i)));rw[this];simp
theorem xx{e f g:Nat}(he:e<4294967296)(hg:g<4294967296):(e &&& f) ^^^ ((4294967295-e) &&& g)=chw e f g:=
 jk (Q3 he) (Q3 gX) (pQ he)
theorem pR(a b c:Nat):(a &&& b) ^^^ (a &&& c) ^^^ (b &&& c)=jl a b c:=by
 unfold jl;apply a3;intro i;simp only[bo,Nat.testBit_or,ao]
 cases a.testBit i<;>cases b.testBit i<;>cases c.testBit i<;>rfl
theorem Cj{a k:Nat}(ha:a<4294967296):a/k<4294967296:=aw (bn _ _) ha
theorem Ck(e:Nat):4294967295-e<4294967296:=gX
theorem Zg0{a:Nat}(ha:a<4294967296):a<9223372036854775808:=Nat.lt_trans ha MZ
theorem r64{a b:Nat}(ha:a<4294967296)(hb:b<4294967296):Ym .or A (a:Int) (b:Int)=((a ||| b:Nat):Int):=PU a b (Zg0 ha) (Zg0 hb)
theorem xy{e:Nat}(he:e<4294967296):Ym .xor D (4294967295:Int) (e:Int)=((4294967295-e:Nat):Int):=by
 have:=Qf 4294967295 e MZ he;rw[Zbg he]at this;exact this
theorem ZcO{e f g:Nat}(he:e<4294967296)(hg:g<4294967296):Ym .xor D ((e &&& f:Nat):Int) (((4294967295-e) &&& g:Nat):Int)=((chw e f g:Nat):Int):=by
 rw[Qf _ _ (Q3 he) (Q3 (Ck e)),xx he hg]
theorem xz{a b c:Nat}(ha:a<4294967296)(hb:b<4294967296):Ym .xor D (((a &&& b) ^^^ (a &&& c):Nat):Int) ((b &&& c:Nat):Int)=((jl a b c:Nat):Int):=by
 rw[Qf _ _ (Wy (Q3 ha) (Q3 ha)) (Q3 hb),pR]
def kN:List Nat:=[
 1116352408,1899447441,3049323471,3921009573,961987163,1508970993,2453635748,2870763221,
 3624381080,310598401,607225278,1426881987,1925078388,2162078206,2614888103,3248222580,
 3835390401,4022224774,264347078,604807628,770255983,1249150122,1555081692,1996064986,
 2554220882,2821834349,2952996808,3210313671,3336571891,3584528711,113926993,338241895,
 666307205,773529912,1294757372,1396182291,1695183700,1986661051,2177026350,2456956037,
 2730485921,2820302411,3259730800,3345764771,3516065817,3600352804,4094571909,275423344,
 430227734,506948616,659060556,883997877,958139571,1322822218,1537002063,1747873779,
 1955562222,2024104815,2227730452,2361852424,2428436474,2756734187,3204031479,3329325298]
theorem ZcP:RH kN:=by unfold RH;decide +kernel
def Ev(b s:List Nat):Nat:=if (H s)<16 then XZ b (4*(H s)) else (s.getD ((H s)-16) 0+sg0 (s.getD ((H s)-15) 0)+s.getD ((H s)-7) 0+sg1 (s.getD ((H s)-2) 0))%4294967296
def Qu(b:List Nat):Nat->List Nat
 | 0=>[]
 | n+1=>Qu b n++[Ev b (Qu b n)]
theorem Jp(b:List Nat):∀n,(Qu b n).length=n
 | 0=>rfl
 | n+1=>by rw[Qu,ay,Jp b n];rfl
def Pe(l:List Nat):Prop:=∀x∈l,x<256
theorem ZcQ{b:List Nat}(hb:Pe b)(i:Nat):XZ b i<4294967296:=by
 have h0:=ZT hb i;have h1:=ZT hb (i+1);have h2:=ZT hb (i+2);have h3:=ZT hb (i+3);unfold XZ;omega
theorem xC{b:List Nat}(hb:Pe b)(s:List Nat):Ev b s<4294967296:=by
 unfold Ev;split
 .exact ZcQ hb _
 .omega
theorem Iv{b:List Nat}(hb:Pe b):∀n,RH (Qu b n)
 | 0=>fun x hx=>by cases hx
 | n+1=>fun x hx=>by
  rw[Qu,am,List.mem_singleton]at hx;rcases hx with hx|rfl
  .exact Iv hb n x hx
  .exact xC hb _
def upw(e f g h k w:Nat):Nat:=(h+bg1 e+chw e f g+k+w)%4294967296
def pS(v:List Nat)(k w:Nat):List Nat:=
 match v with
 | [a,b,c,d,e,f,g,h]=>[(upw e f g h k w+bg0 a+jl a b c)%4294967296,a,b,c,(d+upw e f g h k w)%4294967296,e,f,g]
 | v=>v
theorem eight{v:List Nat}(h:(H v)=8):∃a b c d e f g k,v=[a,b,c,d,e,f,g,k]:=by
 match v,h with
 | [a,b,c,d,e,f,g,k],_=>exact⟨a,b,c,d,e,f,g,k,rfl⟩
theorem Cl{v:List Nat}(h:(H v)=8)(k w:Nat):(pS v k w).length=8:=by
 obtain⟨a,b,c,d,e,f,g,j,rfl⟩:=eight h;rfl
theorem pU{v:List Nat}(h:(H v)=8)(hv:RH v)(k w:Nat):RH (pS v k w):=by
 obtain⟨a,b,c,d,e,f,g,j,rfl⟩:=eight h;intro x hx;simp only[pS,bp,bf,or_false]at hx;rcases hx with rfl|rfl|rfl|rfl|rfl|rfl|rfl|rfl
 all_goals first|exact av _ gX|exact hv _ Dq
def Qv(b v:List Nat):Nat->List Nat
 | 0=>v
 | i+1=>pS (Qv b v i) (kN.getD i 0) ((Qu b 64).getD i 0)
theorem SO{b v:List Nat}(h:(H v)=8)(hv:RH v):∀i,(Qv b v i).length=8/\RH (Qv b v i)
 | 0=>⟨h,hv⟩
 | i+1=>⟨Cl (SO h hv i).1 _ _,pU (SO h hv i).1 (SO h hv i).2 _ _⟩
def Oc(d v:List Nat):List Nat:=List.zipWith (fun x y=>(x+y)%4294967296) d v
theorem SP{d v:List Nat}(h:(H d)=8)(k:(H v)=8):(Oc d v).length=8:=by simp[Oc,h,k]
theorem pV(d v:List Nat):RH (Oc d v):=by
 intro x hx;unfold Oc at hx;rw[List.zipWith_eq_zipWith_take_min]at hx;obtain⟨i,hi,rfl⟩:=List.mem_iff_getElem.1 hx;rw[List.getElem_zipWith];omega
theorem jm{d v:List Nat}(h:(H d)=8)(k:(H v)=8){i:Nat}(hi:i<8):(Oc d v).getD i 0=(d.getD i 0+v.getD i 0)%4294967296:=by
 have e1:i<(Oc d v).length:=by rw[SP h k];exact hi
 rw[N,W e1,N,N,W (show i<(H d) by omega),W (show i<(H v) by omega)];simp[Oc]
def Cn(d b:List Nat):List Nat:=Oc d (Qv b d 64)
theorem pW{d b:List Nat}(h:(H d)=8)(hv:RH d):(Cn d b).length=8/\RH (Cn d b):=⟨SP h (SO h hv 64).1,pV _ _⟩
def pX:List Nat:=[1779033703,3144134277,1013904242,2773480762,1359893119,2600822924,528734635,1541459225]
theorem pY:RH pX:=by unfold RH;decide
def Co(p:List Nat):Nat->List Nat
 | 0=>pX
 | j+1=>Cn (Co p j) ((p.drop (64*j)).take 64)
theorem O1(p:List Nat):∀j,(Co p j).length=8/\RH (Co p j)
 | 0=>⟨rfl,pY⟩
 | j+1=>pW (O1 p j).1 (O1 p j).2
def Gc(n:Nat):Nat:=(119-n%64)%64
def SQ(l:List Nat)(j:Nat):List Nat:=l++128 :: R j 0
def Vk(l:List Nat):List Nat:=SQ l (Gc (H l))++(0 :: 0 :: 0 :: 0 :: Un (8*(H l)))
def jn(n:Nat):Nat:=(n+72)/64
theorem O3(l:List Nat)(j:Nat):(SQ l j).length=(H l)+j+1:=by simp[SQ];omega
theorem Ew(l:List Nat):(Vk l).length=64*jn (H l):=by
 rw[Vk,ay,O3];simp only[Un,List.length_cons,List.length_nil,Gc,jn];omega
theorem Cp{n j:Nat}(hj:j<=Gc n):(n+j+1)%64=56↔j=Gc n:=by unfold Gc at *;omega
theorem bt(l:List Nat)(j:Nat):SQ l (j+1)=SQ l j++[0]:=by
 unfold SQ;rw[List.append_assoc,List.cons_append,List.replicate_succ']
def SR(l:List Nat):List Nat:=ZG (Co (Vk l) (jn (H l)))
theorem JY(l:List Nat):(SR l).length=32:=by rw[SR,ZO,(O1 _ _).1]
theorem Gd(xs:List Nat):Pe (ZG xs):=by
 intro x hx;unfold ZG at hx;obtain⟨y,_,hy⟩:=List.mem_flatMap.1 hx;exact Wx y x hy
theorem jo(l:List Nat):Pe (SR l):=Gd _
def pZ(l:List Nat)(i:Nat):Nat:=l.getD i 0+256*l.getD (i+1) 0+65536*l.getD (i+2) 0+16777216*l.getD (i+3) 0
theorem bu{l:List Nat}(hb:∀x∈l,x<256)(i:Nat):pZ l i<4294967296:=by
 have b0:=ZT hb i;have b1:=ZT hb (i+1);have b2:=ZT hb (i+2);have b3:=ZT hb (i+3);unfold pZ;omega
theorem Cq(l:List Nat)(k:Nat):pZ (l.drop k) 0=pZ l k:=by
 unfold pZ;simp only[N,List.getElem?_drop,ba,Nat.zero_add]
theorem Od{x k:Nat}(hx:x<256)(hk:k<=24):YS D (x:Int) (k:Int)=((x*2 ^ k:Nat):Int):=by
 rw[Ki x k gX,Z];have:2 ^ k<=2 ^ 24:=a4 gX hk;have h2:x*2 ^ k<=255*2 ^ 24:=Nat.mul_le_mul gX this;omega
theorem xE{a b c d:Nat}(ha:a<256)(hb:b<256)(hc:c<256)(hd:d<256):
  Ym .or D (Ym .or D (Ym .or D (a:Int) (YS D b 8)) (YS D c 16)) (YS D d 24)=((a+256*b+65536*c+16777216*d:Nat):Int):=by
 have e1:YS D (b:Int) 8=((b*256:Nat):Int):=Od (k:=8) hb gX;have e2:YS D (c:Int) 16=((c*65536:Nat):Int):=Od (k:=16) hc gX;have e3:YS D (d:Int) 24=((d*16777216:Nat):Int):=Od (k:=24) hd gX;have f1:a ||| b*256=a+256*b:=by rw[bh,Qn (k:=8) gX gX];omega
 have f2:(a+256*b) ||| c*65536=a+256*b+65536*c:=by rw[bh,Qn (k:=16) gX gX];omega
 have f3:(a+256*b+65536*c) ||| d*16777216=a+256*b+65536*c+16777216*d:=by rw[bh,Qn (k:=24) gX gX];omega
 rw[e1,e2,e3,SC _ _ gX gX,f1,SC _ _ gX gX,f2,SC _ _ gX gX,f3]
theorem fF(T:aI)(h:Hp)(v:Y)(l:List Nat)(s:Bs h v l)(hi:4<=(H l)):
  Zc al T 138 #[v] h fun v' h'=>v'=t D (pZ l 0:Nat)/\h'=h:=by
 obtain⟨p,c,rfl,UX⟩:=s.UM;obtain⟨b,o,rfl,hb,YR⟩:=UX (by intro e;subst e;simp at hi);refine Zc.Y8 [_] Tryz.func138 ?_;have e0:=YR 0 gX;have e1:=YR 1 gX;have e2:=YR 2 gX;have e3:=YR 3 gX;have b0:=ZT s.byte 0;have b1:=ZT s.byte 1;have b2:=ZT s.byte 2;have b3:=ZT s.byte 3;rw[ba]at e0;have eo:=xE b0 b1 b2 b3;rw[show l.getD 0 0+256*l.getD 1 0+65536*l.getD 2 0+16777216*l.getD 3 0=pZ l 0 from rfl]at eo;simp +contextual -implicitDefEqProofs only[go_sem];refine VS.q mixed po ?_;have m0:((l.getD 0 0:Nat):Int)%4294967296=(l.getD 0 0:Nat):=gX;have m1:((l.getD 1 0:Nat):Int)%4294967296=(l.getD 1 0:Nat):=gX;have m2:((l.getD 2 0:Nat):Int)%4294967296=(l.getD 2 0:Nat):=gX;have m3:((l.getD 3 0:Nat):Int)%4294967296=(l.getD 3 0:Nat):=gX;simp +contextual -implicitDefEqProofs only[go_sem,e0,e1,e2,e3,m0,m1,m2,m3,eo]
def bB(a:Option Addr)(n cap l:Nat):Option Addr:=if cap=l then a else a.map (·.add (l*n))
theorem Uv{K:Y->Hp->Prop}{h:Hp}{a:Option Addr}{n cap b l:Nat}:Pw a n cap b (O l) K h=K (M (bB a n cap l) (b-l) (cap-l)) h:=rfl
theorem RI{h:Hp}{p:Option Addr}{c m:Nat}{l:List Nat}(s:Bs h (M p m c) l)(hm:(H l)=m){k:Nat}(hk:k<=m)(QQ:m<=c)(c':Nat):Bs h (M (bB p 1 c k) (m-k) c') (l.drop k):=by
 subst hm;unfold bB;refine⟨?_,fun x hx=>s.byte x (List.mem_of_mem_drop hx)⟩;obtain⟨p',cap,hv,hl,hc⟩:=s.sl;simp only[Value.slice.injEq]at hv;obtain⟨rfl,_,rfl⟩:=hv;refine⟨_,c',by rw[az],Dq,fun Ys=>?_⟩;have ZL:k<(H l):=by
  rw[<-List.length_pos_iff]at Ys;simp at Ys;omega
 obtain⟨b,o,rfl,YR⟩:=hc (by intro e;simp at e;subst e;simp at ZL);refine⟨b,o+k,?_,fun i hi=>?_⟩
 .rw[if_neg gX];simp only[Option.map_some,addr_add,Nat.mul_one]
 .have Av:i<(H l)-k:=by simpa using hi
  rw[show o+k+i=o+(k+i) by omega,YR (k+i) L6];simp
def PD(key:List Nat)(LU:Nat)(Zz:List Nat):List Nat:=[1634760805,857760878,2036477234,1797285236]++(a8 8).map (fun i=>pZ key (4*i))++(LU :: (a8 3).map (fun i=>pZ Zz (4*i)))
def bC(s:List Nat):Nat->List Nat
 | 0=>s
 | i+1=>Ob (bC s i) i (4+i) (8+i) (12+i)
def diags(s:List Nat):Nat->List Nat
 | 0=>s
 | i+1=>Ob (diags s i) i (4+(i+1)%4) (8+(i+2)%4) (12+(i+3)%4)
def SU(s:List Nat):Nat->List Nat
 | 0=>s
 | r+1=>diags (bC (SU s r) 4) 4
def Zg1(x s:List Nat)(k:Nat):Nat:=(x.getD (k/4) 0+s.getD (k/4) 0)%4294967296/256 ^ (k%4)%256
def Ge(x s:List Nat):List Nat:=(a8 64).map (Zg1 x s)
def XO(key:List Nat)(LU:Nat)(Zz:List Nat):List Nat:=Ge (SU (PD key LU Zz) 10) (PD key LU Zz)
theorem Ex(w:RH s):∀i,RH (bC s i)/\(bC s i).length=(H s):=by
 intro i
 induction i with
 | zero=>exact⟨w,rfl⟩
 | succ i ih=>exact⟨It ih.1 _ _ _ _,by rw[bC,PC,ih.2]⟩
theorem Cr(w:RH s):∀i,RH (diags s i)/\(diags s i).length=(H s):=by
 intro i
 induction i with
 | zero=>exact⟨w,rfl⟩
 | succ i ih=>exact⟨It ih.1 _ _ _ _,by rw[diags,PC,ih.2]⟩
theorem fG(w:RH s):∀i,RH (SU s i)/\(SU s i).length=(H s):=by
 intro i
 induction i with
 | zero=>exact⟨w,rfl⟩
 | succ i ih=>
  obtain⟨c1,c2⟩:=Ex ih.1 4;obtain⟨d1,d2⟩:=Cr c1 4;exact⟨d1,by rw[SU,d2,c2,ih.2]⟩
theorem Ey(key:List Nat)(LU:Nat)(Zz:List Nat):(PD key LU Zz).length=16:=by simp[PD]
theorem jp{key Zz:List Nat}{LU:Nat}(hk:∀x∈key,x<256)(hn:∀x∈Zz,x<256)(hc:LU<4294967296):RH (PD key LU Zz):=by
 intro x hx;unfold PD at hx;simp only[am,bp,bc,List.mem_range,bf,or_false]at hx;rcases hx with ((rfl|rfl|rfl|rfl)|⟨i,_,rfl⟩)|rfl|⟨i,_,rfl⟩
 .omega
 .omega
 .omega
 .omega
 .exact bu hk _
 .exact hc
 .exact bu hn _
theorem JZ(xs zs:List Nat)(i:Nat)(hi:i<(H xs))(hz:(H xs)=(H zs)):(xs.take i++zs.drop i).set i (xs.getD i 0)=xs.take (i+1)++zs.drop (i+1):=by
 rw[<-N0 xs zs i hi hz,N,W hi];rfl
theorem GY(key Zz:List Nat)(LU i:Nat)(hi:i<8):(PD key LU Zz).getD (4+i) 0=pZ key (4*i):=by
 rcases i with _|_|_|_|_|_|_|_|i<;>first|rfl|omega
theorem Cs(key Zz:List Nat)(LU i:Nat)(hi:i<3):(PD key LU Zz).getD (13+i) 0=pZ Zz (4*i):=by
 rcases i with _|_|_|i<;>first|rfl|omega
theorem Iw(f:Nat->Nat){m k:Nat}(hk:k<m):((a8 m).map f).getD k 0=f k:=by
 simp[N,hk]
theorem RK(x s:List Nat)(i j:Nat)(hi:i<16)(hj:j<4):(Ge x s).getD (4*i+j) 0=(x.getD i 0+s.getD i 0)%4294967296/256 ^ j%256:=by
 unfold Ge;rw[Iw _ gX];unfold Zg1;rw[show (4*i+j)/4=i by omega,show (4*i+j)%4=j by omega]
theorem Ix(x s:List Nat):∀y∈Ge x s,y<256:=by
 intro y hy;unfold Ge at hy;obtain⟨k,_,rfl⟩:=bc.1 hy;exact av _ MZ
def fH:List Nat:=R 16 0
theorem M3(T:aI)(h:Hp)(p q:Option Addr)(m n c d:Nat)(k:Int):
  Zc al T 108 #[M p m c,t A k,M q n d] h fun v' h'=>v'=t A (if m≠32\/n≠12 then 1 else if k<0\/1073741824<k then 2 else 0)/\h'=h:=by
 refine Zc.Y8 [_,_,_] Tryz.func108 ?_;by_cases q1:(m:Int)=32
 .by_cases q2:(n:Int)=12
  .rw[if_neg gX];by_cases q3:k<0
   .rw[if_pos gX];simp +contextual -implicitDefEqProofs only[go_sem,q1,q2,q3]
   .by_cases q4:1073741824<k
    .rw[if_pos gX];simp +contextual -implicitDefEqProofs only[go_sem,q1,q2,q3,q4]
    .rw[if_neg gX];simp +contextual -implicitDefEqProofs only[go_sem,q1,q2,q3,q4]
  .rw[if_pos gX];simp +contextual -implicitDefEqProofs only[go_sem,q1,q2]
 .rw[if_pos gX];simp +contextual -implicitDefEqProofs only[go_sem,q1]
theorem O9(T:aI)(h:Hp)(v u:Y)(key Zz:List Nat)(LU:Nat)(sk:Bs h v key)(sn:Bs h u Zz)(hk:(H key)=32)(hn:(H Zz)=12)(hc:LU<4294967296)(ck:Sn v)(cn:Sn u):
  Zc al T 109 #[v,t D LU,u] h fun v' h'=>v'=.agg ((XO key LU Zz).map bv).toArray/\Zf h.size h h':=by
 obtain⟨p,c,rfl,_⟩:=sk.open;obtain⟨q,d,rfl,_⟩:=sn.open;rw[hk]at sk ck ⊢;rw[hn]at sn cn ⊢;have ck:32<=c:=ck;have cn:12<=d:=cn;refine Zc.Y8 [_,_,_] Tryz.func109 ?_;obtain⟨S,hS⟩:=ZD (PD key LU Zz);have bD:(H S)=16:=by rw[hS];exact Ey _ _ _
 have hSZ:(H S)=(H fH):=bD;have fl:∀k,k<=16->(S.take k++fH.drop k).length=16:=fun k hk=>by rw[Vf _ _ _ (by omega) hSZ,bD]
 simp +contextual -implicitDefEqProofs only[go_sem];refine VS.Z9 (fun F g=>Zf (h.size+1) (h.push (J ((R 64 0).map bv).toArray 205)) g/\F 0=M p 32 c/\F 1=t D LU/\F 2=M q 12 d/\F 6=L (O ⟨h.size,0,Q⟩)/\F 7=L (O ⟨h.size+1,0,Q⟩)/\∃i:Nat,i<=8/\F 17=t A i/\g[h.size+1]? = O (J ((S.take (4+i)++fH.drop (4+i)).map wv++[]).toArray 232))
  (fun F _=>8-(vi (F 17)).toNat) rfl ⟨Zf.push (by simp) _,rfl,rfl,rfl,rfl,rfl,0,by omega,rfl,?_⟩ ?_
 .subst hS;have e:=Zb (h:=h.push (J ((R 64 0).map bv).toArray 205)) (o:=J ((List.take (4+0) (PD key LU Zz)++List.drop (4+0) fH).map wv++[]).toArray 232);rw[Array.size_push]at e;exact e
 rintro F g ⟨hg,f0,f1,f2,f6,f7,i,hi,f17,hx⟩;by_cases ZL:i<8
 .have ZW:(i:Int)<8:=by omega
  have t4:(4*(i:Int)).toNat=4*i:=by omega
  have t5:((4:Int)+i).toNat=4+i:=by omega
  simp +contextual -implicitDefEqProofs only[go_sem,f0,f7,f17,ZW,t4,t5,Uv];have Dn:=RI (sk.Yb ((Zf.push (aa _) _).trans (hg.mono (by omega)))) hk (k:=4*i) (by omega) ck (c-4*i);refine (fF T _ _ _ Dn (by rw[az];omega)).pure ?_;rw[Cq,<-GY key Zz LU i ZL,<-hS];have hSi:S.getD (4+i) 0<4294967296:=by rw[hS,GY key Zz LU i ZL];exact bu sk.byte _
  have c1:Jb g ⟨h.size+1,4+i,Q⟩ (t D (S.getD (4+i) 0:Nat))=_:=Yk (f:=wv) hx (i:=4+i) (by rw[fl _ (by omega)];omega) _ rfl;rw[JZ S fH (4+i) (by omega) hSZ]at c1;simp +contextual -implicitDefEqProofs only[go_sem,f7,f17,t5,c1];refine⟨⟨hg.Zj (by omega) _,f0,f1,f2,f6,f7,i+1,ZL,rfl,?_⟩,?_⟩
  .exact Z1 hx
  .simp only[vi,Zk,↓reduceIte,f17];omega
 .have YU:¬(i:Int)<8:=by omega
  obtain rfl:i=8:=by omega
  have c1:Jb g ⟨h.size+1,12,Q⟩ (t D (S.getD 12 0:Nat))=_:=Yk (f:=wv) hx (i:=12) (by rw[fl _ (by omega)];omega) _ rfl;have s12:S.getD 12 0=LU:=by rw[hS];rfl
  rw[JZ S fH 12 (by omega) hSZ,s12]at c1;have hx:=Z1 (o:=J ((S.take 13++fH.drop 13).map wv++[]).toArray 232) hx;have hg:=hg.Zj (b:=h.size+1) (by omega) (J ((S.take 13++fH.drop 13).map wv++[]).toArray 232);simp +contextual -implicitDefEqProofs only[go_sem,f0,f1,f7,f17,YU,c1];obtain⟨G,hG⟩:=ZD (g.setIfInBounds (h.size+1) (J ((S.take 13++fH.drop 13).map wv++[]).toArray 232):Hp);rw[<-hG]at hx hg ⊢;clear hG c1 s12;refine VS.Z9 (fun F g=>Zf (h.size+1) (h.push (J ((R 64 0).map bv).toArray 205)) g/\F 2=M q 12 d/\F 6=L (O ⟨h.size,0,Q⟩)/\F 7=L (O ⟨h.size+1,0,Q⟩)/\∃i:Nat,i<=3/\F 31=t A i/\g[h.size+1]? = O (J ((S.take (13+i)++fH.drop (13+i)).map wv++[]).toArray 232))
   (fun F _=>3-(vi (F 31)).toNat) rfl ⟨hg,f2,f6,f7,0,by omega,rfl,hx⟩ ?_
  clear f0 f1 f2 f6 f7 f17 hg hx F;rintro F g ⟨hg,f2,f6,f7,i,hi,f31,hx⟩;by_cases ZL:i<3
  .have ZW:(i:Int)<3:=by omega
   have t4:(4*(i:Int)).toNat=4*i:=by omega
   have t5:((13:Int)+i).toNat=13+i:=by omega
   simp +contextual -implicitDefEqProofs only[go_sem,f2,f7,f31,ZW,t4,t5,Uv];have Dn:=RI (sn.Yb ((Zf.push (aa _) _).trans (hg.mono (by omega)))) hn (k:=4*i) (by omega) cn (d-4*i);refine (fF T _ _ _ Dn (by rw[az];omega)).pure ?_;rw[Cq,<-Cs key Zz LU i ZL,<-hS];have c1:Jb g ⟨h.size+1,13+i,Q⟩ (t D (S.getD (13+i) 0:Nat))=_:=Yk (f:=wv) hx (i:=13+i) (by rw[fl _ (by omega)];omega) _ rfl;rw[JZ S fH (13+i) (by omega) hSZ]at c1;simp +contextual -implicitDefEqProofs only[go_sem,f7,f31,t5,c1];refine⟨⟨hg.Zj (by omega) _,f2,f6,f7,i+1,ZL,rfl,?_⟩,?_⟩
   .exact Z1 hx
   .simp only[vi,Zk,↓reduceIte,f31];omega
  .have YU:¬(i:Int)<3:=by omega
   obtain rfl:i=3:=by omega
   have e16:S.take (13+3)++fH.drop (13+3)=S:=by
    have:=N9 S fH hSZ;rw[bD]at this;exact this
   rw[e16]at hx;have y1:=Zs (n:=16) hx (by simp[bD]);have qa:(S.map wv++[]).length=16:=by simp[bD]
   have FL:(S.map wv++[]).all Yq=true:=by simp[wv,Yq]
   have hl3:YJ (fH.map wv) 0 (S.map wv++[])=S.map wv++[]:=ZZ (by rw[qa];rfl);have hl3:YJ [Value.int D 0,Value.int D 0,Value.int D 0,Value.int D 0,Value.int D 0,Value.int D 0,Value.int D 0,Value.int D 0,Value.int D 0,Value.int D 0,Value.int D 0,Value.int D 0,Value.int D 0,Value.int D 0,Value.int D 0,Value.int D 0] 0 (S.map wv++[])=S.map wv++[]:=hl3;have wS:RH S:=by rw[hS];exact jp sk.byte sn.byte hc
   have Pd:=Za hx;simp +contextual -implicitDefEqProofs only[go_sem,f6,f7,f31,YU,y1,qa,FL,hl3];clear hl3 y1;obtain⟨G,hG⟩:=ZD (g.push (J (S.map wv++[]).toArray 232):Hp);have hxG:G[g.size]? = O (J ((SU S 0).map wv++[]).toArray 232):=by rw[hG];exact Zb
   have hGb:Zf g.size g G:=by rw[hG];exact Zf.push (aa _) _
   rw[<-hG];clear hG;refine VS.Z9 (fun F g'=>Zf g.size g g'/\F 6=L (O ⟨h.size,0,Q⟩)/\F 7=L (O ⟨h.size+1,0,Q⟩)/\F 10=L (O ⟨g.size,0,Q⟩)/\∃r:Nat,r<=10/\F 44=t A r/\g'[g.size]? = O (J ((SU S r).map wv++[]).toArray 232))
    (fun F _=>10-(vi (F 44)).toNat) rfl ⟨hGb,f6,f7,rfl,0,by omega,rfl,hxG⟩ ?_
   clear f2 f6 f7 f31 hxG hGb G F;rintro F g1 ⟨b1,f6,f7,f10,r,hr,f44,QH⟩;by_cases Mh:r<10
   .have Zg3:(r:Int)<10:=by omega
    obtain⟨wr,lr⟩:=fG wS r;rw[bD]at lr;simp +contextual -implicitDefEqProofs only[go_sem,f44,Zg3];refine VS.Z9 (fun F g'=>Zf g.size g g'/\F 6=L (O ⟨h.size,0,Q⟩)/\F 7=L (O ⟨h.size+1,0,Q⟩)/\F 10=L (O ⟨g.size,0,Q⟩)/\F 44=t A r/\∃i:Nat,i<=4/\F 46=t A i/\g'[g.size]? = O (J ((bC (SU S r) i).map wv++[]).toArray 232))
     (fun F _=>4-(vi (F 46)).toNat) rfl ⟨b1,f6,f7,f10,f44,0,by omega,rfl,QH⟩ ?_
    clear f6 f7 f10 f44 b1 QH F g1;rintro F g1 ⟨b1,f6,f7,f10,f44,i,hi,f46,QH⟩;by_cases jq:i<4
    .have Zg4:(i:Int)<4:=by omega
     obtain⟨wc,lc⟩:=Ex wr i;rw[lr]at lc;have t1:(4:Int)+i=((4+i:Nat):Int):=by omega
     have t2:(8:Int)+i=((8+i:Nat):Int):=by omega
     have t3:(12:Int)+i=((12+i:Nat):Int):=by omega
     simp +contextual -implicitDefEqProofs only[go_sem,f10,f46,Zg4,t1,t2,t3];refine (Iu T g1 g.size _ i (4+i) (8+i) (12+i) lc wc (by omega) (by omega) (by omega) (by omega) QH).use ?_;rintro _ _ rfl;simp +contextual -implicitDefEqProofs only[go_sem,f46];refine⟨⟨b1.Zj (aa _) _,f6,f7,f10,f44,i+1,jq,rfl,?_⟩,?_⟩
     .exact Z1 QH
     .simp only[vi,Zk,↓reduceIte,f46];omega
    .have Zg5:¬(i:Int)<4:=by omega
     obtain rfl:i=4:=by omega
     obtain⟨wc,lc⟩:=Ex wr 4;rw[lr]at lc;simp +contextual -implicitDefEqProofs only[go_sem,f46,Zg5];refine VS.Z9 (fun F g'=>Zf g.size g g'/\F 6=L (O ⟨h.size,0,Q⟩)/\F 7=L (O ⟨h.size+1,0,Q⟩)/\F 10=L (O ⟨g.size,0,Q⟩)/\F 44=t A r/\∃i:Nat,i<=4/\F 58=t A i/\g'[g.size]? = O (J ((diags (bC (SU S r) 4) i).map wv++[]).toArray 232))
      (fun F _=>4-(vi (F 58)).toNat) rfl ⟨b1,f6,f7,f10,f44,0,by omega,rfl,QH⟩ ?_
     clear f6 f7 f10 f44 f46 jq Zg5 hi b1 QH F g1;rintro F g1 ⟨b1,f6,f7,f10,f44,i,hi,f58,QH⟩;by_cases jr:i<4
     .have GZ:(i:Int)<4:=by omega
      obtain⟨wd,ld⟩:=Cr wc i;rw[lc]at ld;have t1:(4:Int)+((i:Int)+1).tmod 4=((4+(i+1)%4:Nat):Int):=by
       have:((i:Int)+1).tmod 4=(((i+1)%4:Nat):Int):=rfl;omega
      have t2:(8:Int)+((i:Int)+2).tmod 4=((8+(i+2)%4:Nat):Int):=by
       have:((i:Int)+2).tmod 4=(((i+2)%4:Nat):Int):=rfl;omega
      have t3:(12:Int)+((i:Int)+3).tmod 4=((12+(i+3)%4:Nat):Int):=by
       have:((i:Int)+3).tmod 4=(((i+3)%4:Nat):Int):=rfl;omega
      have m1:((i:Int)+1).tmod 4=(((i+1)%4:Nat):Int):=rfl;have m2:((i:Int)+2).tmod 4=(((i+2)%4:Nat):Int):=rfl;have m3:((i:Int)+3).tmod 4=(((i+3)%4:Nat):Int):=rfl;rw[m1]at t1;rw[m2]at t2;rw[m3]at t3;have k1:(i+1)%4<4:=av _ (by decide);have k2:(i+2)%4<4:=av _ (by decide);have k3:(i+3)%4<4:=av _ (by decide);simp +contextual -implicitDefEqProofs only[go_sem,f10,f58,GZ,m1,m2,m3,t1,t2,t3];refine (Iu T g1 g.size _ i (4+(i+1)%4) (8+(i+2)%4) (12+(i+3)%4) ld wd (by omega) (by omega) (by omega) (by omega) QH).use ?_;rintro _ _ rfl;simp +contextual -implicitDefEqProofs only[go_sem,f58];refine⟨⟨b1.Zj (aa _) _,f6,f7,f10,f44,i+1,jr,rfl,?_⟩,?_⟩
      .exact Z1 QH
      .simp only[vi,Zk,↓reduceIte,f58];omega
     .have ZcR:¬(i:Int)<4:=by omega
      obtain rfl:i=4:=by omega
      simp +contextual -implicitDefEqProofs only[go_sem,f44,f58,ZcR];refine⟨⟨b1,f6,f7,f10,r+1,Mh,rfl,QH⟩,?_⟩;simp only[vi,Zk,↓reduceIte,f44];omega
   .have Zg6:¬(r:Int)<10:=by omega
    obtain rfl:r=10:=by omega
    obtain⟨wr,lr⟩:=fG wS 10;rw[bD]at lr;have Ip:=b1.get Pd hx;have z0:h.size+1<g.size:=Pd;have z1:=Za QH;simp +contextual -implicitDefEqProofs only[go_sem,f44,Zg6];obtain⟨X,hX⟩:=ZD (Ge (SU S 10) S);have jt:(H X)=64:=by rw[hX];simp[Ge]
    have hXZ:(H X)=(R 64 0).length:=by rw[jt];rfl
    refine VS.Z9 (fun F g'=>Zf g1.size g1 g'/\F 6=L (O ⟨h.size,0,Q⟩)/\F 7=L (O ⟨h.size+1,0,Q⟩)/\F 10=L (O ⟨g.size,0,Q⟩)/\F 13=L (O ⟨g1.size,0,Q⟩)/\∃i:Nat,i<=16/\F 77=t A i/\g'[g1.size]? = O (J ((X.take (4*i)++(R 64 0).drop (4*i)).map bv++[]).toArray 205))
     (fun F _=>16-(vi (F 77)).toNat) rfl ⟨Zf.push (aa _) _,f6,f7,f10,rfl,0,by omega,rfl,?_⟩ ?_
    .exact Zb
    clear f6 f7 f10 f44 Zg6 hr Mh F;rintro F g2 ⟨b2,f6,f7,f10,f13,i,hi,f77,PA⟩;by_cases bE:i<16
    .have qc:(i:Int)<16:=by omega
     have u1:=ZX (b2.get (by omega) Ip) (i:=i) (by omega);have u2:=ZX (b2.get z1 QH) (i:=i) (by omega);have v1:=wS.getD i;have v2:=wr.getD i;have e1:((SU S 10).getD i 0+S.getD i 0:Int)%4294967296=(((SU S 10).getD i 0+S.getD i 0)%4294967296:Nat):=by omega
     unfold wv at u1 u2;obtain⟨n,Pz⟩:=ZD (((SU S 10).getD i 0+S.getD i 0)%4294967296);have Zpd:n<4294967296:=by omega
     rw[<-Pz]at e1;have x0:X.getD (4*i) 0=n%256:=by have:=RK (SU S 10) S i 0 bE (by omega);rw[show (256:Nat) ^ 0=1 from rfl,Nat.div_one]at this;rw[hX,Pz];exact this
     have x1:X.getD (4*i+1) 0=n/256%256:=by have:=RK (SU S 10) S i 1 bE (by omega);rw[show (256:Nat) ^ 1=256 from rfl]at this;rw[hX,Pz];exact this
     have x2:X.getD (4*i+2) 0=n/65536%256:=by have:=RK (SU S 10) S i 2 bE (by omega);rw[show (256:Nat) ^ 2=65536 from rfl]at this;rw[hX,Pz];exact this
     have x3:X.getD (4*i+3) 0=n/16777216%256:=by have:=RK (SU S 10) S i 3 bE (by omega);rw[show (256:Nat) ^ 3=16777216 from rfl]at this;rw[hX,Pz];exact this
     have t0:(4*(i:Int)).toNat=4*i:=by omega
     have t1:(4*(i:Int)+1).toNat=4*i+1:=by omega
     have t2:(4*(i:Int)+2).toNat=4*i+2:=by omega
     have t3:(4*(i:Int)+3).toNat=4*i+3:=by omega
     have s0:(n:Int)%256=((n%256:Nat):Int):=by omega
     have s1:Xw D (n:Int) 8%256=((n/256%256:Nat):Int):=by rw[show (8:Int)=((8:Nat):Int) from rfl,UC n 8 (by omega)];omega
     have s2:Xw D (n:Int) 16%256=((n/65536%256:Nat):Int):=by rw[show (16:Int)=((16:Nat):Int) from rfl,UC n 16 (by omega)];omega
     have s3:Xw D (n:Int) 24%256=((n/16777216%256:Nat):Int):=by rw[show (24:Int)=((24:Nat):Int) from rfl,UC n 24 (by omega)];omega
     rw[<-x0]at s0;rw[<-x1]at s1;rw[<-x2]at s2;rw[<-x3]at s3;simp +contextual -implicitDefEqProofs only[go_sem,f7,f10,f77,qc];refine VS.q mixed (by kernel_rfl) ?_;have xl:∀k,k<=64->(X.take k++(R 64 0).drop k).length=64:=fun k hk=>by rw[Vf _ _ _ (by omega) hXZ,jt]
     have c0:Jb g2 ⟨g1.size,4*i,Q⟩ (t .u8 (X.getD (4*i) 0:Nat))=_:=Yk (f:=bv) PA (i:=4*i) (by rw[xl _ (by omega)];omega) _ rfl;rw[JZ X _ (4*i) (by omega) hXZ]at c0;have c1:Jb _ ⟨g1.size,4*i+1,Q⟩ (t .u8 (X.getD (4*i+1) 0:Nat))=_:=Yk (f:=bv) (Z1 (o:=J ((X.take (4*i+1)++(R 64 0).drop (4*i+1)).map bv++[]).toArray 205) PA) (i:=4*i+1) (by rw[xl _ (by omega)];omega) _ rfl;rw[JZ X _ (4*i+1) (by omega) hXZ,set_set]at c1;have c2:Jb _ ⟨g1.size,4*i+2,Q⟩ (t .u8 (X.getD (4*i+2) 0:Nat))=_:=Yk (f:=bv) (Z1 (o:=J ((X.take (4*i+2)++(R 64 0).drop (4*i+2)).map bv++[]).toArray 205) PA) (i:=4*i+2) (by rw[xl _ (by omega)];omega) _ rfl;rw[JZ X _ (4*i+2) (by omega) hXZ,set_set]at c2;have c3:Jb _ ⟨g1.size,4*i+3,Q⟩ (t .u8 (X.getD (4*i+3) 0:Nat))=_:=Yk (f:=bv) (Z1 (o:=J ((X.take (4*i+3)++(R 64 0).drop (4*i+3)).map bv++[]).toArray 205) PA) (i:=4*i+3) (by rw[xl _ (by omega)];omega) _ rfl;rw[JZ X _ (4*i+3) (by omega) hXZ,set_set]at c3;simp +contextual -implicitDefEqProofs only[go_sem,f7,f10,f13,f77,u1,u2,e1,t0,t1,t2,t3,s0,s1,s2,s3,c0,c1,c2,c3];refine⟨⟨b2.Zj (aa _) _,f6,f7,f10,f13,i+1,bE,rfl,?_⟩,?_⟩
     .exact Z1 PA
     .simp only[vi,Zk,↓reduceIte,f77];omega
    .have xF:¬(i:Int)<16:=by omega
     obtain rfl:i=16:=by omega
     have e64:X.take (4*16)++(R 64 0).drop (4*16)=X:=by
      have:=N9 X (R 64 0) hXZ;rw[jt]at this;exact this
     rw[e64,List.append_nil]at PA;have Iy:(X.map bv).length=64:=by simp[jt]
     have tk:=XH Iy;have y1:=Zs (n:=64) PA Iy;have y0:(h.push (J ((R 64 0).map bv).toArray 205))[h.size]? = O (J ((R 64 0).map bv).toArray 205):=Zb;have y2:=b2.get (by omega) (b1.get (by omega) (hg.get (by omega) y0));have y3:=Z2 y2 0 (X.map bv);rw[ZZ (by simp[jt]),if_pos ⟨by simp[jt],Vz X⟩]at y3;have z2:h.size<g2.size:=Za y2;have hB:Zf h.size h g2:=((Zf.push (aa _) _).trans (hg.mono (by omega))).trans ((b1.mono (by omega)).trans (b2.mono (by omega)));have hbx:XO key LU Zz=X:=by rw[hX,hS];rfl
     rw[hbx];simp +contextual -implicitDefEqProofs only[go_sem,f6,f13,f77,xF,y1,y3,Iy,tk,z2];exact hB.Zj (aa _) _
def X2(key:List Nat)(k:Int)(Zz:List Nat):Int:=if (H key)≠32\/(H Zz)≠12 then 1 else if k<0\/1073741824<k then 2 else 0
def Ct(B:Nat)(h':Hp)(v':Y)(key:List Nat)(k:Int)(Zz:List Nat):Prop:=∃w,v'=.tuple [w,t A (X2 key k Zz)].toArray/\Yd B 5 h' w (if X2 key k Zz=0 then XO key k.toNat Zz else [])
theorem qd(T:aI)(h:Hp)(v u:Y)(key Zz:List Nat)(k:Int)(sk:Bs h v key)(sn:Bs h u Zz)(ck:Sn v)(cn:Sn u):
  Zc al T 104 #[v,t A k,u] h fun v' h'=>Ct h.size h' v' key k Zz/\Zf h.size h h':=by
 obtain⟨p,c,rfl,_⟩:=sk.open;obtain⟨q,d,rfl,_⟩:=sn.open;refine Zc.Y8 [_,_,_] Tryz.func104 ?_;unfold Ct;simp +contextual -implicitDefEqProofs only[go_sem];refine (M3 T _ _ _ _ _ _ _ _).pure ?_;rw[show (if (H key)≠32\/(H Zz)≠12 then (1:Int) else if k<0\/1073741824<k then 2 else 0)=X2 key k Zz from rfl];by_cases e:X2 key k Zz=0
 .have hb:(H key)=32/\(H Zz)=12/\0<=k/\k<=1073741824:=by
   unfold X2 at e
   repeat' split at e
   all_goals first|omega|cases e
  obtain⟨hk,hn,k0,k1⟩:=hb;obtain⟨m,rfl⟩:∃m:Nat,k=m:=⟨k.toNat,gX⟩
  have m1:(m:Int)%4294967296=(m:Int):=gX;simp +contextual -implicitDefEqProofs only[go_sem,e,m1];refine (O9 T _ _ _ key Zz m sk sn hk hn gX ck cn).use ?_;rintro _ h1 ⟨rfl,b1⟩;have Iy:((XO key m Zz).map bv).length=64:=by simp[XO,Ge]
  have Xz:=Vz (XO key m Zz);have Zg7:YJ ((R 64 0).map bv) 0 ((XO key m Zz).map bv)=(XO key m Zz).map bv:=ZZ (by rw[Iy];simp);have xu:∀x∈XO key m Zz,x<256:=Ix _ _;have mH:(XO key m Zz).length=64:=by simpa using Iy
  generalize XO key m Zz=X at *;simp +contextual -implicitDefEqProofs only[go_sem,Iy,Xz,ZZ];have Zpe:Bs (h1.push (J (X.map bv).toArray 205)) (M (O ⟨h1.size,0,Q⟩) 64 64) X:=by
   have:=Bs.made (h:=h1) (E:=205) xu 64;rw[mH]at this;exact this
  have b1s:=b1.size;refine ZF (E:=5) (B:=h.size) YN Tryz.underlying39 WS VC VB (Yd.nil _ _ _) L6 Zpe (by simp[mH]) ?_;intro v' h' PW Jc _;simp +contextual -implicitDefEqProofs only[go_sem];exact⟨⟨_,rfl,by simpa using PW⟩,(b1.Yx b1s _).trans Jc⟩
 .simp +contextual -implicitDefEqProofs only[go_sem,e];exact⟨_,rfl,Yd.nil _ _ _⟩
def Oe(key:List Nat):List Nat:=if 64<(H key) then SR key else key
theorem Vl(key:List Nat):(Oe key).length<=64:=by
 unfold Oe;split
 .rw[JY];omega
 .omega
theorem ju{key:List Nat}(h:Pe key):Pe (Oe key):=by
 unfold Oe;split
 .exact jo _
 .exact h
def Wh(key:List Nat):List Nat:=Oe key++R (64-(Oe key).length) 0
theorem Jq(key:List Nat):(Wh key).length=64:=by
 have:=Vl key;simp[Wh];omega
theorem Mi{key:List Nat}(h:Pe key):Pe (Wh key):=by
 intro x hx;simp only[Wh,am,List.mem_replicate]at hx;rcases hx with hx|⟨_,rfl⟩
 .exact ju h x hx
 .omega
def WX(key:List Nat)(w:Nat):List Nat:=(Wh key).map (· ^^^ w)
theorem Yg(key:List Nat)(w:Nat):(WX key w).length=64:=by simp[WX,Jq]
theorem G0{key:List Nat}(h:Pe key){w:Nat}(hw:w<256):Pe (WX key w):=by
 intro x hx;obtain⟨y,hy,rfl⟩:=bc.1 hx;exact Zpc (Mi h y hy) hw
theorem G6(key:List Nat)(w:Nat){i:Nat}(hi:i<64):(WX key w).getD i 0=(Wh key).getD i 0 ^^^ w:=by
 rw[N,N,WX,a9,W (by rw[Jq];exact hi)];rfl
def Mj(key b:List Nat):List Nat:=SR (WX key 92++SR (WX key 54++b))
theorem Vm(key b:List Nat):(Mj key b).length=32:=JY _
def PG(key info:List Nat):Nat->List Nat
 | 0=>[]
 | i+1=>Mj key (PG key info i++info++[(i+1)%256])
def Vn(key info:List Nat):Nat->List Nat
 | 0=>[]
 | i+1=>Vn key info i++PG key info (i+1)
theorem TW(key info:List Nat)(i:Nat):(PG key info (i+1)).length=32:=Vm _ _
theorem qe(key info:List Nat):∀i,(PG key info i).length<=32
 | 0=>Nat.zero_le _
 | i+1=>Nat.le_of_eq (TW key info i)
theorem Wi(key info:List Nat):∀i,(Vn key info i).length=32*i
 | 0=>rfl
 | i+1=>by rw[Vn,ay,Wi key info i,TW];omega
theorem Iz(key info:List Nat)(n:Nat):∀(i j:Nat),n<=32*i->i<=j->(Vn key info j).take n=(Vn key info i).take n
 | i,0,h,hj=>by
  obtain rfl:i=0:=gX;rfl
 | i,j+1,h,hj=>by
  by_cases e:i=j+1
  .rw[e]
  .rw[Vn,List.take_append_of_le_length (by rw[Wi];omega)];exact Iz key info n i j h gX
def IA(X0 WY info:List Nat)(n:Nat):List Nat:=(Vn (Mj WY X0) info 16).take n
theorem Na(X0 WY info:List Nat){n:Nat}(hn:n<=512):(IA X0 WY info n).length=n:=by
 rw[IA,List.length_take,Wi];omega
end Go.Proofs.YtdpjmhgbmhjniaaGreatDoor
