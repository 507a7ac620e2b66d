/- Part Lchks. -/
import Derived.Test.YtdpjmhgbmhjniaaDoorBase
import Derived.Test.YtdpjmhgbmhjniaaDoorW11
namespace Go.Proofs.YtdpjmhgbmhjniaaDoor
open Go Go.V
set_option linter.unusedSimpArgs false
set_option linter.unusedVariables false
set_option maxRecDepth 100000
def Zc (k n a b:Int) (d:Value):List Value:=[.int .i64 k,.int .i64 n,.int .i64 a,.int .i64 b,d]
def Zg (k:Int):List (Nat × Int):=
 if k=1∨k=2∨k=3∨k=9 then [(1,4)] else if k=4∨k=5∨k=6 then [(2,1048576)] else if k=8 then [(1,4),(3,100000)] else []
def Yk (b:Nat) (x:Nat × Int):List Value:=[.pointer (some ⟨b,x.1,none⟩),.int .i64 x.2]
set_option maxHeartbeats 2000000 in
theorem XZ (T:World) (h:Hp) (b:Nat) (k n a c:Int) (d:Value) (hb:h[b]? = some (.cells (Zc k n a c d).toArray 33)) :
  Zf Tryd.prog T 17 #[.pointer (some ⟨b,0,none⟩)] h fun v' h'=>∃w,v'=.tuple [w,.bool (decide (1≤k∧k≤9))].toArray∧Jk h.size 49 (Yk b) 2 h' w (Zg k)∧Zj h.size h h':=by
 refine Zf.WT [_] Tryd.func17 ?_
 have b0:=Zb hb
 have x0:hc h ⟨b,0,none⟩=some (.int .i64 k):=by rw[Zs hb];rfl
 simp +contextual -implicitDefEqProofs (maxSteps:=2000000) only[go_sem,↓reduceIte]
 refine VS.w (h.size) [11] (.q 0 (.q 1 (.q 2 (.q 3 (.q 4 (.q 5 (.q 6 (.q 7 (.or 8 (.s 9 (.s 10 (.w 11 .nil))) (.s 9 (.s 8 (.s 10 (.w 11 .nil))))))))))))) mixed (by kernel_rfl) ?_
 unfold Zg
 have one:∀(g:Hp) (x:Nat × Int),h.size+2=g.size→Jk h.size 49 (Yk b) 2 (g.push (.cells [.pointer (some ⟨b,x.1,none⟩),.int .i64 x.2].toArray 49)) (.slice (some ⟨h.size+2,0,none⟩) 1 1) [x]:=fun g x e=>by rw[e];exact Jk.one (enc:=Yk b) x (fun _=>rfl) (by omega)
 have two:∀(g:Hp),h.size+2=g.size→Jk h.size 49 (Yk b) 2 (g.push (.cells [.pointer (some ⟨b,1,none⟩),.int .i64 4,.pointer (some ⟨b,3,none⟩),.int .i64 100000].toArray 49)) (.slice (some ⟨h.size+2,0,none⟩) 2 2) [(1,4),(3,100000)]:=fun g e=>by rw[e];exact Jk.made (enc:=Yk b) (fun _=>rfl) [(1,4),(3,100000)] (by omega)
 by_cases k1:k=1
 ·have hk:decide (1≤k∧k≤9)=true:=by rw[decide_eq_true_eq];omega
  simp +contextual -implicitDefEqProofs (maxSteps:=2000000) only[go_sem,↓reduceIte,x0,k1]
  refine⟨⟨_,rfl,one _ (1,4) (by simp),?_⟩,⟨_,rfl,one _ (1,4) (by simp),?_⟩⟩<;>(repeat' (first|exact Zj.refl _ _|assumption|refine Zj.add ?_ _|refine Zj.Xk ?_ (by first|omega|(simp;omega)) _|refine Zj.trans (by assumption) ?_))
 ·
  by_cases k2:k=2
  ·have hk:decide (1≤k∧k≤9)=true:=by rw[decide_eq_true_eq];omega
   simp +contextual -implicitDefEqProofs (maxSteps:=2000000) only[go_sem,↓reduceIte,x0,k2]
   refine⟨⟨_,rfl,one _ (1,4) (by simp),?_⟩,⟨_,rfl,one _ (1,4) (by simp),?_⟩⟩<;>(repeat' (first|exact Zj.refl _ _|assumption|refine Zj.add ?_ _|refine Zj.Xk ?_ (by first|omega|(simp;omega)) _|refine Zj.trans (by assumption) ?_))
  ·
   by_cases k3:k=3
   ·have hk:decide (1≤k∧k≤9)=true:=by rw[decide_eq_true_eq];omega
    simp +contextual -implicitDefEqProofs (maxSteps:=2000000) only[go_sem,↓reduceIte,x0,k3]
    refine⟨⟨_,rfl,one _ (1,4) (by simp),?_⟩,⟨_,rfl,one _ (1,4) (by simp),?_⟩⟩<;>(repeat' (first|exact Zj.refl _ _|assumption|refine Zj.add ?_ _|refine Zj.Xk ?_ (by first|omega|(simp;omega)) _|refine Zj.trans (by assumption) ?_))
   ·
    by_cases k9:k=9
    ·have hk:decide (1≤k∧k≤9)=true:=by rw[decide_eq_true_eq];omega
     simp +contextual -implicitDefEqProofs (maxSteps:=2000000) only[go_sem,↓reduceIte,x0,k9]
     refine⟨⟨_,rfl,one _ (1,4) (by simp),?_⟩,⟨_,rfl,one _ (1,4) (by simp),?_⟩⟩<;>(repeat' (first|exact Zj.refl _ _|assumption|refine Zj.add ?_ _|refine Zj.Xk ?_ (by first|omega|(simp;omega)) _|refine Zj.trans (by assumption) ?_))
    ·
     by_cases k4:k=4
     ·have hk:decide (1≤k∧k≤9)=true:=by rw[decide_eq_true_eq];omega
      simp +contextual -implicitDefEqProofs (maxSteps:=2000000) only[go_sem,↓reduceIte,x0,k4]
      refine⟨⟨_,rfl,one _ (2,1048576) (by simp),?_⟩,⟨_,rfl,one _ (2,1048576) (by simp),?_⟩⟩<;>(repeat' (first|exact Zj.refl _ _|assumption|refine Zj.add ?_ _|refine Zj.Xk ?_ (by first|omega|(simp;omega)) _|refine Zj.trans (by assumption) ?_))
     ·
      by_cases k5:k=5
      ·have hk:decide (1≤k∧k≤9)=true:=by rw[decide_eq_true_eq];omega
       simp +contextual -implicitDefEqProofs (maxSteps:=2000000) only[go_sem,↓reduceIte,x0,k5]
       refine⟨⟨_,rfl,one _ (2,1048576) (by simp),?_⟩,⟨_,rfl,one _ (2,1048576) (by simp),?_⟩⟩<;>(repeat' (first|exact Zj.refl _ _|assumption|refine Zj.add ?_ _|refine Zj.Xk ?_ (by first|omega|(simp;omega)) _|refine Zj.trans (by assumption) ?_))
      ·
       by_cases k6:k=6
       ·have hk:decide (1≤k∧k≤9)=true:=by rw[decide_eq_true_eq];omega
        simp +contextual -implicitDefEqProofs (maxSteps:=2000000) only[go_sem,↓reduceIte,x0,k6]
        refine⟨⟨_,rfl,one _ (2,1048576) (by simp),?_⟩,⟨_,rfl,one _ (2,1048576) (by simp),?_⟩⟩<;>(repeat' (first|exact Zj.refl _ _|assumption|refine Zj.add ?_ _|refine Zj.Xk ?_ (by first|omega|(simp;omega)) _|refine Zj.trans (by assumption) ?_))
       ·
        by_cases k7:k=7
        ·have hk:decide (1≤k∧k≤9)=true:=by rw[decide_eq_true_eq];omega
         simp +contextual -implicitDefEqProofs (maxSteps:=2000000) only[go_sem,↓reduceIte,x0,k7]
         exact⟨⟨_,rfl,Jk.nil _ _ _ _ _⟩,⟨_,rfl,Jk.nil _ _ _ _ _⟩⟩
        ·
         by_cases k8:k=8
         ·have hk:decide (1≤k∧k≤9)=true:=by rw[decide_eq_true_eq];omega
          simp +contextual -implicitDefEqProofs (maxSteps:=2000000) only[go_sem,↓reduceIte,x0,k8]
          refine⟨?_,?_⟩
          ·refine VS.b (h.size+2) [(0,true),(1,true),(2,true),(3,true),(4,true),(5,false),(6,true),(7,true)] mixed (by kernel_rfl) ?_
           simp +contextual -implicitDefEqProofs (maxSteps:=2000000) only[go_sem,↓reduceIte]
           refine⟨(Zj.refl _ _).Uc (by simp) _,_,rfl,two _ (by simp),?_⟩
           (repeat' (first|exact Zj.refl _ _|assumption|refine Zj.add ?_ _|refine Zj.Xk ?_ (by first|omega|(simp;omega)) _|refine Zj.trans (by assumption) ?_))
          ·refine VS.b (h.size+2) [(0,true),(1,true),(2,true),(3,true),(4,true),(5,false),(6,true),(7,true)] mixed (by kernel_rfl) ?_
           simp +contextual -implicitDefEqProofs (maxSteps:=2000000) only[go_sem,↓reduceIte]
           refine⟨(Zj.refl _ _).Uc (by simp) _,_,rfl,two _ (by simp),?_⟩
           (repeat' (first|exact Zj.refl _ _|assumption|refine Zj.add ?_ _|refine Zj.Xk ?_ (by first|omega|(simp;omega)) _|refine Zj.trans (by assumption) ?_))
         ·
          have hk:¬(1≤k∧k≤9):=by omega
          simp +contextual -implicitDefEqProofs (maxSteps:=2000000) only[go_sem,↓reduceIte,x0,k1,k2,k3,k9,k4,k5,k6,k7,k8,hk]
          exact⟨⟨_,rfl,Jk.nil _ _ _ _ _⟩,⟨_,rfl,Jk.nil _ _ _ _ _⟩⟩
def Ze (k:Int):Prop:=k=1∨k=2∨k=3∨k=9∨k=8
def Zk (k:Int):Prop:=4≤k∧k≤6
instance (k:Int):Decidable (Ze k):=by unfold Ze;infer_instance
instance (k:Int):Decidable (Zk k):=by unfold Zk;infer_instance
def Zx (k n a b:Int) (len:Nat):Int:=
 if ¬(1≤k∧k≤9) then 4 else
 if (Ze k∧¬(0≤n∧n≤4))∨(Zk k∧¬(0≤a∧a≤1048576))∨(k=8∧¬(0≤b∧b≤100000)) then 2 else
 if 2000<len then 1 else
 if (¬Ze k∧n≠0)∨(¬Zk k∧a≠0)∨(k≠8∧b≠0)∨(k≠1∧0<len) then 3 else 0
def Zz (k n a b:Int) (p:Nat):Int:=[k,n,a,b].getD p 0
def Yc (k n a b:Int) (x:Nat × Int):Prop:=0≤Zz k n a b x.1∧Zz k n a b x.1≤x.2
theorem YH {k:Int}:∀x∈Zg k,x.1<4∧0<x.1:=by
 intro x hx
 unfold Zg at hx
 repeat' split at hx
 all_goals simp at hx
 all_goals rcases hx with rfl|rfl<;>simp
theorem Qk (k:Int):(Zg k).length≤2:=by
 unfold Zg
 repeat' split
 all_goals simp
theorem Wc {k n a b:Int} {len:Nat} (h1:1≤k∧k≤9) {x:Nat × Int} (hx:x∈Zg k) (hb:¬Yc k n a b x):Zx k n a b len=2:=by
 unfold Zx
 rw[if_neg (by omega),if_pos]
 unfold Ze Zk
 unfold Zg at hx
 unfold Yc Zz at hb
 split at hx
 ·simp at hx;subst hx;simp at hb;left;omega
 ·split at hx
  ·simp at hx;subst hx;simp at hb;right;left;omega
  ·split at hx
   ·simp at hx
    rcases hx with rfl|rfl
    ·simp at hb;left;omega
    ·simp at hb;right;right;omega
   ·cases hx
theorem Sc {k n a b:Int} (hg:∀x∈Zg k,Yc k n a b x):¬((Ze k∧¬(0≤n∧n≤4))∨(Zk k∧¬(0≤a∧a≤1048576))∨(k=8∧¬(0≤b∧b≤100000))):=by
 unfold Ze Zk
 unfold Zg at hg
 split at hg
 ·have:=hg (1,4) (by simp);simp[Yc,Zz]at this;omega
 ·split at hg
  ·have:=hg (2,1048576) (by simp);simp[Yc,Zz]at this;omega
  ·split at hg
   ·have:=hg (1,4) (by simp);have h2:=hg (3,100000) (by simp);simp[Yc,Zz]at this h2;omega
   ·omega
def Xw (xs:List (Nat × Int)) (cs:List Value):List Value:=xs.foldl (fun cs x=>cs.set x.1 (.int .i64 0)) cs
theorem VE (xs:List (Nat × Int)) (x:Nat × Int) (cs:List Value):Xw (xs++[x]) cs=(Xw xs cs).set x.1 (.int .i64 0):=by simp[Xw]
theorem US (xs:List (Nat × Int)):∀cs,(Xw xs cs).length=cs.length:=by
 induction xs with
 | nil=>intro cs;rfl
 | cons x xs ih=>intro cs;simp only[Xw,List.foldl_cons]at *;rw[ih];simp
theorem Sd {k n a b:Int} {d:Value} (h1:1≤k∧k≤9):Xw (Zg k) (Zc k n a b d)=Zc k (if Ze k then 0 else n) (if Zk k then 0 else a) (if k=8 then 0 else b) d:=by
 unfold Zg
 split
 ·rw[if_pos (by unfold Ze;omega),if_neg (by unfold Zk;omega),if_neg (by omega)];rfl
 ·split
  ·rw[if_neg (by unfold Ze;omega),if_pos (by unfold Zk;omega),if_neg (by omega)];rfl
  ·split
   ·rw[if_pos (by unfold Ze;omega),if_neg (by unfold Zk;omega)];rfl
   ·rw[if_neg (by unfold Ze;omega),if_neg (by unfold Zk;omega)];rfl
theorem Um (k n a b:Int) (d:Value) (p:Nat) (hp:p<4):nth (Zc k n a b d) p=some (.int .i64 (Zz k n a b p)):=by
 rcases p with _|_|_|_|p<;>first|rfl|omega
theorem UT (T:World) (h:Hp) (k n a b:Int) (p:Option Addr) (len c:Nat) :
  Zf Tryd.prog T 9 #[.agg (Zc k n a b (.slice p len c)).toArray] h fun v' h'=>v'=.int .i64 (Zx k n a b len)∧Zj h.size h h':=by
 refine Zf.WT [_] Tryd.func9 ?_
 unfold Zc
 simp +contextual -implicitDefEqProofs only[go_sem,↓reduceIte]
 refine (XZ T _ h.size k n a b (.slice p len c) Zn).use ?_
 rintro _ h1 ⟨w,rfl,hw,b1⟩
 have hlen:=Qk k
 by_cases hk:1≤k∧k≤9
 ·obtain⟨pw,cw,rfl,Xc⟩:=Jk.MW (enc:=Yk h.size) (n:=2) (fun _=>rfl) (by decide) hw
  have x0:h1[h.size]? = some (.cells (Zc k n a b (.slice p len c)).toArray 33):=b1.get (by simp) Zn
  have z1:=Zb x0
  have SZ:Zj h.size h h1:=((Zj.refl h.size h).add _).trans (b1.mono (by simp))
  simp +contextual -implicitDefEqProofs only[go_sem,↓reduceIte,hk]
  refine VS.XF (fun F g=>Zj h1.size h1 g∧F 1=.pointer (some ⟨h.size,0,none⟩)∧F 3=.slice pw (Zg k).length cw∧F 15=.slice pw (Zg k).length cw∧F 16=.int .i64 (Zg k).length∧∃i:Nat,i≤(Zg k).length∧F 17=.int .i64 i∧∀x∈(Zg k).take i,Yc k n a b x)
   (fun F _=>(Zg k).length-(vi (F 17)).toNat) rfl ⟨Zj.refl _ _,rfl,rfl,rfl,rfl,0,by omega,rfl,fun x hx=>by cases hx⟩ ?_
  rintro F g ⟨hg,f1,f3,f15,f16,i,hi,f17,XM⟩
  have Gu:=hg.size
  by_cases ZH:i<(Zg k).length
  ·have ZV:(i:Int)<(Zg k).length:=by omega
   obtain⟨bb,oo,rfl,TT,M7,Xc⟩:=Xc (by intro e;rw[e]at ZH;simp at ZH)
   have hx:=List.getElem_mem ZH
   have Mm:=YH _ hx
   have r1:=((Xc i ZH).Yu hg M7).rd (by simp[Yk]) (m:=2) rfl
   obtain⟨x,OH⟩:=ZE ((Zg k)[i])
   rw[←OH]at hx Mm r1
   have v1:hc g ⟨h.size,x.1,none⟩=some (.int .i64 (Zz k n a b x.1)):=by
    rw[hg.hc z1,Zs x0,Um _ _ _ _ _ _ Mm.1]
   unfold Yk at r1
   simp +contextual -implicitDefEqProofs only[go_sem,↓reduceIte,f1,f15,f16,f17,ZV,r1]
   refine VS.q mixed (by kernel_rfl) ?_
   by_cases c1:Zz k n a b x.1<0
   ·have e:=Wc (len:=len) hk hx (n:=n) (a:=a) (b:=b) (by unfold Yc;omega)
    simp +contextual -implicitDefEqProofs only[go_sem,↓reduceIte,v1,c1,e]
    exact SZ.trans ((hg.mono (by omega)).Uc (by omega) _)
   ·by_cases c2:x.2<Zz k n a b x.1
    ·have e:=Wc (len:=len) hk hx (n:=n) (a:=a) (b:=b) (by unfold Yc;omega)
     simp +contextual -implicitDefEqProofs only[go_sem,↓reduceIte,v1,c1,c2,e]
     exact SZ.trans ((hg.mono (by omega)).Uc (by omega) _)
    ·simp +contextual -implicitDefEqProofs only[go_sem,↓reduceIte,f1,f3,f15,f16,f17,v1,c1,c2]
     refine⟨⟨hg.Uc (by omega) _,f1,f3,f15,f16,i+1,by omega,rfl,fun y hy=>?_⟩,?_⟩
     ·rw[X9 _ i ZH]at hy
      rcases List.mem_append.1 hy with hy|hy
      ·exact XM y hy
      ·simp at hy;rw[hy,←OH];unfold Yc;omega
     ·simp only[vi,YX,↓reduceIte,f17];omega
  ·have UA:¬(i:Int)<(Zg k).length:=by omega
   obtain rfl:i=(Zg k).length:=by omega
   rw[List.take_length]at XM
   have LX:=Sc XM
   have Fu:=hg.get z1 x0
   have y4:hc g ⟨h.size,4,none⟩=some (.slice p len c):=by rw[Zs Fu];rfl
   have OI:Zj h.size h g:=SZ.trans (hg.mono (by omega))
   by_cases c1:2000<len
   ·have Fv:2000<(len:Int):=by omega
    have e:Zx k n a b len=1:=by unfold Zx;rw[if_neg (by omega),if_neg LX,if_pos c1]
    simp +contextual -implicitDefEqProofs only[go_sem,↓reduceIte,f1,f3,f15,f16,f17,UA,y4,Fv,e,OI]
   ·have Fv:¬2000<(len:Int):=by omega
    simp +contextual -implicitDefEqProofs only[go_sem,↓reduceIte,f1,f3,f15,f16,f17,UA,y4,Fv]
    have xg:g[h.size]? = some (.cells (Xw ((Zg k).take 0) (Zc k n a b (.slice p len c))).toArray 33):=Fu
    clear y4 XM hi ZH UA
    refine VS.XF (fun F g'=>Zj h.size h g'∧(∀q,q≠h.size→q<h1.size→g'[q]? = h1[q]?)∧h1.size≤g'.size∧F 1=.pointer (some ⟨h.size,0,none⟩)∧F 40=.slice pw (Zg k).length cw∧F 41=.int .i64 (Zg k).length∧∃i:Nat,i≤(Zg k).length∧F 42=.int .i64 i∧g'[h.size]? = some (.cells (Xw ((Zg k).take i) (Zc k n a b (.slice p len c))).toArray 33))
     (fun F _=>(Zg k).length-(vi (F 42)).toNat) rfl ⟨OI,fun q _ hq=>hg.block q hq,Gu,f1,rfl,rfl,0,Nat.zero_le _,rfl,xg⟩ ?_
    clear xg Fu OI Gu hg g f1 f3 f15 f16 f17 F
    rintro F g ⟨OI,OJ,Gu,f1,f40,f41,i,hi,f42,xg⟩
    by_cases ZH:i<(Zg k).length
    ·have ZV:(i:Int)<(Zg k).length:=by omega
     obtain⟨bb,oo,rfl,TT,M7,Xc⟩:=Xc (by intro e;rw[e]at ZH;simp at ZH)
     have hx:=List.getElem_mem ZH
     have Mm:=YH _ hx
     have r1:=(Xc i ZH).rd (by simp[Yk]) (m:=2) rfl
     have I4:bb≠h.size:=by simp at TT;omega
     obtain⟨x,OH⟩:=ZE ((Zg k)[i])
     rw[←OH]at hx Mm r1
     have r2:rd g ⟨bb,oo+i*2,none⟩ 2=some (Yk h.size x):=by
      rw[←r1];unfold rd;rw[OJ _ I4 M7]
     have S2:(Xw ((Zg k).take i) (Zc k n a b (.slice p len c))).length=5:=by rw[US];rfl
     have zg:=Zb xg
     have w1:=ZA xg x.1 (.int .i64 0)
     rw[if_pos ⟨by rw[S2];omega,rfl⟩]at w1
     unfold Yk at r2
     simp +contextual -implicitDefEqProofs only[go_sem,↓reduceIte,f1,f40,f41,f42,ZV,r2]
     rw[w1]
     simp +contextual -implicitDefEqProofs only[go_sem,↓reduceIte,f42]
     refine⟨⟨(OI.Xk (Nat.le_refl _) _).Uc (by simp;omega) _,fun q hq CY=>?_,by simp;omega,f1,f40,f41,i+1,by omega,rfl,?_⟩,?_⟩
     ·rw[Array.getElem?_push,if_neg (by simp;omega),Array.getElem?_setIfInBounds,if_neg (fun e=>hq e.symm)];exact OJ q hq CY
     ·rw[Array.getElem?_push,if_neg (by simp;omega),Array.getElem?_setIfInBounds,if_pos rfl,if_pos zg,X9 _ i ZH,VE,←OH]
     ·simp only[vi,YX,↓reduceIte,f42];omega
    ·have UA:¬(i:Int)<(Zg k).length:=by omega
     obtain rfl:i=(Zg k).length:=by omega
     rw[List.take_length,Sd hk]at xg
     have e:Zx k n a b len=if (¬Ze k∧n≠0)∨(¬Zk k∧a≠0)∨(k≠8∧b≠0)∨(k≠1∧0<len) then 3 else 0:=by unfold Zx;rw[if_neg (by omega),if_neg LX,if_neg c1]
     rw[e]
     clear e LX Xc hw
     obtain⟨n',IS⟩:=ZE (if Ze k then 0 else n)
     obtain⟨a',Dd⟩:=ZE (if Zk k then 0 else a)
     obtain⟨b',Jg⟩:=ZE (if k=8 then 0 else b)
     rw[←IS,←Dd,←Jg]at xg
     have y0:hc g ⟨h.size,0,none⟩=some (.int .i64 k):=by rw[Zs xg];rfl
     have y1:hc g ⟨h.size,1,none⟩=some (.int .i64 n'):=by rw[Zs xg];rfl
     have y2:hc g ⟨h.size,2,none⟩=some (.int .i64 a'):=by rw[Zs xg];rfl
     have y3:hc g ⟨h.size,3,none⟩=some (.int .i64 b'):=by rw[Zs xg];rfl
     have y4:hc g ⟨h.size,4,none⟩=some (.slice p len c):=by rw[Zs xg];rfl
     have en:(¬Ze k∧n≠0)↔n'≠0:=by rw[IS];by_cases q:Ze k<;>simp[q]
     have ea:(¬Zk k∧a≠0)↔a'≠0:=by rw[Dd];by_cases q:Zk k<;>simp[q]
     have eb:(k≠8∧b≠0)↔b'≠0:=by rw[Jg];by_cases q:k=8<;>simp[q]
     simp only[en,ea,eb]
     by_cases q1:n'=0
     ·by_cases q2:a'=0
      ·by_cases q3:b'=0
       ·by_cases q4:k=1
        ·simp +contextual -implicitDefEqProofs only[go_sem,↓reduceIte,f1,f40,f41,f42,UA,y0,y1,y2,y3,q1,q2,q3,q4,OI]
        ·by_cases q5:0<len
         ·have Fw:0<(len:Int):=by omega
          simp +contextual -implicitDefEqProofs only[go_sem,↓reduceIte,f1,f40,f41,f42,UA,y0,y1,y2,y3,y4,q1,q2,q3,q4,q5,Fw,OI]
         ·have Fw:¬0<(len:Int):=by omega
          simp +contextual -implicitDefEqProofs only[go_sem,↓reduceIte,f1,f40,f41,f42,UA,y0,y1,y2,y3,y4,q1,q2,q3,q4,q5,Fw,OI]
       ·simp +contextual -implicitDefEqProofs only[go_sem,↓reduceIte,f1,f40,f41,f42,UA,y0,y1,y2,y3,q1,q2,q3,OI]
      ·simp +contextual -implicitDefEqProofs only[go_sem,↓reduceIte,f1,f40,f41,f42,UA,y0,y1,y2,q1,q2,OI]
     ·simp +contextual -implicitDefEqProofs only[go_sem,↓reduceIte,f1,f40,f41,f42,UA,y0,y1,q1,OI]
 ·have e:Zx k n a b len=4:=by unfold Zx;rw[if_pos hk]
  simp +contextual -implicitDefEqProofs only[go_sem,↓reduceIte,hk,e]
  exact ((Zj.refl h.size h).add _).trans (b1.mono (by simp))
theorem SN (T:World) (h:Hp) (k:Int):Zf Tryd.prog T 24 #[.int .i64 k] h fun v' h'=>v'=.tuple [.bool (decide (Ze k)),.bool (decide (Zk k)),.bool (decide (k=8))].toArray∧h'=h:=by
 refine Zf.WT [_] Tryd.func24 ?_
 by_cases k1:k=1
 ·subst k1;simp +contextual -implicitDefEqProofs only[go_sem,↓reduceIte];refine (Jn T _ _ _ _).pure ?_;simp +contextual -implicitDefEqProofs only[go_sem,↓reduceIte,Ze,Zk]
 ·by_cases k2:k=2
  ·subst k2;simp +contextual -implicitDefEqProofs only[go_sem,↓reduceIte];refine (Jn T _ _ _ _).pure ?_;simp +contextual -implicitDefEqProofs only[go_sem,↓reduceIte,Ze,Zk]
  ·by_cases k3:k=3
   ·subst k3;simp +contextual -implicitDefEqProofs only[go_sem,↓reduceIte];refine (Jn T _ _ _ _).pure ?_;simp +contextual -implicitDefEqProofs only[go_sem,↓reduceIte,Ze,Zk]
   ·by_cases k9:k=9
    ·subst k9;simp +contextual -implicitDefEqProofs only[go_sem,↓reduceIte];refine (Jn T _ _ _ _).pure ?_;simp +contextual -implicitDefEqProofs only[go_sem,↓reduceIte,Ze,Zk]
    ·by_cases k8:k=8
     ·subst k8;simp +contextual -implicitDefEqProofs only[go_sem,↓reduceIte];refine (Jn T _ _ _ _).pure ?_;simp +contextual -implicitDefEqProofs only[go_sem,↓reduceIte,Ze,Zk]
     ·simp +contextual -implicitDefEqProofs only[go_sem,↓reduceIte,k1,k2,k3,k9,k8];refine (Jn T _ _ _ _).pure ?_;simp +contextual -implicitDefEqProofs only[go_sem,↓reduceIte,Ze,Zk,k1,k2,k3,k9,k8]
set_option maxHeartbeats 4000000 in
theorem ZP (T:World) (h:Hp) (k n a b:Int) (p:Option Addr) (len c:Nat) :
  Zf Tryd.prog T 27 #[.agg (Zc k n a b (.slice p len c)).toArray] h fun v' h'=>v'=.int .i64 (Zx k n a b len)∧Zj h.size h h':=by
 refine Zf.WT [_] Tryd.func27 ?_
 unfold Zc Zx
 simp +contextual -implicitDefEqProofs only[go_sem,↓reduceIte]
 refine (Jn T _ _ _ _).pure ?_
 by_cases q1:1≤k∧k≤9
 ·
  simp +contextual -implicitDefEqProofs only[go_sem,↓reduceIte,q1]
  refine (SN T _ _).pure ?_
  by_cases q2:Ze k
  ·
   have q4:¬Zk k:=by unfold Ze at q2;unfold Zk;omega
   simp +contextual -implicitDefEqProofs only[go_sem,↓reduceIte,q1,q2,q4]
   refine (Jn T _ _ _ _).pure ?_
   by_cases q3:0≤n∧n≤4
   ·
    by_cases q6:k=8
    ·
     simp +contextual -implicitDefEqProofs only[go_sem,↓reduceIte,q1,q2,q4,q3,q6]
     refine (Jn T _ _ _ _).pure ?_
     by_cases q7:0≤b∧b≤100000
     ·
      by_cases q8:2000<len
      ·
       have J1:2000<(len:Int):=by omega
       simp +contextual -implicitDefEqProofs only[go_sem,↓reduceIte,q1,q2,q4,q3,q6,q7,q8,J1]
       first|done|rfl|exact (Zj.refl _ _).add _
      ·
       have J1:¬2000<(len:Int):=by omega
       by_cases za:a=0
       ·
        by_cases k1:k=1
        ·
         have m1:Ze 1:=by unfold Ze;omega
         have m2:¬Zk 1:=by unfold Zk;omega
         have m3:¬(1:Int)=8:=by omega
         simp +contextual -implicitDefEqProofs only[go_sem,↓reduceIte,q1,q2,q4,q3,q6,q7,q8,J1,za,k1,m1,m2,m3]
         first|done|rfl|exact (Zj.refl _ _).add _
        ·
         by_cases l0:0<len
         ·
          have Se:0<(len:Int):=by omega
          simp +contextual -implicitDefEqProofs only[go_sem,↓reduceIte,q1,q2,q4,q3,q6,q7,q8,J1,za,k1,l0,Se]
          first|done|rfl|exact (Zj.refl _ _).add _
         ·
          have Se:¬0<(len:Int):=by omega
          simp +contextual -implicitDefEqProofs only[go_sem,↓reduceIte,q1,q2,q4,q3,q6,q7,q8,J1,za,k1,l0,Se]
          first|done|rfl|exact (Zj.refl _ _).add _
       ·
        simp +contextual -implicitDefEqProofs only[go_sem,↓reduceIte,q1,q2,q4,q3,q6,q7,q8,J1,za]
        first|done|rfl|exact (Zj.refl _ _).add _
     ·
      simp +contextual -implicitDefEqProofs only[go_sem,↓reduceIte,q1,q2,q4,q3,q6,q7]
      first|done|rfl|exact (Zj.refl _ _).add _
    ·
     by_cases q8:2000<len
     ·
      have J1:2000<(len:Int):=by omega
      simp +contextual -implicitDefEqProofs only[go_sem,↓reduceIte,q1,q2,q4,q3,q6,q8,J1]
      first|done|rfl|exact (Zj.refl _ _).add _
     ·
      have J1:¬2000<(len:Int):=by omega
      by_cases za:a=0
      ·
       by_cases zb:b=0
       ·
        by_cases k1:k=1
        ·
         have m1:Ze 1:=by unfold Ze;omega
         have m2:¬Zk 1:=by unfold Zk;omega
         have m3:¬(1:Int)=8:=by omega
         simp +contextual -implicitDefEqProofs only[go_sem,↓reduceIte,q1,q2,q4,q3,q6,q8,J1,za,zb,k1,m1,m2,m3]
         first|done|rfl|exact (Zj.refl _ _).add _
        ·
         by_cases l0:0<len
         ·
          have Se:0<(len:Int):=by omega
          simp +contextual -implicitDefEqProofs only[go_sem,↓reduceIte,q1,q2,q4,q3,q6,q8,J1,za,zb,k1,l0,Se]
          first|done|rfl|exact (Zj.refl _ _).add _
         ·
          have Se:¬0<(len:Int):=by omega
          simp +contextual -implicitDefEqProofs only[go_sem,↓reduceIte,q1,q2,q4,q3,q6,q8,J1,za,zb,k1,l0,Se]
          first|done|rfl|exact (Zj.refl _ _).add _
       ·
        simp +contextual -implicitDefEqProofs only[go_sem,↓reduceIte,q1,q2,q4,q3,q6,q8,J1,za,zb]
        first|done|rfl|exact (Zj.refl _ _).add _
      ·
       simp +contextual -implicitDefEqProofs only[go_sem,↓reduceIte,q1,q2,q4,q3,q6,q8,J1,za]
       first|done|rfl|exact (Zj.refl _ _).add _
   ·
    simp +contextual -implicitDefEqProofs only[go_sem,↓reduceIte,q1,q2,q4,q3]
    first|done|rfl|exact (Zj.refl _ _).add _
  ·
   have q6:¬k=8:=by unfold Ze at q2;omega
   by_cases q4:Zk k
   ·
    simp +contextual -implicitDefEqProofs only[go_sem,↓reduceIte,q1,q2,q6,q4]
    refine (Jn T _ _ _ _).pure ?_
    by_cases q5:0≤a∧a≤1048576
    ·
     by_cases q8:2000<len
     ·
      have J1:2000<(len:Int):=by omega
      simp +contextual -implicitDefEqProofs only[go_sem,↓reduceIte,q1,q2,q6,q4,q5,q8,J1]
      first|done|rfl|exact (Zj.refl _ _).add _
     ·
      have J1:¬2000<(len:Int):=by omega
      by_cases zn:n=0
      ·
       by_cases zb:b=0
       ·
        by_cases k1:k=1
        ·
         exact absurd (by unfold Ze;omega) q2
        ·
         by_cases l0:0<len
         ·
          have Se:0<(len:Int):=by omega
          simp +contextual -implicitDefEqProofs only[go_sem,↓reduceIte,q1,q2,q6,q4,q5,q8,J1,zn,zb,k1,l0,Se]
          first|done|rfl|exact (Zj.refl _ _).add _
         ·
          have Se:¬0<(len:Int):=by omega
          simp +contextual -implicitDefEqProofs only[go_sem,↓reduceIte,q1,q2,q6,q4,q5,q8,J1,zn,zb,k1,l0,Se]
          first|done|rfl|exact (Zj.refl _ _).add _
       ·
        simp +contextual -implicitDefEqProofs only[go_sem,↓reduceIte,q1,q2,q6,q4,q5,q8,J1,zn,zb]
        first|done|rfl|exact (Zj.refl _ _).add _
      ·
       simp +contextual -implicitDefEqProofs only[go_sem,↓reduceIte,q1,q2,q6,q4,q5,q8,J1,zn]
       first|done|rfl|exact (Zj.refl _ _).add _
    ·
     simp +contextual -implicitDefEqProofs only[go_sem,↓reduceIte,q1,q2,q6,q4,q5]
     first|done|rfl|exact (Zj.refl _ _).add _
   ·
    by_cases q8:2000<len
    ·
     have J1:2000<(len:Int):=by omega
     simp +contextual -implicitDefEqProofs only[go_sem,↓reduceIte,q1,q2,q6,q4,q8,J1]
     first|done|rfl|exact (Zj.refl _ _).add _
    ·
     have J1:¬2000<(len:Int):=by omega
     by_cases zn:n=0
     ·
      by_cases za:a=0
      ·
       by_cases zb:b=0
       ·
        by_cases k1:k=1
        ·
         exact absurd (by unfold Ze;omega) q2
        ·
         by_cases l0:0<len
         ·
          have Se:0<(len:Int):=by omega
          simp +contextual -implicitDefEqProofs only[go_sem,↓reduceIte,q1,q2,q6,q4,q8,J1,zn,za,zb,k1,l0,Se]
          first|done|rfl|exact (Zj.refl _ _).add _
         ·
          have Se:¬0<(len:Int):=by omega
          simp +contextual -implicitDefEqProofs only[go_sem,↓reduceIte,q1,q2,q6,q4,q8,J1,zn,za,zb,k1,l0,Se]
          first|done|rfl|exact (Zj.refl _ _).add _
       ·
        simp +contextual -implicitDefEqProofs only[go_sem,↓reduceIte,q1,q2,q6,q4,q8,J1,zn,za,zb]
        first|done|rfl|exact (Zj.refl _ _).add _
      ·
       simp +contextual -implicitDefEqProofs only[go_sem,↓reduceIte,q1,q2,q6,q4,q8,J1,zn,za]
       first|done|rfl|exact (Zj.refl _ _).add _
     ·
      simp +contextual -implicitDefEqProofs only[go_sem,↓reduceIte,q1,q2,q6,q4,q8,J1,zn]
      first|done|rfl|exact (Zj.refl _ _).add _
 ·
  simp +contextual -implicitDefEqProofs only[go_sem,↓reduceIte,q1]
  first|done|rfl|exact (Zj.refl _ _).add _
end Go.Proofs.YtdpjmhgbmhjniaaDoor
