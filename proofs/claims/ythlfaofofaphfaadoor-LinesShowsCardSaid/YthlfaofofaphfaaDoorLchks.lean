/- LinesChecks holds: lines.Check answers what the document says, at every argument; without any condition. -/
import Derived.Test.YthlfaofofaphfaaDoorBase
import Derived.Test.YthlfaofofaphfaaDoorW11
namespace Go.Proofs.YthlfaofofaphfaaDoor
open Go Go.V
set_option linter.unusedSimpArgs false
set_option linter.unusedVariables false
set_option maxRecDepth 100000
def Zy (k n a b:Int) (d:Value):List Value:=[.int .i64 k,.int .i64 n,.int .i64 a,.int .i64 b,d]
def slotsOf (k:Int):List (Nat × Int):=
 if k=1∨k=2∨k=3∨k=9 then [(1,4)] else if k=4∨k=5∨k=6 then [(2,1048576)] else if k=8 then [(1,4),(3,100000)] else []
def Yx (b:Nat) (x:Nat × Int):List Value:=[.pointer (some ⟨b,x.1,none⟩),.int .i64 x.2]
set_option maxHeartbeats 2000000 in
theorem Jt (T:World) (h:Hp) (b:Nat) (k n a c:Int) (d:Value) (hb:h[b]? = some (.cells (Zy k n a c d).toArray 34)) :
  Ze Tryd.prog T 22 #[.pointer (some ⟨b,0,none⟩)] h fun v' h'=>∃w,v'=.tuple [w,.bool (decide (1≤k∧k≤9))].toArray∧Qn h.size 58 (Yx b) 2 h' w (slotsOf k)∧Zg h.size h h':=by
 refine Ze.Zn (args:=[_]) Tryd.func22 rfl rfl rfl rfl ?_
 have b0:=Zb hb
 have x0:hc h ⟨b,0,none⟩=some (.int .i64 k):=by rw[Zk hb];rfl
 simp +contextual -implicitDefEqProofs (maxSteps:=2000000) only[go_sem,↓reduceIte]
 refine VS.w (h.size) [11] (.q 0 (.q 1 (.q 2 (.q 3 (.q 4 (.q 5 (.q 6 (.q 7 (.or 8 (.s 9 (.s 10 (.w 11 .nil))) (.s 9 (.s 8 (.s 10 (.w 11 .nil))))))))))))) mixed (by kernel_rfl) ?_
 unfold slotsOf
 have one:∀(g:Hp) (x:Nat × Int),h.size+2=g.size→Qn h.size 58 (Yx b) 2 (g.push (.cells [.pointer (some ⟨b,x.1,none⟩),.int .i64 x.2].toArray 58)) (.slice (some ⟨h.size+2,0,none⟩) 1 1) [x]:=fun g x e=>by rw[e];exact Qn.one (enc:=Yx b) x (fun _=>rfl) (by omega)
 have two:∀(g:Hp),h.size+2=g.size→Qn h.size 58 (Yx b) 2 (g.push (.cells [.pointer (some ⟨b,1,none⟩),.int .i64 4,.pointer (some ⟨b,3,none⟩),.int .i64 100000].toArray 58)) (.slice (some ⟨h.size+2,0,none⟩) 2 2) [(1,4),(3,100000)]:=fun g e=>by rw[e];exact Qn.made (enc:=Yx b) (fun _=>rfl) [(1,4),(3,100000)] (by omega)
 by_cases k1:k=1
 ·have hk:decide (1≤k∧k≤9)=true:=by rw[decide_eq_true_eq];omega
  simp +contextual -implicitDefEqProofs (maxSteps:=2000000) only[go_sem,↓reduceIte,x0,k1]
  refine⟨⟨_,rfl,one _ (1,4) (by simp),?_⟩,⟨_,rfl,one _ (1,4) (by simp),?_⟩⟩<;>(repeat' (first|exact Zg.refl _ _|assumption|refine Zg.add ?_ _|refine Zg.YG ?_ (by first|omega|(simp;omega)) _|refine Zg.trans (by assumption) ?_))
 ·
  by_cases k2:k=2
  ·have hk:decide (1≤k∧k≤9)=true:=by rw[decide_eq_true_eq];omega
   simp +contextual -implicitDefEqProofs (maxSteps:=2000000) only[go_sem,↓reduceIte,x0,k2]
   refine⟨⟨_,rfl,one _ (1,4) (by simp),?_⟩,⟨_,rfl,one _ (1,4) (by simp),?_⟩⟩<;>(repeat' (first|exact Zg.refl _ _|assumption|refine Zg.add ?_ _|refine Zg.YG ?_ (by first|omega|(simp;omega)) _|refine Zg.trans (by assumption) ?_))
  ·
   by_cases k3:k=3
   ·have hk:decide (1≤k∧k≤9)=true:=by rw[decide_eq_true_eq];omega
    simp +contextual -implicitDefEqProofs (maxSteps:=2000000) only[go_sem,↓reduceIte,x0,k3]
    refine⟨⟨_,rfl,one _ (1,4) (by simp),?_⟩,⟨_,rfl,one _ (1,4) (by simp),?_⟩⟩<;>(repeat' (first|exact Zg.refl _ _|assumption|refine Zg.add ?_ _|refine Zg.YG ?_ (by first|omega|(simp;omega)) _|refine Zg.trans (by assumption) ?_))
   ·
    by_cases k9:k=9
    ·have hk:decide (1≤k∧k≤9)=true:=by rw[decide_eq_true_eq];omega
     simp +contextual -implicitDefEqProofs (maxSteps:=2000000) only[go_sem,↓reduceIte,x0,k9]
     refine⟨⟨_,rfl,one _ (1,4) (by simp),?_⟩,⟨_,rfl,one _ (1,4) (by simp),?_⟩⟩<;>(repeat' (first|exact Zg.refl _ _|assumption|refine Zg.add ?_ _|refine Zg.YG ?_ (by first|omega|(simp;omega)) _|refine Zg.trans (by assumption) ?_))
    ·
     by_cases k4:k=4
     ·have hk:decide (1≤k∧k≤9)=true:=by rw[decide_eq_true_eq];omega
      simp +contextual -implicitDefEqProofs (maxSteps:=2000000) only[go_sem,↓reduceIte,x0,k4]
      refine⟨⟨_,rfl,one _ (2,1048576) (by simp),?_⟩,⟨_,rfl,one _ (2,1048576) (by simp),?_⟩⟩<;>(repeat' (first|exact Zg.refl _ _|assumption|refine Zg.add ?_ _|refine Zg.YG ?_ (by first|omega|(simp;omega)) _|refine Zg.trans (by assumption) ?_))
     ·
      by_cases k5:k=5
      ·have hk:decide (1≤k∧k≤9)=true:=by rw[decide_eq_true_eq];omega
       simp +contextual -implicitDefEqProofs (maxSteps:=2000000) only[go_sem,↓reduceIte,x0,k5]
       refine⟨⟨_,rfl,one _ (2,1048576) (by simp),?_⟩,⟨_,rfl,one _ (2,1048576) (by simp),?_⟩⟩<;>(repeat' (first|exact Zg.refl _ _|assumption|refine Zg.add ?_ _|refine Zg.YG ?_ (by first|omega|(simp;omega)) _|refine Zg.trans (by assumption) ?_))
      ·
       by_cases k6:k=6
       ·have hk:decide (1≤k∧k≤9)=true:=by rw[decide_eq_true_eq];omega
        simp +contextual -implicitDefEqProofs (maxSteps:=2000000) only[go_sem,↓reduceIte,x0,k6]
        refine⟨⟨_,rfl,one _ (2,1048576) (by simp),?_⟩,⟨_,rfl,one _ (2,1048576) (by simp),?_⟩⟩<;>(repeat' (first|exact Zg.refl _ _|assumption|refine Zg.add ?_ _|refine Zg.YG ?_ (by first|omega|(simp;omega)) _|refine Zg.trans (by assumption) ?_))
       ·
        by_cases k7:k=7
        ·have hk:decide (1≤k∧k≤9)=true:=by rw[decide_eq_true_eq];omega
         simp +contextual -implicitDefEqProofs (maxSteps:=2000000) only[go_sem,↓reduceIte,x0,k7]
         exact⟨⟨_,rfl,Qn.nil _ _ _ _ _⟩,⟨_,rfl,Qn.nil _ _ _ _ _⟩⟩
        ·
         by_cases k8:k=8
         ·have hk:decide (1≤k∧k≤9)=true:=by rw[decide_eq_true_eq];omega
          simp +contextual -implicitDefEqProofs (maxSteps:=2000000) only[go_sem,↓reduceIte,x0,k8]
          refine⟨?_,?_⟩
          ·refine VS.b (h.size+2) [(0,true),(1,true),(2,true),(3,true),(4,true),(5,false),(6,true),(7,true)] mixed (by kernel_rfl) ?_
           simp +contextual -implicitDefEqProofs (maxSteps:=2000000) only[go_sem,↓reduceIte]
           refine⟨(Zg.refl _ _).JA (by simp) _,_,rfl,two _ (by simp),?_⟩
           (repeat' (first|exact Zg.refl _ _|assumption|refine Zg.add ?_ _|refine Zg.YG ?_ (by first|omega|(simp;omega)) _|refine Zg.trans (by assumption) ?_))
          ·refine VS.b (h.size+2) [(0,true),(1,true),(2,true),(3,true),(4,true),(5,false),(6,true),(7,true)] mixed (by kernel_rfl) ?_
           simp +contextual -implicitDefEqProofs (maxSteps:=2000000) only[go_sem,↓reduceIte]
           refine⟨(Zg.refl _ _).JA (by simp) _,_,rfl,two _ (by simp),?_⟩
           (repeat' (first|exact Zg.refl _ _|assumption|refine Zg.add ?_ _|refine Zg.YG ?_ (by first|omega|(simp;omega)) _|refine Zg.trans (by assumption) ?_))
         ·
          have hk:¬(1≤k∧k≤9):=by omega
          simp +contextual -implicitDefEqProofs (maxSteps:=2000000) only[go_sem,↓reduceIte,x0,k1,k2,k3,k9,k4,k5,k6,k7,k8,hk]
          exact⟨⟨_,rfl,Qn.nil _ _ _ _ _⟩,⟨_,rfl,Qn.nil _ _ _ _ _⟩⟩
def Zf (k:Int):Prop:=k=1∨k=2∨k=3∨k=9∨k=8
def Zm (k:Int):Prop:=4≤k∧k≤6
instance (k:Int):Decidable (Zf k):=by unfold Zf;infer_instance
instance (k:Int):Decidable (Zm k):=by unfold Zm;infer_instance
def ZY (k n a b:Int) (len:Nat):Int:=
 if ¬(1≤k∧k≤9) then 4 else
 if (Zf k∧¬(0≤n∧n≤4))∨(Zm k∧¬(0≤a∧a≤1048576))∨(k=8∧¬(0≤b∧b≤100000)) then 2 else
 if 2000<len then 1 else
 if (¬Zf k∧n≠0)∨(¬Zm k∧a≠0)∨(k≠8∧b≠0)∨(k≠1∧0<len) then 3 else 0
def Zz (k n a b:Int) (p:Nat):Int:=[k,n,a,b].getD p 0
def ZO (k n a b:Int) (x:Nat × Int):Prop:=0≤Zz k n a b x.1∧Zz k n a b x.1≤x.2
theorem Y4 {k:Int}:∀x∈slotsOf k,x.1<4∧0<x.1:=by
 intro x hx
 unfold slotsOf at hx
 repeat' split at hx
 all_goals simp at hx
 all_goals rcases hx with rfl|rfl<;>simp
theorem Jb (k:Int):(slotsOf k).length≤2:=by
 unfold slotsOf
 repeat' split
 all_goals simp
theorem QP {k n a b:Int} {len:Nat} (h1:1≤k∧k≤9) {x:Nat × Int} (hx:x∈slotsOf k) (hb:¬ZO k n a b x):ZY k n a b len=2:=by
 unfold ZY
 rw[if_neg (by omega),if_pos]
 unfold Zf Zm
 unfold slotsOf at hx
 unfold ZO Zz at hb
 split at hx
 ·simp at hx;subst hx;simp at hb;left;omega
 ·split at hx
  ·simp at hx;subst hx;simp at hb;right;left;omega
  ·split at hx
   ·simp at hx
    rcases hx with rfl|rfl
    ·simp at hb;left;omega
    ·simp at hb;right;right;omega
   ·cases hx
theorem Z5 {k n a b:Int} (hg:∀x∈slotsOf k,ZO k n a b x):¬((Zf k∧¬(0≤n∧n≤4))∨(Zm k∧¬(0≤a∧a≤1048576))∨(k=8∧¬(0≤b∧b≤100000))):=by
 unfold Zf Zm
 unfold slotsOf at hg
 split at hg
 ·have:=hg (1,4) (by simp);simp[ZO,Zz]at this;omega
 ·split at hg
  ·have:=hg (2,1048576) (by simp);simp[ZO,Zz]at this;omega
  ·split at hg
   ·have:=hg (1,4) (by simp);have h2:=hg (3,100000) (by simp);simp[ZO,Zz]at this h2;omega
   ·omega
def YR (xs:List (Nat × Int)) (cs:List Value):List Value:=xs.foldl (fun cs x=>cs.set x.1 (.int .i64 0)) cs
theorem U7 (xs:List (Nat × Int)) (x:Nat × Int) (cs:List Value):YR (xs++[x]) cs=(YR xs cs).set x.1 (.int .i64 0):=by simp[YR]
theorem QA (xs:List (Nat × Int)):∀cs,(YR xs cs).length=cs.length:=by
 induction xs with
 | nil=>intro cs;rfl
 | cons x xs ih=>intro cs;simp only[YR,List.foldl_cons]at *;rw[ih];simp
theorem Vi {k n a b:Int} {d:Value} (h1:1≤k∧k≤9):YR (slotsOf k) (Zy k n a b d)=Zy k (if Zf k then 0 else n) (if Zm k then 0 else a) (if k=8 then 0 else b) d:=by
 unfold slotsOf
 split
 ·rw[if_pos (by unfold Zf;omega),if_neg (by unfold Zm;omega),if_neg (by omega)];rfl
 ·split
  ·rw[if_neg (by unfold Zf;omega),if_pos (by unfold Zm;omega),if_neg (by omega)];rfl
  ·split
   ·rw[if_pos (by unfold Zf;omega),if_neg (by unfold Zm;omega)];rfl
   ·rw[if_neg (by unfold Zf;omega),if_neg (by unfold Zm;omega)];rfl
theorem Qb (k n a b:Int) (d:Value) (p:Nat) (hp:p<4):nth (Zy k n a b d) p=some (.int .i64 (Zz k n a b p)):=by
 rcases p with _|_|_|_|p<;>first|rfl|omega
theorem QB (T:World) (h:Hp) (k n a b:Int) (p:Option Addr) (len c:Nat) :
  Ze Tryd.prog T 12 #[.agg (Zy k n a b (.slice p len c)).toArray] h fun v' h'=>v'=.int .i64 (ZY k n a b len)∧Zg h.size h h':=by
 refine Ze.Zn (args:=[_]) Tryd.func12 rfl rfl rfl rfl ?_
 unfold Zy
 simp +contextual -implicitDefEqProofs only[go_sem,↓reduceIte]
 refine (Jt T _ h.size k n a b (.slice p len c) Zq).use ?_
 rintro _ h1 ⟨w,rfl,hw,b1⟩
 have hlen:=Jb k
 by_cases hk:1≤k∧k≤9
 ·obtain⟨pw,cw,rfl,Ye⟩:=Qn.Pp (enc:=Yx h.size) (n:=2) (fun _=>rfl) (by decide) hw
  have x0:h1[h.size]? = some (.cells (Zy k n a b (.slice p len c)).toArray 34):=b1.get (by simp) Zq
  have z1:=Zb x0
  have VR:Zg h.size h h1:=((Zg.refl h.size h).add _).trans (b1.mono (by simp))
  simp +contextual -implicitDefEqProofs only[go_sem,↓reduceIte,hk]
  refine VS.XL (fun F g=>Zg h1.size h1 g∧F 1=.pointer (some ⟨h.size,0,none⟩)∧F 3=.slice pw (slotsOf k).length cw∧F 15=.slice pw (slotsOf k).length cw∧F 16=.int .i64 (slotsOf k).length∧∃i:Nat,i≤(slotsOf k).length∧F 17=.int .i64 i∧∀x∈(slotsOf k).take i,ZO k n a b x)
   (fun F _=>(slotsOf k).length-(vi (F 17)).toNat) rfl ⟨Zg.refl _ _,rfl,rfl,rfl,rfl,0,by omega,rfl,fun x hx=>by cases hx⟩ ?_
  rintro F g ⟨hg,f1,f3,f15,f16,i,hi,f17,YF⟩
  have MF:=hg.size
  by_cases Zs:i<(slotsOf k).length
  ·have YH:(i:Int)<(slotsOf k).length:=by omega
   obtain⟨bb,oo,rfl,WV,Up,Ye⟩:=Ye (by intro e;rw[e]at Zs;simp at Zs)
   have hx:=List.getElem_mem Zs
   have P8:=Y4 _ hx
   have r1:=((Ye i Zs).ZZ hg Up).rd (by simp[Yx]) (m:=2) rfl
   obtain⟨x,VJ⟩:=X2 ((slotsOf k)[i])
   rw[←VJ]at hx P8 r1
   have v1:hc g ⟨h.size,x.1,none⟩=some (.int .i64 (Zz k n a b x.1)):=by
    rw[hg.hc z1,Zk x0,Qb _ _ _ _ _ _ P8.1]
   unfold Yx at r1
   simp +contextual -implicitDefEqProofs only[go_sem,↓reduceIte,f1,f15,f16,f17,YH,r1]
   refine VS.q mixed (by kernel_rfl) ?_
   by_cases c1:Zz k n a b x.1<0
   ·have e:=QP (len:=len) hk hx (n:=n) (a:=a) (b:=b) (by unfold ZO;omega)
    simp +contextual -implicitDefEqProofs only[go_sem,↓reduceIte,v1,c1,e]
    exact VR.trans ((hg.mono (by omega)).JA (by omega) _)
   ·by_cases c2:x.2<Zz k n a b x.1
    ·have e:=QP (len:=len) hk hx (n:=n) (a:=a) (b:=b) (by unfold ZO;omega)
     simp +contextual -implicitDefEqProofs only[go_sem,↓reduceIte,v1,c1,c2,e]
     exact VR.trans ((hg.mono (by omega)).JA (by omega) _)
    ·simp +contextual -implicitDefEqProofs only[go_sem,↓reduceIte,f1,f3,f15,f16,f17,v1,c1,c2]
     refine⟨⟨hg.JA (by omega) _,f1,f3,f15,f16,i+1,by omega,rfl,fun y hy=>?_⟩,?_⟩
     ·rw[ZH _ i Zs]at hy
      rcases List.mem_append.1 hy with hy|hy
      ·exact YF y hy
      ·simp at hy;rw[hy,←VJ];unfold ZO;omega
     ·simp only[vi,ZG,↓reduceIte,f17];omega
  ·have Jc:¬(i:Int)<(slotsOf k).length:=by omega
   obtain rfl:i=(slotsOf k).length:=by omega
   rw[List.take_length]at YF
   have P9:=Z5 YF
   have LN:=hg.get z1 x0
   have y4:hc g ⟨h.size,4,none⟩=some (.slice p len c):=by rw[Zk LN];rfl
   have S7:Zg h.size h g:=VR.trans (hg.mono (by omega))
   by_cases c1:2000<len
   ·have LO:2000<(len:Int):=by omega
    have e:ZY k n a b len=1:=by unfold ZY;rw[if_neg (by omega),if_neg P9,if_pos c1]
    simp +contextual -implicitDefEqProofs only[go_sem,↓reduceIte,f1,f3,f15,f16,f17,Jc,y4,LO,e,S7]
   ·have LO:¬2000<(len:Int):=by omega
    simp +contextual -implicitDefEqProofs only[go_sem,↓reduceIte,f1,f3,f15,f16,f17,Jc,y4,LO]
    have xg:g[h.size]? = some (.cells (YR ((slotsOf k).take 0) (Zy k n a b (.slice p len c))).toArray 34):=LN
    clear y4 YF hi Zs Jc
    refine VS.XL (fun F g'=>Zg h.size h g'∧(∀q,q≠h.size→q<h1.size→g'[q]? = h1[q]?)∧h1.size≤g'.size∧F 1=.pointer (some ⟨h.size,0,none⟩)∧F 40=.slice pw (slotsOf k).length cw∧F 41=.int .i64 (slotsOf k).length∧∃i:Nat,i≤(slotsOf k).length∧F 42=.int .i64 i∧g'[h.size]? = some (.cells (YR ((slotsOf k).take i) (Zy k n a b (.slice p len c))).toArray 34))
     (fun F _=>(slotsOf k).length-(vi (F 42)).toNat) rfl ⟨S7,fun q _ hq=>hg.block q hq,MF,f1,rfl,rfl,0,Nat.zero_le _,rfl,xg⟩ ?_
    clear xg LN S7 MF hg g f1 f3 f15 f16 f17 F
    rintro F g ⟨S7,NT,MF,f1,f40,f41,i,hi,f42,xg⟩
    by_cases Zs:i<(slotsOf k).length
    ·have YH:(i:Int)<(slotsOf k).length:=by omega
     obtain⟨bb,oo,rfl,WV,Up,Ye⟩:=Ye (by intro e;rw[e]at Zs;simp at Zs)
     have hx:=List.getElem_mem Zs
     have P8:=Y4 _ hx
     have r1:=(Ye i Zs).rd (by simp[Yx]) (m:=2) rfl
     have NU:bb≠h.size:=by simp at WV;omega
     obtain⟨x,VJ⟩:=X2 ((slotsOf k)[i])
     rw[←VJ]at hx P8 r1
     have r2:rd g ⟨bb,oo+i*2,none⟩ 2=some (Yx h.size x):=by
      rw[←r1];unfold rd;rw[NT _ NU Up]
     have VW:(YR ((slotsOf k).take i) (Zy k n a b (.slice p len c))).length=5:=by rw[QA];rfl
     have zg:=Zb xg
     have w1:=JK xg x.1 (.int .i64 0)
     rw[if_pos ⟨by rw[VW];omega,rfl⟩]at w1
     unfold Yx at r2
     simp +contextual -implicitDefEqProofs only[go_sem,↓reduceIte,f1,f40,f41,f42,YH,r2]
     rw[w1]
     simp +contextual -implicitDefEqProofs only[go_sem,↓reduceIte,f42]
     refine⟨⟨(S7.YG (Nat.le_refl _) _).JA (by simp;omega) _,fun q hq I4=>?_,by simp;omega,f1,f40,f41,i+1,by omega,rfl,?_⟩,?_⟩
     ·rw[Array.getElem?_push,if_neg (by simp;omega),Array.getElem?_setIfInBounds,if_neg (fun e=>hq e.symm)];exact NT q hq I4
     ·rw[Array.getElem?_push,if_neg (by simp;omega),Array.getElem?_setIfInBounds,if_pos rfl,if_pos zg,ZH _ i Zs,U7,←VJ]
     ·simp only[vi,ZG,↓reduceIte,f42];omega
    ·have Jc:¬(i:Int)<(slotsOf k).length:=by omega
     obtain rfl:i=(slotsOf k).length:=by omega
     rw[List.take_length,Vi hk]at xg
     have e:ZY k n a b len=if (¬Zf k∧n≠0)∨(¬Zm k∧a≠0)∨(k≠8∧b≠0)∨(k≠1∧0<len) then 3 else 0:=by unfold ZY;rw[if_neg (by omega),if_neg P9,if_neg c1]
     rw[e]
     clear e P9 Ye hw
     obtain⟨n',NN⟩:=X2 (if Zf k then 0 else n)
     obtain⟨a',KR⟩:=X2 (if Zm k then 0 else a)
     obtain⟨b',X4⟩:=X2 (if k=8 then 0 else b)
     rw[←NN,←KR,←X4]at xg
     have y0:hc g ⟨h.size,0,none⟩=some (.int .i64 k):=by rw[Zk xg];rfl
     have y1:hc g ⟨h.size,1,none⟩=some (.int .i64 n'):=by rw[Zk xg];rfl
     have y2:hc g ⟨h.size,2,none⟩=some (.int .i64 a'):=by rw[Zk xg];rfl
     have y3:hc g ⟨h.size,3,none⟩=some (.int .i64 b'):=by rw[Zk xg];rfl
     have y4:hc g ⟨h.size,4,none⟩=some (.slice p len c):=by rw[Zk xg];rfl
     have en:(¬Zf k∧n≠0)↔n'≠0:=by rw[NN];by_cases q:Zf k<;>simp[q]
     have ea:(¬Zm k∧a≠0)↔a'≠0:=by rw[KR];by_cases q:Zm k<;>simp[q]
     have eb:(k≠8∧b≠0)↔b'≠0:=by rw[X4];by_cases q:k=8<;>simp[q]
     simp only[en,ea,eb]
     by_cases q1:n'=0
     ·by_cases q2:a'=0
      ·by_cases q3:b'=0
       ·by_cases q4:k=1
        ·simp +contextual -implicitDefEqProofs only[go_sem,↓reduceIte,f1,f40,f41,f42,Jc,y0,y1,y2,y3,q1,q2,q3,q4,S7]
        ·by_cases q5:0<len
         ·have LP:0<(len:Int):=by omega
          simp +contextual -implicitDefEqProofs only[go_sem,↓reduceIte,f1,f40,f41,f42,Jc,y0,y1,y2,y3,y4,q1,q2,q3,q4,q5,LP,S7]
         ·have LP:¬0<(len:Int):=by omega
          simp +contextual -implicitDefEqProofs only[go_sem,↓reduceIte,f1,f40,f41,f42,Jc,y0,y1,y2,y3,y4,q1,q2,q3,q4,q5,LP,S7]
       ·simp +contextual -implicitDefEqProofs only[go_sem,↓reduceIte,f1,f40,f41,f42,Jc,y0,y1,y2,y3,q1,q2,q3,S7]
      ·simp +contextual -implicitDefEqProofs only[go_sem,↓reduceIte,f1,f40,f41,f42,Jc,y0,y1,y2,q1,q2,S7]
     ·simp +contextual -implicitDefEqProofs only[go_sem,↓reduceIte,f1,f40,f41,f42,Jc,y0,y1,q1,S7]
 ·have e:ZY k n a b len=4:=by unfold ZY;rw[if_pos hk]
  simp +contextual -implicitDefEqProofs only[go_sem,↓reduceIte,hk,e]
  exact ((Zg.refl h.size h).add _).trans (b1.mono (by simp))
theorem VK (T:World) (h:Hp) (k:Int):Ze Tryd.prog T 26 #[.int .i64 k] h fun v' h'=>v'=.tuple [.bool (decide (Zf k)),.bool (decide (Zm k)),.bool (decide (k=8))].toArray∧h'=h:=by
 refine Ze.Zn (args:=[_]) Tryd.func26 rfl rfl rfl rfl ?_
 by_cases k1:k=1
 ·subst k1;simp +contextual -implicitDefEqProofs only[go_sem,↓reduceIte];refine (Xj T _ _ _ _).pure ?_;simp +contextual -implicitDefEqProofs only[go_sem,↓reduceIte,Zf,Zm]
 ·by_cases k2:k=2
  ·subst k2;simp +contextual -implicitDefEqProofs only[go_sem,↓reduceIte];refine (Xj T _ _ _ _).pure ?_;simp +contextual -implicitDefEqProofs only[go_sem,↓reduceIte,Zf,Zm]
  ·by_cases k3:k=3
   ·subst k3;simp +contextual -implicitDefEqProofs only[go_sem,↓reduceIte];refine (Xj T _ _ _ _).pure ?_;simp +contextual -implicitDefEqProofs only[go_sem,↓reduceIte,Zf,Zm]
   ·by_cases k9:k=9
    ·subst k9;simp +contextual -implicitDefEqProofs only[go_sem,↓reduceIte];refine (Xj T _ _ _ _).pure ?_;simp +contextual -implicitDefEqProofs only[go_sem,↓reduceIte,Zf,Zm]
    ·by_cases k8:k=8
     ·subst k8;simp +contextual -implicitDefEqProofs only[go_sem,↓reduceIte];refine (Xj T _ _ _ _).pure ?_;simp +contextual -implicitDefEqProofs only[go_sem,↓reduceIte,Zf,Zm]
     ·simp +contextual -implicitDefEqProofs only[go_sem,↓reduceIte,k1,k2,k3,k9,k8];refine (Xj T _ _ _ _).pure ?_;simp +contextual -implicitDefEqProofs only[go_sem,↓reduceIte,Zf,Zm,k1,k2,k3,k9,k8]
set_option maxHeartbeats 4000000 in
theorem U8 (T:World) (h:Hp) (k n a b:Int) (p:Option Addr) (len c:Nat) :
  Ze Tryd.prog T 16 #[.agg (Zy k n a b (.slice p len c)).toArray] h fun v' h'=>v'=.int .i64 (ZY k n a b len)∧Zg h.size h h':=by
 refine Ze.Zn (args:=[_]) Tryd.func16 rfl rfl rfl rfl ?_
 unfold Zy ZY
 simp +contextual -implicitDefEqProofs only[go_sem,↓reduceIte]
 refine (Xj T _ _ _ _).pure ?_
 by_cases q1:1≤k∧k≤9
 ·
  simp +contextual -implicitDefEqProofs only[go_sem,↓reduceIte,q1]
  refine (VK T _ _).pure ?_
  by_cases q2:Zf k
  ·
   have q4:¬Zm k:=by unfold Zf at q2;unfold Zm;omega
   simp +contextual -implicitDefEqProofs only[go_sem,↓reduceIte,q1,q2,q4]
   refine (Xj T _ _ _ _).pure ?_
   by_cases q3:0≤n∧n≤4
   ·
    by_cases q6:k=8
    ·
     simp +contextual -implicitDefEqProofs only[go_sem,↓reduceIte,q1,q2,q4,q3,q6]
     refine (Xj T _ _ _ _).pure ?_
     by_cases q7:0≤b∧b≤100000
     ·
      by_cases q8:2000<len
      ·
       have XV:2000<(len:Int):=by omega
       simp +contextual -implicitDefEqProofs only[go_sem,↓reduceIte,q1,q2,q4,q3,q6,q7,q8,XV]
       first|done|rfl|exact (Zg.refl _ _).add _
      ·
       have XV:¬2000<(len:Int):=by omega
       by_cases za:a=0
       ·
        by_cases k1:k=1
        ·
         have m1:Zf 1:=by unfold Zf;omega
         have m2:¬Zm 1:=by unfold Zm;omega
         have m3:¬(1:Int)=8:=by omega
         simp +contextual -implicitDefEqProofs only[go_sem,↓reduceIte,q1,q2,q4,q3,q6,q7,q8,XV,za,k1,m1,m2,m3]
         first|done|rfl|exact (Zg.refl _ _).add _
        ·
         by_cases l0:0<len
         ·
          have Vj:0<(len:Int):=by omega
          simp +contextual -implicitDefEqProofs only[go_sem,↓reduceIte,q1,q2,q4,q3,q6,q7,q8,XV,za,k1,l0,Vj]
          first|done|rfl|exact (Zg.refl _ _).add _
         ·
          have Vj:¬0<(len:Int):=by omega
          simp +contextual -implicitDefEqProofs only[go_sem,↓reduceIte,q1,q2,q4,q3,q6,q7,q8,XV,za,k1,l0,Vj]
          first|done|rfl|exact (Zg.refl _ _).add _
       ·
        simp +contextual -implicitDefEqProofs only[go_sem,↓reduceIte,q1,q2,q4,q3,q6,q7,q8,XV,za]
        first|done|rfl|exact (Zg.refl _ _).add _
     ·
      simp +contextual -implicitDefEqProofs only[go_sem,↓reduceIte,q1,q2,q4,q3,q6,q7]
      first|done|rfl|exact (Zg.refl _ _).add _
    ·
     by_cases q8:2000<len
     ·
      have XV:2000<(len:Int):=by omega
      simp +contextual -implicitDefEqProofs only[go_sem,↓reduceIte,q1,q2,q4,q3,q6,q8,XV]
      first|done|rfl|exact (Zg.refl _ _).add _
     ·
      have XV:¬2000<(len:Int):=by omega
      by_cases za:a=0
      ·
       by_cases zb:b=0
       ·
        by_cases k1:k=1
        ·
         have m1:Zf 1:=by unfold Zf;omega
         have m2:¬Zm 1:=by unfold Zm;omega
         have m3:¬(1:Int)=8:=by omega
         simp +contextual -implicitDefEqProofs only[go_sem,↓reduceIte,q1,q2,q4,q3,q6,q8,XV,za,zb,k1,m1,m2,m3]
         first|done|rfl|exact (Zg.refl _ _).add _
        ·
         by_cases l0:0<len
         ·
          have Vj:0<(len:Int):=by omega
          simp +contextual -implicitDefEqProofs only[go_sem,↓reduceIte,q1,q2,q4,q3,q6,q8,XV,za,zb,k1,l0,Vj]
          first|done|rfl|exact (Zg.refl _ _).add _
         ·
          have Vj:¬0<(len:Int):=by omega
          simp +contextual -implicitDefEqProofs only[go_sem,↓reduceIte,q1,q2,q4,q3,q6,q8,XV,za,zb,k1,l0,Vj]
          first|done|rfl|exact (Zg.refl _ _).add _
       ·
        simp +contextual -implicitDefEqProofs only[go_sem,↓reduceIte,q1,q2,q4,q3,q6,q8,XV,za,zb]
        first|done|rfl|exact (Zg.refl _ _).add _
      ·
       simp +contextual -implicitDefEqProofs only[go_sem,↓reduceIte,q1,q2,q4,q3,q6,q8,XV,za]
       first|done|rfl|exact (Zg.refl _ _).add _
   ·
    simp +contextual -implicitDefEqProofs only[go_sem,↓reduceIte,q1,q2,q4,q3]
    first|done|rfl|exact (Zg.refl _ _).add _
  ·
   have q6:¬k=8:=by unfold Zf at q2;omega
   by_cases q4:Zm k
   ·
    simp +contextual -implicitDefEqProofs only[go_sem,↓reduceIte,q1,q2,q6,q4]
    refine (Xj T _ _ _ _).pure ?_
    by_cases q5:0≤a∧a≤1048576
    ·
     by_cases q8:2000<len
     ·
      have XV:2000<(len:Int):=by omega
      simp +contextual -implicitDefEqProofs only[go_sem,↓reduceIte,q1,q2,q6,q4,q5,q8,XV]
      first|done|rfl|exact (Zg.refl _ _).add _
     ·
      have XV:¬2000<(len:Int):=by omega
      by_cases zn:n=0
      ·
       by_cases zb:b=0
       ·
        by_cases k1:k=1
        ·
         exact absurd (by unfold Zf;omega) q2
        ·
         by_cases l0:0<len
         ·
          have Vj:0<(len:Int):=by omega
          simp +contextual -implicitDefEqProofs only[go_sem,↓reduceIte,q1,q2,q6,q4,q5,q8,XV,zn,zb,k1,l0,Vj]
          first|done|rfl|exact (Zg.refl _ _).add _
         ·
          have Vj:¬0<(len:Int):=by omega
          simp +contextual -implicitDefEqProofs only[go_sem,↓reduceIte,q1,q2,q6,q4,q5,q8,XV,zn,zb,k1,l0,Vj]
          first|done|rfl|exact (Zg.refl _ _).add _
       ·
        simp +contextual -implicitDefEqProofs only[go_sem,↓reduceIte,q1,q2,q6,q4,q5,q8,XV,zn,zb]
        first|done|rfl|exact (Zg.refl _ _).add _
      ·
       simp +contextual -implicitDefEqProofs only[go_sem,↓reduceIte,q1,q2,q6,q4,q5,q8,XV,zn]
       first|done|rfl|exact (Zg.refl _ _).add _
    ·
     simp +contextual -implicitDefEqProofs only[go_sem,↓reduceIte,q1,q2,q6,q4,q5]
     first|done|rfl|exact (Zg.refl _ _).add _
   ·
    by_cases q8:2000<len
    ·
     have XV:2000<(len:Int):=by omega
     simp +contextual -implicitDefEqProofs only[go_sem,↓reduceIte,q1,q2,q6,q4,q8,XV]
     first|done|rfl|exact (Zg.refl _ _).add _
    ·
     have XV:¬2000<(len:Int):=by omega
     by_cases zn:n=0
     ·
      by_cases za:a=0
      ·
       by_cases zb:b=0
       ·
        by_cases k1:k=1
        ·
         exact absurd (by unfold Zf;omega) q2
        ·
         by_cases l0:0<len
         ·
          have Vj:0<(len:Int):=by omega
          simp +contextual -implicitDefEqProofs only[go_sem,↓reduceIte,q1,q2,q6,q4,q8,XV,zn,za,zb,k1,l0,Vj]
          first|done|rfl|exact (Zg.refl _ _).add _
         ·
          have Vj:¬0<(len:Int):=by omega
          simp +contextual -implicitDefEqProofs only[go_sem,↓reduceIte,q1,q2,q6,q4,q8,XV,zn,za,zb,k1,l0,Vj]
          first|done|rfl|exact (Zg.refl _ _).add _
       ·
        simp +contextual -implicitDefEqProofs only[go_sem,↓reduceIte,q1,q2,q6,q4,q8,XV,zn,za,zb]
        first|done|rfl|exact (Zg.refl _ _).add _
      ·
       simp +contextual -implicitDefEqProofs only[go_sem,↓reduceIte,q1,q2,q6,q4,q8,XV,zn,za]
       first|done|rfl|exact (Zg.refl _ _).add _
     ·
      simp +contextual -implicitDefEqProofs only[go_sem,↓reduceIte,q1,q2,q6,q4,q8,XV,zn]
      first|done|rfl|exact (Zg.refl _ _).add _
 ·
  simp +contextual -implicitDefEqProofs only[go_sem,↓reduceIte,q1]
  first|done|rfl|exact (Zg.refl _ _).add _
end Go.Proofs.YthlfaofofaphfaaDoor
