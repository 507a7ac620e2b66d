/- Small functions that many laws reach: what each computes; no condition but those in its own statement. -/
import Derived.Test.YtboeoomhjbcecaaGreatDoorTy
namespace Go.Proofs.YtboeoomhjbcecaaGreatDoor
open Go Go.V
set_option linter.unusedSimpArgs false
set_option linter.unusedVariables false
set_option maxRecDepth 100000
attribute [go_sem] Nat.reduceEqDiff Nat.reduceAdd Nat.reduceMul Nat.reduceLeDiff Nat.reduceLT Nat.reduceSub IntWalk.iteOmega IntWalk.toNatUp reduceCtorEq false_and and_false false_or or_false true_or or_true not_true_eq_false not_false_eq_true Bool.not_true Bool.not_false Bool.and_true Bool.true_and Bool.and_false Bool.false_and Bool.not_eq_true beq_self_eq_true Nat.add_zero Int.reduceLE Int.reduceLT Int.reduceToNat Int.reduceNeg
theorem VW (T:World) (h:Hp) (a b c:Int):Zc Tryz.prog T 40 #[.int .i64 a,.int .i64 b,.int .i64 c] h fun v' h'=>v'=.bool (decide (b≤a∧a≤c))∧h'=h:=by
 refine Zc.Zk (args:=[_,_,_]) Tryz.func40 rfl rfl rfl rfl ?_;by_cases h1:b≤a
 ·by_cases h2:a≤c
  ·simp +contextual -implicitDefEqProofs only[go_sem,↓reduceIte,h1,h2]
  ·simp +contextual -implicitDefEqProofs only[go_sem,↓reduceIte,h1,h2]
 ·simp +contextual -implicitDefEqProofs only[go_sem,↓reduceIte,h1]
def Qp (k c s n v:Int):List Value:=[.int .i64 k,.int .i64 c,.int .i64 s,.int .i64 n,.int .i64 v]
def Yx (k c s n v:Int):Int:=
 if ¬(0≤k∧k≤3) then 4 else
 if k=0 then (if c≠0∨s≠0∨n≠0∨v≠0 then 3 else 0) else
 if ¬(0≤c∧c≤7)∨¬(0≤s∧s≤1048576)∨¬(0≤n∧n≤7)∨¬(0≤v∧v≤1073741824) then 2 else
 if 1<k∧v≠0 then 3 else 0
theorem Qq (T:World) (h:Hp) (k c s n v:Int) :
  Zc Tryz.prog T 24 #[.agg (Qp k c s n v).toArray] h fun v' h'=>v'=.int .i64 (Yx k c s n v)∧h'=h.push (.cells (Qp k c s n v).toArray 47):=by
 refine Zc.Zk (args:=[_]) Tryz.func24 rfl rfl rfl rfl ?_;unfold Qp;simp +contextual -implicitDefEqProofs only[go_sem,↓reduceIte]
 repeat' (first|(refine (VW T _ _ _ _).pure ?_)|simp +contextual -implicitDefEqProofs only[go_sem,↓reduceIte]|split)
 all_goals congr 1
 all_goals (try simp only[Bool.not_eq_true',Bool.and_eq_false_iff,decide_eq_false_iff_not,Bool.not_eq_false',Bool.and_eq_true,decide_eq_true_eq,Bool.not_eq_true,Bool.not_eq_false,Bool.or_eq_true,not_and,not_or,bne_iff_ne,ne_eq]at *)
 all_goals unfold Yx
 all_goals (repeat' split)
 all_goals (first|omega|trace_state)
theorem Fv (T:World) (h:Hp) (v u:Value) (l k:List Nat) (s:Bs h v l) (t:Bs h u k) (hl:l.length≤140737488355328) :
  Zc Tryz.prog T 53 #[v,u] h fun v' h'=>v'=.bool (decide (l=k))∧h'=h:=by
 obtain⟨p,c,rfl,Us⟩:=s.open;obtain⟨q,d,rfl,HU⟩:=t.open;refine Zc.Zk (args:=[_,_]) Tryz.func53 rfl rfl rfl rfl ?_;by_cases hlen:l.length=k.length
 ·have dF:(l.length:Int)=k.length:=by omega
  simp +contextual -implicitDefEqProofs only[go_sem,↓reduceIte,dF];refine VS.ZW (fun F g=>g=h∧F 0=.slice p l.length c∧F 1=.slice q k.length d∧F 13=.int .i64 l.length∧∃i x:Nat,i≤l.length∧x<256∧F 14=.int .i64 i∧F 5=.int .u8 x∧(x=0↔l.take i=k.take i))
   (fun F _=>l.length-(vi (F 14)).toNat) rfl ⟨rfl,rfl,rfl,by rw[dF];rfl,0,0,by omega,by omega,rfl,rfl,by simp⟩ ?_
  rintro F g ⟨rfl,f0,f1,f13,i,x,hi,hx,f14,f5,zr⟩;by_cases ZD:i<l.length
  ·have ZL:(i:Int)<l.length:=by omega
   have vd:i<k.length:=by omega
   obtain⟨b1,o1,rfl,Kf,g1⟩:=Us (by intro e;subst e;simp at ZD);obtain⟨b2,o2,rfl,Lr,g2⟩:=HU (by intro e;subst e;simp at vd);have g1i:=g1 i ZD;have g2i:=g2 i vd;have y1:=s.byte _ (List.getElem_mem ZD);have y2:=t.byte _ (List.getElem_mem vd);simp +contextual -implicitDefEqProofs only[go_sem,↓reduceIte,f0,f1,f13,f14,f5,ZL];refine VS.q mixed (by kernel_rfl) ?_;simp +contextual -implicitDefEqProofs only[go_sem,↓reduceIte,f0,f1,f13,f14,f5,g1i,g2i];have e1:=Fb l[i] k[i] y1 y2;have e2:l[i] ^^^ k[i]<256:=Nat.xor_lt_two_pow (n:=8) y1 y2;have e3:=Zej x (l[i] ^^^ k[i]) hx e2;rw[e1,e3];refine⟨⟨rfl,f0,f1,f13,i+1,x ||| (l[i] ^^^ k[i]),ZD,Nat.or_lt_two_pow (n:=8) hx e2,rfl,rfl,?_⟩,?_⟩
   ·rw[Yl l i ZD,Yl k i vd,EX,Fe,zr]
    constructor
    ·rintro⟨a,b⟩;rw[a,b]
    ·intro a;have a2:=List.append_inj' a rfl;exact⟨a2.1,by simpa using a2.2⟩
   ·simp only[vi,Zi,↓reduceIte,f14];omega
  ·have YJ:¬(i:Int)<l.length:=by omega
   simp +contextual -implicitDefEqProofs only[go_sem,↓reduceIte,f0,f1,f13,f14,f5,YJ];obtain rfl:i=l.length:=by omega
   rw[List.take_length,hlen,List.take_length]at zr
   congr 1
   rw[decide_eq_decide,←zr];omega
 ·have dF:¬(l.length:Int)=k.length:=by omega
  simp +contextual -implicitDefEqProofs only[go_sem,↓reduceIte,dF]
  congr 1
  simp;intro e;rw[e]at hlen;exact hlen rfl
def TC (c r u:Int):List Value:=[.int .i64 c,.int .i64 r,.int .i64 u]
def X0 (c r u:Int):Int:=if ¬(0≤c∧c≤7)∨¬(0≤r∧r≤7)∨¬(0≤u∧u≤1048576) then 2 else 0
theorem Kv (T:World) (h:Hp) (c r u:Int) :
  Zc Tryz.prog T 77 #[.agg (TC c r u).toArray] h fun v' h'=>v'=.int .i64 (X0 c r u)∧h'=h.push (.cells (TC c r u).toArray 121):=by
 refine Zc.Zk (args:=[_]) Tryz.func77 rfl rfl rfl rfl ?_;unfold TC;by_cases q0:0≤c∧c≤7
 ·
  by_cases q1:0≤r∧r≤7
  ·
   by_cases q2:0≤u∧u≤1048576
   ·
    repeat' (first|(refine (VW T _ _ _ _).pure ?_)|simp +contextual -implicitDefEqProofs only[go_sem,↓reduceIte, *])
    all_goals (first|rfl|(congr 1;unfold X0;(repeat' split)<;>omega))
   ·
    repeat' (first|(refine (VW T _ _ _ _).pure ?_)|simp +contextual -implicitDefEqProofs only[go_sem,↓reduceIte, *])
    all_goals (first|rfl|(congr 1;unfold X0;(repeat' split)<;>omega))
  ·
   repeat' (first|(refine (VW T _ _ _ _).pure ?_)|simp +contextual -implicitDefEqProofs only[go_sem,↓reduceIte, *])
   all_goals (first|rfl|(congr 1;unfold X0;(repeat' split)<;>omega))
 ·
  repeat' (first|(refine (VW T _ _ _ _).pure ?_)|simp +contextual -implicitDefEqProofs only[go_sem,↓reduceIte, *])
  all_goals (first|rfl|(congr 1;unfold X0;(repeat' split)<;>omega))
def Pf (cs:List Value) (i:Nat):Bool:=decide (ci cs i<0∨1073741824<ci cs i)
def Pg (cs:List Value) (i:Nat):Bool:=decide (ci cs (8+i)<0∨1048577<ci cs (8+i)∨(ci cs (8+i)=0∧¬(ci cs (16+i*2)=0∧ci cs (16+i*2+1)=0)))
def Xi (cs:List Value):Bool:=(List.range 8).any fun i=>Pf cs i||Pg cs i
theorem X7 {cs:List Value} (i:Nat) (hi:i<8) (hb:Pf cs i=true∨Pg cs i=true):Xi cs=true:=by
 unfold Xi;rw[List.any_eq_true];exact⟨i,List.mem_range.2 hi,by rcases hb with h|h<;>simp[h]⟩
theorem Oo {cs:List Value} (h1:∀i,i<8→Pf cs i=false) (h2:∀i,i<8→Pg cs i=false):Xi cs=false:=by
 unfold Xi;rw[List.any_eq_false];intro i hi;have:=List.mem_range.1 hi;simp[h1 i this,h2 i this]
theorem hO (T:World) (h:Hp) (cs:List Value) (hl:cs.length=40) (ve:∀i,i<32→nth cs i=some (.int .i64 (ci cs i))) :
  Zc Tryz.prog T 23 #[.agg cs.toArray] h fun v' h'=>v'=.int .i64 (if Xi cs=true then 5 else 0)∧h'=h.push (.cells cs.toArray 43):=by
 refine Zc.Zk (args:=[_]) Tryz.func23 rfl rfl rfl rfl ?_;simp +contextual -implicitDefEqProofs only[go_sem,↓reduceIte,hl];refine VS.ZW (fun F g=>g=h.push (.cells cs.toArray 43)∧F 1=.pointer (some ⟨h.size,0,none⟩)∧F 2=.int .i64 0∧F 8=.agg (cs.take 8).toArray∧∃i:Nat,i≤8∧F 9=.int .i64 i∧∀j,j<i→Pf cs j=false)
  (fun F _=>8-(vi (F 9)).toNat) rfl ⟨rfl,rfl,rfl,rfl,0,by omega,rfl,fun j hj=>by omega⟩ ?_
 rintro F g ⟨rfl,f1,f2,f8,i,hi,f9,hb⟩;by_cases ZD:i<8
 ·have ZL:(i:Int)<8:=by omega
  have e1:=ve i (by omega);by_cases c1:ci cs i<0
  ·have Nu:=X7 (cs:=cs) i ZD (.inl (by simp[Pf,c1]));simp +contextual -implicitDefEqProofs only[go_sem,↓reduceIte,f1,f2,f8,f9,ZL,e1,c1,Nu]
  ·by_cases c2:1073741824<ci cs i
   ·have Nu:=X7 (cs:=cs) i ZD (.inl (by simp[Pf,c2]));simp +contextual -implicitDefEqProofs only[go_sem,↓reduceIte,f1,f2,f8,f9,ZL,e1,c1,c2,Nu]
   ·simp +contextual -implicitDefEqProofs only[go_sem,↓reduceIte,f1,f2,f8,f9,ZL,e1,c1,c2];refine⟨⟨rfl,f1,f2,f8,i+1,ZD,rfl,fun j hj=>?_⟩,?_⟩
    ·by_cases WO:j=i
     ·subst WO;simp[Pf];omega
     ·exact hb j (by omega)
    ·simp only[vi,Zi,↓reduceIte,f9];omega
 ·have YJ:¬(i:Int)<8:=by omega
  obtain rfl:i=8:=by omega
  simp +contextual -implicitDefEqProofs only[go_sem,↓reduceIte,f1,f2,f8,f9,YJ,hl];refine VS.ZW (fun F g=>g=h.push (.cells cs.toArray 43)∧F 1=.pointer (some ⟨h.size,0,none⟩)∧F 2=.int .i64 0∧F 20=.agg ((cs.drop 8).take 8).toArray∧∃i:Nat,i≤8∧F 21=.int .i64 i∧∀j,j<i→Pg cs j=false)
   (fun F _=>8-(vi (F 21)).toNat) rfl ⟨rfl,f1,f2,rfl,0,by omega,rfl,fun j hj=>by omega⟩ ?_
  clear f1 f2 f8 f9 F;rintro F g ⟨rfl,f1,f2,f20,i,hi,f21,Lr⟩;by_cases ZD:i<8
  ·have ZL:(i:Int)<8:=by omega
   have e1:=ve (8+i) (by omega);have e2:=E6 (ve (16+i*2) (by omega)) (ve (16+i*2+1) (by omega));have Zfn:Pg cs i=false→∀j,j<i+1→Pg cs j=false:=fun h j hj=>by
    by_cases WO:j=i
    ·subst WO;exact h
    ·exact Lr j (by omega)
   by_cases c1:ci cs (8+i)<0
   ·have Nu:=X7 (cs:=cs) i ZD (.inr (by simp[Pg,c1]));simp +contextual -implicitDefEqProofs only[go_sem,↓reduceIte,f1,f2,f20,f21,ZL,e1,c1,Nu]
   ·by_cases c2:1048577<ci cs (8+i)
    ·have Nu:=X7 (cs:=cs) i ZD (.inr (by simp[Pg,c2]));simp +contextual -implicitDefEqProofs only[go_sem,↓reduceIte,f1,f2,f20,f21,ZL,e1,c1,c2,Nu]
    ·by_cases c3:ci cs (8+i)=0
     ·by_cases c4:ci cs (16+i*2)=0
      ·by_cases c5:ci cs (16+i*2+1)=0
       ·simp +contextual -implicitDefEqProofs only[go_sem,↓reduceIte,f1,f2,f20,f21,ZL,e1,c1,c2,c3,e2,c4,c5,hl];refine⟨⟨rfl,f1,f2,f20,i+1,ZD,rfl,Zfn (by simp[Pg,c3,c4,c5])⟩,?_⟩;simp only[vi,Zi,↓reduceIte,f21];omega
       ·have Nu:=X7 (cs:=cs) i ZD (.inr (by simp[Pg,c3,c5]));simp +contextual -implicitDefEqProofs only[go_sem,↓reduceIte,f1,f2,f20,f21,ZL,e1,c1,c2,c3,e2,c4,c5,hl,Nu]
      ·have Nu:=X7 (cs:=cs) i ZD (.inr (by simp[Pg,c3,c4]));simp +contextual -implicitDefEqProofs only[go_sem,↓reduceIte,f1,f2,f20,f21,ZL,e1,c1,c2,c3,e2,c4,hl,Nu]
     ·simp +contextual -implicitDefEqProofs only[go_sem,↓reduceIte,f1,f2,f20,f21,ZL,e1,c1,c2,c3];refine⟨⟨rfl,f1,f2,f20,i+1,ZD,rfl,Zfn (by simp[Pg];omega)⟩,?_⟩;simp only[vi,Zi,↓reduceIte,f21];omega
  ·have YJ:¬(i:Int)<8:=by omega
   obtain rfl:i=8:=by omega
   have Nu:=Oo hb Lr;simp +contextual -implicitDefEqProofs only[go_sem,↓reduceIte,f1,f2,f20,f21,YJ,Nu]
end Go.Proofs.YtboeoomhjbcecaaGreatDoor
