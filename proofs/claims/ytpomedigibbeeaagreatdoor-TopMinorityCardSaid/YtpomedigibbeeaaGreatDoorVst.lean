/- Small functions that many laws reach: what each computes; no condition but those in its own statement. -/
import Derived.Test.YtpomedigibbeeaaGreatDoorTy
namespace Go.Proofs.YtpomedigibbeeaaGreatDoor
open Go Go.V
set_option linter.unusedSimpArgs false
set_option linter.unusedVariables false
set_option maxRecDepth 100000
attribute [go_sem] Nat.reduceEqDiff Nat.reduceAdd Nat.reduceMul Nat.reduceLeDiff Nat.reduceLT Nat.reduceSub IntWalk.iteOmega IntWalk.toNatUp reduceCtorEq false_and and_false false_or or_false true_or or_true not_true_eq_false not_false_eq_true Bool.not_true Bool.not_false Bool.and_true Bool.true_and Bool.and_false Bool.false_and Bool.not_eq_true beq_self_eq_true Nat.add_zero Int.reduceLE Int.reduceLT Int.reduceToNat Int.reduceNeg
theorem Vc (T:World) (h:Hp) (a b c:Int):Zc Tryz.prog T 69 #[.int .i64 a,.int .i64 b,.int .i64 c] h fun v' h'=>v'=.bool (decide (b≤a∧a≤c))∧h'=h:=by
 refine Zc.Zh (args:=[_,_,_]) Tryz.func69 rfl rfl rfl rfl ?_
 by_cases h1:b≤a
 ·by_cases h2:a≤c
  ·simp +contextual -implicitDefEqProofs only[go_sem,↓reduceIte,h1,h2]
  ·simp +contextual -implicitDefEqProofs only[go_sem,↓reduceIte,h1,h2]
 ·simp +contextual -implicitDefEqProofs only[go_sem,↓reduceIte,h1]
def Qb (k c s n v:Int):List Value:=[.int .i64 k,.int .i64 c,.int .i64 s,.int .i64 n,.int .i64 v]
def YJ (k c s n v:Int):Int:=
 if ¬(0≤k∧k≤3) then 4 else
 if k=0 then (if c≠0∨s≠0∨n≠0∨v≠0 then 3 else 0) else
 if ¬(0≤c∧c≤7)∨¬(0≤s∧s≤1048576)∨¬(0≤n∧n≤7)∨¬(0≤v∧v≤1073741824) then 2 else
 if 1<k∧v≠0 then 3 else 0
theorem JO (T:World) (h:Hp) (k c s n v:Int) :
  Zc Tryz.prog T 46 #[.agg (Qb k c s n v).toArray] h fun v' h'=>v'=.int .i64 (YJ k c s n v)∧h'=h.push (.cells (Qb k c s n v).toArray 49):=by
 refine Zc.Zh (args:=[_]) Tryz.func46 rfl rfl rfl rfl ?_
 unfold Qb
 simp +contextual -implicitDefEqProofs only[go_sem,↓reduceIte]
 repeat' (first|(refine (Vc T _ _ _ _).pure ?_)|simp +contextual -implicitDefEqProofs only[go_sem,↓reduceIte]|split)
 all_goals congr 1
 all_goals (try simp only[Bool.not_eq_true',Bool.and_eq_false_iff,decide_eq_false_iff_not,Bool.not_eq_false',Bool.and_eq_true,decide_eq_true_eq,Bool.not_eq_true,Bool.not_eq_false,Bool.or_eq_true,not_and,not_or,bne_iff_ne,ne_eq]at *)
 all_goals unfold YJ
 all_goals (repeat' split)
 all_goals (first|omega|trace_state)
theorem H5 (T:World) (h:Hp) (v u:Value) (l k:List Nat) (s:Bs h v l) (t:Bs h u k) (hl:l.length≤140737488355328) :
  Zc Tryz.prog T 42 #[v,u] h fun v' h'=>v'=.bool (decide (l=k))∧h'=h:=by
 obtain⟨p,c,rfl,Uo⟩:=s.open
 obtain⟨q,d,rfl,Ix⟩:=t.open
 refine Zc.Zh (args:=[_,_]) Tryz.func42 rfl rfl rfl rfl ?_
 by_cases hlen:l.length=k.length
 ·have au:(l.length:Int)=k.length:=by omega
  simp +contextual -implicitDefEqProofs only[go_sem,↓reduceIte,au]
  refine VS.ZV (fun F g=>g=h∧F 0=.slice p l.length c∧F 1=.slice q k.length d∧F 13=.int .i64 l.length∧∃i x:Nat,i≤l.length∧x<256∧F 14=.int .i64 i∧F 5=.int .u8 x∧(x=0↔l.take i=k.take i))
   (fun F _=>l.length-(vi (F 14)).toNat) rfl ⟨rfl,rfl,rfl,by rw[au];rfl,0,0,by omega,by omega,rfl,rfl,by simp⟩ ?_
  rintro F g ⟨rfl,f0,f1,f13,i,x,hi,hx,f14,f5,uD⟩
  by_cases ZA:i<l.length
  ·have ZI:(i:Int)<l.length:=by omega
   have qh:i<k.length:=by omega
   obtain⟨b1,o1,rfl,HE,g1⟩:=Uo (by intro e;subst e;simp at ZA)
   obtain⟨b2,o2,rfl,Io,g2⟩:=Ix (by intro e;subst e;simp at qh)
   have g1i:=g1 i ZA
   have g2i:=g2 i qh
   have y1:=s.byte _ (List.getElem_mem ZA)
   have y2:=t.byte _ (List.getElem_mem qh)
   simp +contextual -implicitDefEqProofs only[go_sem,↓reduceIte,f0,f1,f13,f14,f5,ZI]
   refine VS.q mixed (by kernel_rfl) ?_
   simp +contextual -implicitDefEqProofs only[go_sem,↓reduceIte,f0,f1,f13,f14,f5,g1i,g2i]
   have e1:=HF l[i] k[i] y1 y2
   have e2:l[i] ^^^ k[i]<256:=Nat.xor_lt_two_pow (n:=8) y1 y2
   have e3:=Zbm x (l[i] ^^^ k[i]) hx e2
   rw[e1,e3]
   refine⟨⟨rfl,f0,f1,f13,i+1,x ||| (l[i] ^^^ k[i]),ZA,Nat.or_lt_two_pow (n:=8) hx e2,rfl,rfl,?_⟩,?_⟩
   ·rw[Ye l i ZA,Ye k i qh,Fu,HH,uD]
    constructor
    ·rintro⟨a,b⟩;rw[a,b]
    ·intro a
     have a2:=List.append_inj' a rfl
     exact⟨a2.1,by simpa using a2.2⟩
   ·simp only[vi,Zj,↓reduceIte,f14];omega
  ·have YF:¬(i:Int)<l.length:=by omega
   simp +contextual -implicitDefEqProofs only[go_sem,↓reduceIte,f0,f1,f13,f14,f5,YF]
   obtain rfl:i=l.length:=by omega
   rw[List.take_length,hlen,List.take_length]at uD
   congr 1
   rw[decide_eq_decide,←uD]
   omega
 ·have au:¬(l.length:Int)=k.length:=by omega
  simp +contextual -implicitDefEqProofs only[go_sem,↓reduceIte,au]
  congr 1
  simp;intro e;rw[e]at hlen;exact hlen rfl
def VD (c r u:Int):List Value:=[.int .i64 c,.int .i64 r,.int .i64 u]
def XR (c r u:Int):Int:=if ¬(0≤c∧c≤7)∨¬(0≤r∧r≤7)∨¬(0≤u∧u≤1048576) then 2 else 0
theorem Li (T:World) (h:Hp) (c r u:Int) :
  Zc Tryz.prog T 44 #[.agg (VD c r u).toArray] h fun v' h'=>v'=.int .i64 (XR c r u)∧h'=h.push (.cells (VD c r u).toArray 79):=by
 refine Zc.Zh (args:=[_]) Tryz.func44 rfl rfl rfl rfl ?_
 unfold VD
 by_cases q0:0≤c∧c≤7
 ·
  by_cases q1:0≤r∧r≤7
  ·
   by_cases q2:0≤u∧u≤1048576
   ·
    repeat' (first|(refine (Vc T _ _ _ _).pure ?_)|simp +contextual -implicitDefEqProofs only[go_sem,↓reduceIte, *])
    all_goals (first|rfl|(congr 1;unfold XR;(repeat' split)<;>omega))
   ·
    repeat' (first|(refine (Vc T _ _ _ _).pure ?_)|simp +contextual -implicitDefEqProofs only[go_sem,↓reduceIte, *])
    all_goals (first|rfl|(congr 1;unfold XR;(repeat' split)<;>omega))
  ·
   repeat' (first|(refine (Vc T _ _ _ _).pure ?_)|simp +contextual -implicitDefEqProofs only[go_sem,↓reduceIte, *])
   all_goals (first|rfl|(congr 1;unfold XR;(repeat' split)<;>omega))
 ·
  repeat' (first|(refine (Vc T _ _ _ _).pure ?_)|simp +contextual -implicitDefEqProofs only[go_sem,↓reduceIte, *])
  all_goals (first|rfl|(congr 1;unfold XR;(repeat' split)<;>omega))
def C0 (cs:List Value) (i:Nat):Bool:=decide (ci cs i<0∨1073741824<ci cs i)
def NP (cs:List Value) (i:Nat):Bool:=decide (ci cs (8+i)<0∨1048577<ci cs (8+i)∨(ci cs (8+i)=0∧¬(ci cs (16+i*2)=0∧ci cs (16+i*2+1)=0)))
def Qj (cs:List Value):Bool:=(List.range 8).any fun i=>C0 cs i||NP cs i
theorem JX {cs:List Value} (i:Nat) (hi:i<8) (hb:C0 cs i=true∨NP cs i=true):Qj cs=true:=by
 unfold Qj
 rw[List.any_eq_true]
 exact⟨i,List.mem_range.2 hi,by rcases hb with h|h<;>simp[h]⟩
theorem H6 {cs:List Value} (h1:∀i,i<8→C0 cs i=false) (h2:∀i,i<8→NP cs i=false):Qj cs=false:=by
 unfold Qj
 rw[List.any_eq_false]
 intro i hi
 have:=List.mem_range.1 hi
 simp[h1 i this,h2 i this]
theorem dz (T:World) (h:Hp) (cs:List Value) (hl:cs.length=40) (qi:∀i,i<32→nth cs i=some (.int .i64 (ci cs i))) :
  Zc Tryz.prog T 47 #[.agg cs.toArray] h fun v' h'=>v'=.int .i64 (if Qj cs=true then 5 else 0)∧h'=h.push (.cells cs.toArray 62):=by
 refine Zc.Zh (args:=[_]) Tryz.func47 rfl rfl rfl rfl ?_
 simp +contextual -implicitDefEqProofs only[go_sem,↓reduceIte,hl]
 refine VS.ZV (fun F g=>g=h.push (.cells cs.toArray 62)∧F 1=.pointer (some ⟨h.size,0,none⟩)∧F 2=.int .i64 0∧F 8=.agg (cs.take 8).toArray∧∃i:Nat,i≤8∧F 9=.int .i64 i∧∀j,j<i→C0 cs j=false)
  (fun F _=>8-(vi (F 9)).toNat) rfl ⟨rfl,rfl,rfl,rfl,0,by omega,rfl,fun j hj=>by omega⟩ ?_
 rintro F g ⟨rfl,f1,f2,f8,i,hi,f9,hb⟩
 by_cases ZA:i<8
 ·have ZI:(i:Int)<8:=by omega
  have e1:=qi i (by omega)
  by_cases c1:ci cs i<0
  ·have Ok:=JX (cs:=cs) i ZA (.inl (by simp[C0,c1]))
   simp +contextual -implicitDefEqProofs only[go_sem,↓reduceIte,f1,f2,f8,f9,ZI,e1,c1,Ok]
  ·by_cases c2:1073741824<ci cs i
   ·have Ok:=JX (cs:=cs) i ZA (.inl (by simp[C0,c2]))
    simp +contextual -implicitDefEqProofs only[go_sem,↓reduceIte,f1,f2,f8,f9,ZI,e1,c1,c2,Ok]
   ·simp +contextual -implicitDefEqProofs only[go_sem,↓reduceIte,f1,f2,f8,f9,ZI,e1,c1,c2]
    refine⟨⟨rfl,f1,f2,f8,i+1,ZA,rfl,fun j hj=>?_⟩,?_⟩
    ·by_cases U8:j=i
     ·subst U8;simp[C0];omega
     ·exact hb j (by omega)
    ·simp only[vi,Zj,↓reduceIte,f9];omega
 ·have YF:¬(i:Int)<8:=by omega
  obtain rfl:i=8:=by omega
  simp +contextual -implicitDefEqProofs only[go_sem,↓reduceIte,f1,f2,f8,f9,YF,hl]
  refine VS.ZV (fun F g=>g=h.push (.cells cs.toArray 62)∧F 1=.pointer (some ⟨h.size,0,none⟩)∧F 2=.int .i64 0∧F 20=.agg ((cs.drop 8).take 8).toArray∧∃i:Nat,i≤8∧F 21=.int .i64 i∧∀j,j<i→NP cs j=false)
   (fun F _=>8-(vi (F 21)).toNat) rfl ⟨rfl,f1,f2,rfl,0,by omega,rfl,fun j hj=>by omega⟩ ?_
  clear f1 f2 f8 f9 F
  rintro F g ⟨rfl,f1,f2,f20,i,hi,f21,Io⟩
  by_cases ZA:i<8
  ·have ZI:(i:Int)<8:=by omega
   have e1:=qi (8+i) (by omega)
   have e2:=Fw (qi (16+i*2) (by omega)) (qi (16+i*2+1) (by omega))
   have Zcx:NP cs i=false→∀j,j<i+1→NP cs j=false:=fun h j hj=>by
    by_cases U8:j=i
    ·subst U8;exact h
    ·exact Io j (by omega)
   by_cases c1:ci cs (8+i)<0
   ·have Ok:=JX (cs:=cs) i ZA (.inr (by simp[NP,c1]))
    simp +contextual -implicitDefEqProofs only[go_sem,↓reduceIte,f1,f2,f20,f21,ZI,e1,c1,Ok]
   ·by_cases c2:1048577<ci cs (8+i)
    ·have Ok:=JX (cs:=cs) i ZA (.inr (by simp[NP,c2]))
     simp +contextual -implicitDefEqProofs only[go_sem,↓reduceIte,f1,f2,f20,f21,ZI,e1,c1,c2,Ok]
    ·by_cases c3:ci cs (8+i)=0
     ·by_cases c4:ci cs (16+i*2)=0
      ·by_cases c5:ci cs (16+i*2+1)=0
       ·simp +contextual -implicitDefEqProofs only[go_sem,↓reduceIte,f1,f2,f20,f21,ZI,e1,c1,c2,c3,e2,c4,c5,hl]
        refine⟨⟨rfl,f1,f2,f20,i+1,ZA,rfl,Zcx (by simp[NP,c3,c4,c5])⟩,?_⟩
        simp only[vi,Zj,↓reduceIte,f21];omega
       ·have Ok:=JX (cs:=cs) i ZA (.inr (by simp[NP,c3,c5]))
        simp +contextual -implicitDefEqProofs only[go_sem,↓reduceIte,f1,f2,f20,f21,ZI,e1,c1,c2,c3,e2,c4,c5,hl,Ok]
      ·have Ok:=JX (cs:=cs) i ZA (.inr (by simp[NP,c3,c4]))
       simp +contextual -implicitDefEqProofs only[go_sem,↓reduceIte,f1,f2,f20,f21,ZI,e1,c1,c2,c3,e2,c4,hl,Ok]
     ·simp +contextual -implicitDefEqProofs only[go_sem,↓reduceIte,f1,f2,f20,f21,ZI,e1,c1,c2,c3]
      refine⟨⟨rfl,f1,f2,f20,i+1,ZA,rfl,Zcx (by simp[NP];omega)⟩,?_⟩
      simp only[vi,Zj,↓reduceIte,f21];omega
  ·have YF:¬(i:Int)<8:=by omega
   obtain rfl:i=8:=by omega
   have Ok:=H6 hb Io
   simp +contextual -implicitDefEqProofs only[go_sem,↓reduceIte,f1,f2,f20,f21,YF,Ok]
end Go.Proofs.YtpomedigibbeeaaGreatDoor
