/- Small functions that many laws reach: what each computes; no condition but those in its own statement. -/
import Derived.Test.YtkfhncfkagcamaaGreatDoorTy
namespace Go.Proofs.YtkfhncfkagcamaaGreatDoor
open Go Go.V
set_option linter.unusedSimpArgs false
set_option linter.unusedVariables false
set_option maxRecDepth 100000
attribute [go_sem] Nat.reduceEqDiff Nat.reduceAdd Nat.reduceMul Nat.reduceLeDiff Nat.reduceLT Nat.reduceSub IntWalk.iteOmega IntWalk.toNatUp reduceCtorEq false_and and_false false_or or_false true_or or_true not_true_eq_false not_false_eq_true Bool.not_true Bool.not_false Bool.and_true Bool.true_and Bool.and_false Bool.false_and Bool.not_eq_true beq_self_eq_true Nat.add_zero Int.reduceLE Int.reduceLT Int.reduceToNat Int.reduceNeg
theorem Vs (T:World) (h:Hp) (a b c:Int):Zd Tryz.prog T 72 #[.int .i64 a,.int .i64 b,.int .i64 c] h fun v' h'=>v'=.bool (decide (b≤a∧a≤c))∧h'=h:=by
 refine Zd.Zi (args:=[_,_,_]) Tryz.func72 rfl rfl rfl rfl ?_
 by_cases h1:b≤a
 ·by_cases h2:a≤c
  ·simp +contextual -implicitDefEqProofs only[go_sem,↓reduceIte,h1,h2]
  ·simp +contextual -implicitDefEqProofs only[go_sem,↓reduceIte,h1,h2]
 ·simp +contextual -implicitDefEqProofs only[go_sem,↓reduceIte,h1]
def Qi (k c s n v:Int):List Value:=[.int .i64 k,.int .i64 c,.int .i64 s,.int .i64 n,.int .i64 v]
def YI (k c s n v:Int):Int:=
 if ¬(0≤k∧k≤3) then 4 else
 if k=0 then (if c≠0∨s≠0∨n≠0∨v≠0 then 3 else 0) else
 if ¬(0≤c∧c≤7)∨¬(0≤s∧s≤1048576)∨¬(0≤n∧n≤7)∨¬(0≤v∧v≤1073741824) then 2 else
 if 1<k∧v≠0 then 3 else 0
theorem JX (T:World) (h:Hp) (k c s n v:Int) :
  Zd Tryz.prog T 55 #[.agg (Qi k c s n v).toArray] h fun v' h'=>v'=.int .i64 (YI k c s n v)∧h'=h.push (.cells (Qi k c s n v).toArray 47):=by
 refine Zd.Zi (args:=[_]) Tryz.func55 rfl rfl rfl rfl ?_
 unfold Qi
 simp +contextual -implicitDefEqProofs only[go_sem,↓reduceIte]
 repeat' (first|(refine (Vs T _ _ _ _).pure ?_)|simp +contextual -implicitDefEqProofs only[go_sem,↓reduceIte]|split)
 all_goals congr 1
 all_goals (try simp only[Bool.not_eq_true',Bool.and_eq_false_iff,decide_eq_false_iff_not,Bool.not_eq_false',Bool.and_eq_true,decide_eq_true_eq,Bool.not_eq_true,Bool.not_eq_false,Bool.or_eq_true,not_and,not_or,bne_iff_ne,ne_eq]at *)
 all_goals unfold YI
 all_goals (repeat' split)
 all_goals (first|omega|trace_state)
theorem Gz (T:World) (h:Hp) (v u:Value) (l k:List Nat) (s:Bs h v l) (t:Bs h u k) (hl:l.length≤140737488355328) :
  Zd Tryz.prog T 51 #[v,u] h fun v' h'=>v'=.bool (decide (l=k))∧h'=h:=by
 obtain⟨p,c,rfl,UA⟩:=s.open
 obtain⟨q,d,rfl,I4⟩:=t.open
 refine Zd.Zi (args:=[_,_]) Tryz.func51 rfl rfl rfl rfl ?_
 by_cases hlen:l.length=k.length
 ·have bV:(l.length:Int)=k.length:=by omega
  simp +contextual -implicitDefEqProofs only[go_sem,↓reduceIte,bV]
  refine VS.ZU (fun F g=>g=h∧F 0=.slice p l.length c∧F 1=.slice q k.length d∧F 13=.int .i64 l.length∧∃i x:Nat,i≤l.length∧x<256∧F 14=.int .i64 i∧F 5=.int .u8 x∧(x=0↔l.take i=k.take i))
   (fun F _=>l.length-(vi (F 14)).toNat) rfl ⟨rfl,rfl,rfl,by rw[bV];rfl,0,0,by omega,by omega,rfl,rfl,by simp⟩ ?_
  rintro F g ⟨rfl,f0,f1,f13,i,x,hi,hx,f14,f5,jm⟩
  by_cases ZA:i<l.length
  ·have ZH:(i:Int)<l.length:=by omega
   have sK:i<k.length:=by omega
   obtain⟨b1,o1,rfl,Iq,g1⟩:=UA (by intro e;subst e;simp at ZA)
   obtain⟨b2,o2,rfl,Ie,g2⟩:=I4 (by intro e;subst e;simp at sK)
   have g1i:=g1 i ZA
   have g2i:=g2 i sK
   have y1:=s.byte _ (List.getElem_mem ZA)
   have y2:=t.byte _ (List.getElem_mem sK)
   simp +contextual -implicitDefEqProofs only[go_sem,↓reduceIte,f0,f1,f13,f14,f5,ZH]
   refine VS.q mixed (by kernel_rfl) ?_
   simp +contextual -implicitDefEqProofs only[go_sem,↓reduceIte,f0,f1,f13,f14,f5,g1i,g2i]
   have e1:=Gd l[i] k[i] y1 y2
   have e2:l[i] ^^^ k[i]<256:=Nat.xor_lt_two_pow (n:=8) y1 y2
   have e3:=ZcA x (l[i] ^^^ k[i]) hx e2
   rw[e1,e3]
   refine⟨⟨rfl,f0,f1,f13,i+1,x ||| (l[i] ^^^ k[i]),ZA,Nat.or_lt_two_pow (n:=8) hx e2,rfl,rfl,?_⟩,?_⟩
   ·rw[Z9 l i ZA,Z9 k i sK,Ed,Gf,jm]
    constructor
    ·rintro⟨a,b⟩;rw[a,b]
    ·intro a
     have a2:=List.append_inj' a rfl
     exact⟨a2.1,by simpa using a2.2⟩
   ·simp only[vi,Zh,↓reduceIte,f14];omega
  ·have YE:¬(i:Int)<l.length:=by omega
   simp +contextual -implicitDefEqProofs only[go_sem,↓reduceIte,f0,f1,f13,f14,f5,YE]
   obtain rfl:i=l.length:=by omega
   rw[List.take_length,hlen,List.take_length]at jm
   congr 1
   rw[decide_eq_decide,←jm]
   omega
 ·have bV:¬(l.length:Int)=k.length:=by omega
  simp +contextual -implicitDefEqProofs only[go_sem,↓reduceIte,bV]
  congr 1
  simp;intro e;rw[e]at hlen;exact hlen rfl
def VY (c r u:Int):List Value:=[.int .i64 c,.int .i64 r,.int .i64 u]
def XC (c r u:Int):Int:=if ¬(0≤c∧c≤7)∨¬(0≤r∧r≤7)∨¬(0≤u∧u≤1048576) then 2 else 0
theorem Lz (T:World) (h:Hp) (c r u:Int) :
  Zd Tryz.prog T 53 #[.agg (VY c r u).toArray] h fun v' h'=>v'=.int .i64 (XC c r u)∧h'=h.push (.cells (VY c r u).toArray 75):=by
 refine Zd.Zi (args:=[_]) Tryz.func53 rfl rfl rfl rfl ?_
 unfold VY
 by_cases q0:0≤c∧c≤7
 ·
  by_cases q1:0≤r∧r≤7
  ·
   by_cases q2:0≤u∧u≤1048576
   ·
    repeat' (first|(refine (Vs T _ _ _ _).pure ?_)|simp +contextual -implicitDefEqProofs only[go_sem,↓reduceIte, *])
    all_goals (first|rfl|(congr 1;unfold XC;(repeat' split)<;>omega))
   ·
    repeat' (first|(refine (Vs T _ _ _ _).pure ?_)|simp +contextual -implicitDefEqProofs only[go_sem,↓reduceIte, *])
    all_goals (first|rfl|(congr 1;unfold XC;(repeat' split)<;>omega))
  ·
   repeat' (first|(refine (Vs T _ _ _ _).pure ?_)|simp +contextual -implicitDefEqProofs only[go_sem,↓reduceIte, *])
   all_goals (first|rfl|(congr 1;unfold XC;(repeat' split)<;>omega))
 ·
  repeat' (first|(refine (Vs T _ _ _ _).pure ?_)|simp +contextual -implicitDefEqProofs only[go_sem,↓reduceIte, *])
  all_goals (first|rfl|(congr 1;unfold XC;(repeat' split)<;>omega))
def BS (cs:List Value) (i:Nat):Bool:=decide (ci cs i<0∨1073741824<ci cs i)
def Ml (cs:List Value) (i:Nat):Bool:=decide (ci cs (8+i)<0∨1048577<ci cs (8+i)∨(ci cs (8+i)=0∧¬(ci cs (16+i*2)=0∧ci cs (16+i*2+1)=0)))
def Qr (cs:List Value):Bool:=(List.range 8).any fun i=>BS cs i||Ml cs i
theorem Qb {cs:List Value} (i:Nat) (hi:i<8) (hb:BS cs i=true∨Ml cs i=true):Qr cs=true:=by
 unfold Qr
 rw[List.any_eq_true]
 exact⟨i,List.mem_range.2 hi,by rcases hb with h|h<;>simp[h]⟩
theorem GA {cs:List Value} (h1:∀i,i<8→BS cs i=false) (h2:∀i,i<8→Ml cs i=false):Qr cs=false:=by
 unfold Qr
 rw[List.any_eq_false]
 intro i hi
 have:=List.mem_range.1 hi
 simp[h1 i this,h2 i this]
theorem fy (T:World) (h:Hp) (cs:List Value) (hl:cs.length=40) (sL:∀i,i<32→nth cs i=some (.int .i64 (ci cs i))) :
  Zd Tryz.prog T 60 #[.agg cs.toArray] h fun v' h'=>v'=.int .i64 (if Qr cs=true then 5 else 0)∧h'=h.push (.cells cs.toArray 61):=by
 refine Zd.Zi (args:=[_]) Tryz.func60 rfl rfl rfl rfl ?_
 simp +contextual -implicitDefEqProofs only[go_sem,↓reduceIte,hl]
 refine VS.ZU (fun F g=>g=h.push (.cells cs.toArray 61)∧F 1=.pointer (some ⟨h.size,0,none⟩)∧F 2=.int .i64 0∧F 8=.agg (cs.take 8).toArray∧∃i:Nat,i≤8∧F 9=.int .i64 i∧∀j,j<i→BS cs j=false)
  (fun F _=>8-(vi (F 9)).toNat) rfl ⟨rfl,rfl,rfl,rfl,0,by omega,rfl,fun j hj=>by omega⟩ ?_
 rintro F g ⟨rfl,f1,f2,f8,i,hi,f9,hb⟩
 by_cases ZA:i<8
 ·have ZH:(i:Int)<8:=by omega
  have e1:=sL i (by omega)
  by_cases c1:ci cs i<0
  ·have OE:=Qb (cs:=cs) i ZA (.inl (by simp[BS,c1]))
   simp +contextual -implicitDefEqProofs only[go_sem,↓reduceIte,f1,f2,f8,f9,ZH,e1,c1,OE]
  ·by_cases c2:1073741824<ci cs i
   ·have OE:=Qb (cs:=cs) i ZA (.inl (by simp[BS,c2]))
    simp +contextual -implicitDefEqProofs only[go_sem,↓reduceIte,f1,f2,f8,f9,ZH,e1,c1,c2,OE]
   ·simp +contextual -implicitDefEqProofs only[go_sem,↓reduceIte,f1,f2,f8,f9,ZH,e1,c1,c2]
    refine⟨⟨rfl,f1,f2,f8,i+1,ZA,rfl,fun j hj=>?_⟩,?_⟩
    ·by_cases Wn:j=i
     ·subst Wn;simp[BS];omega
     ·exact hb j (by omega)
    ·simp only[vi,Zh,↓reduceIte,f9];omega
 ·have YE:¬(i:Int)<8:=by omega
  obtain rfl:i=8:=by omega
  simp +contextual -implicitDefEqProofs only[go_sem,↓reduceIte,f1,f2,f8,f9,YE,hl]
  refine VS.ZU (fun F g=>g=h.push (.cells cs.toArray 61)∧F 1=.pointer (some ⟨h.size,0,none⟩)∧F 2=.int .i64 0∧F 20=.agg ((cs.drop 8).take 8).toArray∧∃i:Nat,i≤8∧F 21=.int .i64 i∧∀j,j<i→Ml cs j=false)
   (fun F _=>8-(vi (F 21)).toNat) rfl ⟨rfl,f1,f2,rfl,0,by omega,rfl,fun j hj=>by omega⟩ ?_
  clear f1 f2 f8 f9 F
  rintro F g ⟨rfl,f1,f2,f20,i,hi,f21,Ie⟩
  by_cases ZA:i<8
  ·have ZH:(i:Int)<8:=by omega
   have e1:=sL (8+i) (by omega)
   have e2:=Ef (sL (16+i*2) (by omega)) (sL (16+i*2+1) (by omega))
   have ZdQ:Ml cs i=false→∀j,j<i+1→Ml cs j=false:=fun h j hj=>by
    by_cases Wn:j=i
    ·subst Wn;exact h
    ·exact Ie j (by omega)
   by_cases c1:ci cs (8+i)<0
   ·have OE:=Qb (cs:=cs) i ZA (.inr (by simp[Ml,c1]))
    simp +contextual -implicitDefEqProofs only[go_sem,↓reduceIte,f1,f2,f20,f21,ZH,e1,c1,OE]
   ·by_cases c2:1048577<ci cs (8+i)
    ·have OE:=Qb (cs:=cs) i ZA (.inr (by simp[Ml,c2]))
     simp +contextual -implicitDefEqProofs only[go_sem,↓reduceIte,f1,f2,f20,f21,ZH,e1,c1,c2,OE]
    ·by_cases c3:ci cs (8+i)=0
     ·by_cases c4:ci cs (16+i*2)=0
      ·by_cases c5:ci cs (16+i*2+1)=0
       ·simp +contextual -implicitDefEqProofs only[go_sem,↓reduceIte,f1,f2,f20,f21,ZH,e1,c1,c2,c3,e2,c4,c5,hl]
        refine⟨⟨rfl,f1,f2,f20,i+1,ZA,rfl,ZdQ (by simp[Ml,c3,c4,c5])⟩,?_⟩
        simp only[vi,Zh,↓reduceIte,f21];omega
       ·have OE:=Qb (cs:=cs) i ZA (.inr (by simp[Ml,c3,c5]))
        simp +contextual -implicitDefEqProofs only[go_sem,↓reduceIte,f1,f2,f20,f21,ZH,e1,c1,c2,c3,e2,c4,c5,hl,OE]
      ·have OE:=Qb (cs:=cs) i ZA (.inr (by simp[Ml,c3,c4]))
       simp +contextual -implicitDefEqProofs only[go_sem,↓reduceIte,f1,f2,f20,f21,ZH,e1,c1,c2,c3,e2,c4,hl,OE]
     ·simp +contextual -implicitDefEqProofs only[go_sem,↓reduceIte,f1,f2,f20,f21,ZH,e1,c1,c2,c3]
      refine⟨⟨rfl,f1,f2,f20,i+1,ZA,rfl,ZdQ (by simp[Ml];omega)⟩,?_⟩
      simp only[vi,Zh,↓reduceIte,f21];omega
  ·have YE:¬(i:Int)<8:=by omega
   obtain rfl:i=8:=by omega
   have OE:=GA hb Ie
   simp +contextual -implicitDefEqProofs only[go_sem,↓reduceIte,f1,f2,f20,f21,YE,OE]
end Go.Proofs.YtkfhncfkagcamaaGreatDoor
