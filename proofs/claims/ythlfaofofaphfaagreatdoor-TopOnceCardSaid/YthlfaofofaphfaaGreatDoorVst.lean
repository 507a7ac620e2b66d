/- Part Vst. -/
import Derived.Test.YthlfaofofaphfaaGreatDoorTy
open Go.Value renaming int→o
open Go.IntKind renaming i64→m
open Go.Obj renaming cells→A
open Go.Proofs.Tryz renaming prog→D
open List renaming length→y,getElem_mem→E,take_length→G,mem_range→H
open Go renaming Value→B
namespace Go.Proofs.YthlfaofofaphfaaGreatDoor
open Go Go.V
set_option linter.unusedSimpArgs false
set_option linter.unusedVariables false
set_option maxRecDepth 100000
attribute [go_sem] Nat.reduceEqDiff Nat.reduceAdd Nat.reduceMul Nat.reduceLeDiff Nat.reduceLT Nat.reduceSub IntWalk.iteOmega IntWalk.toNatUp reduceCtorEq false_and and_false false_or or_false true_or or_true not_true_eq_false not_false_eq_true Bool.not_true Bool.not_false Bool.and_true Bool.true_and Bool.and_false Bool.false_and Bool.not_eq_true beq_self_eq_true Nat.add_zero Int.reduceLE Int.reduceLT Int.reduceToNat Int.reduceNeg
theorem Rl(T:World)(h:Hp)(a b c:Int):Zd D T 42 #[o m a,o m b,o m c] h fun v' h'=>v'=.bool (decide (b<=a/\a<=c))/\h'=h:=by
 refine Zd.XS [_,_,_] Tryz.func42 ?_;by_cases h1:b<=a
 .by_cases h2:a<=c
  .simp +contextual -implicitDefEqProofs only[go_sem,h1,h2]
  .simp +contextual -implicitDefEqProofs only[go_sem,h1,h2]
 .simp +contextual -implicitDefEqProofs only[go_sem,h1]
def Ua(k c s n v:Int):List B:=[o m k,o m c,o m s,o m n,o m v]
def YC(k c s n v:Int):Int:=
 if ¬(0<=k/\k<=3) then 4 else
 if k=0 then (if c≠0\/s≠0\/n≠0\/v≠0 then 3 else 0) else
 if ¬(0<=c/\c<=7)\/¬(0<=s/\s<=1048576)\/¬(0<=n/\n<=7)\/¬(0<=v/\v<=1073741824) then 2 else
 if 1<k/\v≠0 then 3 else 0
theorem UG(T:World)(h:Hp)(k c s n v:Int):
  Zd D T 28 #[.agg (Ua k c s n v).toArray] h fun v' h'=>v'=o m (YC k c s n v)/\h'=h.push (A (Ua k c s n v).toArray 25):=by
 refine Zd.XS [_] Tryz.func28 ?_;unfold Ua;simp +contextual -implicitDefEqProofs only[go_sem]
 repeat' (first|(refine (Rl T _ _ _ _).pure ?_)|simp +contextual -implicitDefEqProofs only[go_sem]|split)
 all_goals congr 1
 all_goals (try simp only[Bool.not_eq_true',Bool.and_eq_false_iff,decide_eq_false_iff_not,Bool.not_eq_false',Bool.and_eq_true,decide_eq_true_eq,Bool.not_eq_true,Bool.not_eq_false,Bool.or_eq_true,not_and,not_or,bne_iff_ne,ne_eq]at *)
 all_goals unfold YC
 all_goals (repeat' split)
 all_goals (first|omega|trace_state)
theorem Bx(T:World)(h:Hp)(v u:B)(l k:List Nat)(s:Bs h v l)(t:Bs h u k)(hl:(y l)<=140737488355328):
  Zd D T 75 #[v,u] h fun v' h'=>v'=.bool (decide (l=k))/\h'=h:=by
 obtain⟨p,c,rfl,WB⟩:=s.open;obtain⟨q,d,rfl,EJ⟩:=t.open;refine Zd.XS [_,_] Tryz.func75 ?_;by_cases hlen:(y l)=(y k)
 .have mP:((y l):Int)=(y k):=pA;simp +contextual -implicitDefEqProofs only[go_sem,mP];refine VS.Yk (fun F g=>g=h/\F 0=.slice p (y l) c/\F 1=.slice q (y k) d/\F 13=o m (y l)/\∃i x:Nat,i<=(y l)/\x<256/\F 14=o m i/\F 5=o .u8 x/\(x=0↔l.take i=k.take i))
   (fun F _=>(y l)-(vi (F 14)).toNat) rfl ⟨rfl,rfl,rfl,by rw[mP];rfl,0,0,pA,pA,rfl,rfl,IQ⟩ ?_
  rintro F g ⟨rfl,f0,f1,f13,i,x,hi,hx,f14,f5,hxi⟩;by_cases ZT:i<(y l)
  .have Z7:(i:Int)<(y l):=pA;have Zc8:i<(y k):=pA;obtain⟨b1,o1,rfl,GO,g1⟩:=WB (by intro e;subst e;simp at ZT);obtain⟨b2,o2,rfl,Ga,g2⟩:=EJ (by intro e;subst e;simp at Zc8);have g1i:=g1 i ZT;have g2i:=g2 i Zc8;have y1:=s.byte _ (E ZT);have y2:=t.byte _ (E Zc8);simp +contextual -implicitDefEqProofs only[go_sem,f0,f1,f13,f14,f5,Z7];refine VS.q mixed vM ?_;simp +contextual -implicitDefEqProofs only[go_sem,f0,f1,f13,f14,f5,g1i,g2i];have e1:=Bd l[i] k[i] y1 y2;have e2:l[i] ^^^ k[i]<256:=Nat.xor_lt_two_pow (n:=8) y1 y2;have e3:=Zkj x (l[i] ^^^ k[i]) hx e2;rw[e1,e3];refine⟨⟨rfl,f0,f1,f13,i+1,x ||| (l[i] ^^^ k[i]),ZT,Nat.or_lt_two_pow (n:=8) hx e2,rfl,rfl,?_⟩,?_⟩
   .rw[Y8 l i ZT,Y8 k i Zc8,aC,Bf,hxi]
    constructor
    .rintro⟨a,b⟩;rw[a,b]
    .intro a;have a2:=List.append_inj' a rfl;exact⟨a2.1,by simpa using a2.2⟩
   .simp only[vi,Zr,↓reduceIte,f14];omega
  .have Xv:¬(i:Int)<(y l):=pA;simp +contextual -implicitDefEqProofs only[go_sem,f0,f1,f13,f14,f5,Xv];obtain rfl:i=(y l):=pA;rw[G,hlen,G]at hxi
   congr 1
   rw[decide_eq_decide,<-hxi];omega
 .have mP:¬((y l):Int)=(y k):=pA;simp +contextual -implicitDefEqProofs only[go_sem,mP]
  congr 1
  simp;intro e;rw[e]at hlen;exact hlen rfl
def PS(c r u:Int):List B:=[o m c,o m r,o m u]
def JP(c r u:Int):Int:=if ¬(0<=c/\c<=7)\/¬(0<=r/\r<=7)\/¬(0<=u/\u<=1048576) then 2 else 0
theorem G9(T:World)(h:Hp)(c r u:Int):
  Zd D T 24 #[.agg (PS c r u).toArray] h fun v' h'=>v'=o m (JP c r u)/\h'=h.push (A (PS c r u).toArray 33):=by
 refine Zd.XS [_] Tryz.func24 ?_;unfold PS;by_cases q0:0<=c/\c<=7
 ·
  by_cases q1:0<=r/\r<=7
  ·
   by_cases q2:0<=u/\u<=1048576
   ·
    repeat' (first|(refine (Rl T _ _ _ _).pure ?_)|simp +contextual -implicitDefEqProofs only[go_sem, *])
    all_goals (first|rfl|(congr 1;unfold JP;(repeat' split)<;>omega))
   ·
    repeat' (first|(refine (Rl T _ _ _ _).pure ?_)|simp +contextual -implicitDefEqProofs only[go_sem, *])
    all_goals (first|rfl|(congr 1;unfold JP;(repeat' split)<;>omega))
  ·
   repeat' (first|(refine (Rl T _ _ _ _).pure ?_)|simp +contextual -implicitDefEqProofs only[go_sem, *])
   all_goals (first|rfl|(congr 1;unfold JP;(repeat' split)<;>omega))
 ·
  repeat' (first|(refine (Rl T _ _ _ _).pure ?_)|simp +contextual -implicitDefEqProofs only[go_sem, *])
  all_goals (first|rfl|(congr 1;unfold JP;(repeat' split)<;>omega))
def Mx(cs:List B)(i:Nat):Bool:=decide (ci cs i<0\/1073741824<ci cs i)
def My(cs:List B)(i:Nat):Bool:=decide (ci cs (8+i)<0\/1048577<ci cs (8+i)\/(ci cs (8+i)=0/\¬(ci cs (16+i*2)=0/\ci cs (16+i*2+1)=0)))
def Xm(cs:List B):Bool:=(List.range 8).any fun i=>Mx cs i||My cs i
theorem Qt{cs:List B}(i:Nat)(hi:i<8)(hb:Mx cs i=true\/My cs i=true):Xm cs=true:=by
 unfold Xm;rw[List.any_eq_true];exact⟨i,H.2 hi,by rcases hb with h|h<;>simp[h]⟩
theorem Lx{cs:List B}(h1:∀i,i<8->Mx cs i=false)(h2:∀i,i<8->My cs i=false):Xm cs=false:=by
 unfold Xm;rw[List.any_eq_false];intro i hi;have:=H.1 hi;simp[h1 i this,h2 i this]
theorem qF(T:World)(h:Hp)(cs:List B)(hl:(y cs)=40)(Zc9:∀i,i<32->nth cs i=some (o m (ci cs i))):
  Zd D T 39 #[.agg cs.toArray] h fun v' h'=>v'=o m (if Xm cs=true then 5 else 0)/\h'=h.push (A cs.toArray 55):=by
 refine Zd.XS [_] Tryz.func39 ?_;simp +contextual -implicitDefEqProofs only[go_sem,hl];refine VS.Yk (fun F g=>g=h.push (A cs.toArray 55)/\F 1=.pointer (some ⟨h.size,0,none⟩)/\F 2=o m 0/\F 8=.agg (cs.take 8).toArray/\∃i:Nat,i<=8/\F 9=o m i/\∀j,j<i->Mx cs j=false)
  (fun F _=>8-(vi (F 9)).toNat) rfl ⟨rfl,rfl,rfl,rfl,0,pA,rfl,fun j hj=>by omega⟩ ?_
 rintro F g ⟨rfl,f1,f2,f8,i,hi,f9,hb⟩;by_cases ZT:i<8
 .have Z7:(i:Int)<8:=pA;have e1:=Zc9 i pA;by_cases c1:ci cs i<0
  .have KK:=Qt (cs:=cs) i ZT (.inl (by simp[Mx,c1]));simp +contextual -implicitDefEqProofs only[go_sem,f1,f2,f8,f9,Z7,e1,c1,KK]
  .by_cases c2:1073741824<ci cs i
   .have KK:=Qt (cs:=cs) i ZT (.inl (by simp[Mx,c2]));simp +contextual -implicitDefEqProofs only[go_sem,f1,f2,f8,f9,Z7,e1,c1,c2,KK]
   .simp +contextual -implicitDefEqProofs only[go_sem,f1,f2,f8,f9,Z7,e1,c1,c2];refine⟨⟨rfl,f1,f2,f8,i+1,ZT,rfl,fun j hj=>?_⟩,?_⟩
    .by_cases Sd:j=i
     .subst Sd;simp[Mx];omega
     .exact hb j pA
    .simp only[vi,Zr,↓reduceIte,f9];omega
 .have Xv:¬(i:Int)<8:=pA;obtain rfl:i=8:=pA;simp +contextual -implicitDefEqProofs only[go_sem,f1,f2,f8,f9,Xv,hl];refine VS.Yk (fun F g=>g=h.push (A cs.toArray 55)/\F 1=.pointer (some ⟨h.size,0,none⟩)/\F 2=o m 0/\F 20=.agg ((cs.drop 8).take 8).toArray/\∃i:Nat,i<=8/\F 21=o m i/\∀j,j<i->My cs j=false)
   (fun F _=>8-(vi (F 21)).toNat) rfl ⟨rfl,f1,f2,rfl,0,pA,rfl,fun j hj=>by omega⟩ ?_
  clear f1 f2 f8 f9 F;rintro F g ⟨rfl,f1,f2,f20,i,hi,f21,Ga⟩;by_cases ZT:i<8
  .have Z7:(i:Int)<8:=pA;have e1:=Zc9 (8+i) pA;have e2:=aG (Zc9 (16+i*2) pA) (Zc9 (16+i*2+1) pA);have Zlt:My cs i=false->∀j,j<i+1->My cs j=false:=fun h j hj=>by
    by_cases Sd:j=i
    .subst Sd;exact h
    .exact Ga j pA
   by_cases c1:ci cs (8+i)<0
   .have KK:=Qt (cs:=cs) i ZT (.inr (by simp[My,c1]));simp +contextual -implicitDefEqProofs only[go_sem,f1,f2,f20,f21,Z7,e1,c1,KK]
   .by_cases c2:1048577<ci cs (8+i)
    .have KK:=Qt (cs:=cs) i ZT (.inr (by simp[My,c2]));simp +contextual -implicitDefEqProofs only[go_sem,f1,f2,f20,f21,Z7,e1,c1,c2,KK]
    .by_cases c3:ci cs (8+i)=0
     .by_cases c4:ci cs (16+i*2)=0
      .by_cases c5:ci cs (16+i*2+1)=0
       .simp +contextual -implicitDefEqProofs only[go_sem,f1,f2,f20,f21,Z7,e1,c1,c2,c3,e2,c4,c5,hl];refine⟨⟨rfl,f1,f2,f20,i+1,ZT,rfl,Zlt (by simp[My,c3,c4,c5])⟩,?_⟩;simp only[vi,Zr,↓reduceIte,f21];omega
       .have KK:=Qt (cs:=cs) i ZT (.inr (by simp[My,c3,c5]));simp +contextual -implicitDefEqProofs only[go_sem,f1,f2,f20,f21,Z7,e1,c1,c2,c3,e2,c4,c5,hl,KK]
      .have KK:=Qt (cs:=cs) i ZT (.inr (by simp[My,c3,c4]));simp +contextual -implicitDefEqProofs only[go_sem,f1,f2,f20,f21,Z7,e1,c1,c2,c3,e2,c4,hl,KK]
     .simp +contextual -implicitDefEqProofs only[go_sem,f1,f2,f20,f21,Z7,e1,c1,c2,c3];refine⟨⟨rfl,f1,f2,f20,i+1,ZT,rfl,Zlt (by simp[My];omega)⟩,?_⟩;simp only[vi,Zr,↓reduceIte,f21];omega
  .have Xv:¬(i:Int)<8:=pA;obtain rfl:i=8:=pA;have KK:=Lx hb Ga;simp +contextual -implicitDefEqProofs only[go_sem,f1,f2,f20,f21,Xv,KK]
end Go.Proofs.YthlfaofofaphfaaGreatDoor
