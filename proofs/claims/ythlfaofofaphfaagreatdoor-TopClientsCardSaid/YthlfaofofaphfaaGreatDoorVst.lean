/- Part Vst. -/
import Derived.Test.YthlfaofofaphfaaGreatDoorTy
open Go.Value renaming int→o
open Go.IntKind renaming i64→m
open Go.Obj renaming cells→A
open Go.Proofs.Tryz renaming prog→D
open List renaming length→y,getElem_mem→E,take_length→G,mem_range→H
open Go renaming Value→B
namespace Go.Proofs.YthlfaofofaphfaaGreatDoor
open Go Go.V
set_option linter.unusedSimpArgs false
set_option linter.unusedVariables false
set_option maxRecDepth 100000
attribute [go_sem] Nat.reduceEqDiff Nat.reduceAdd Nat.reduceMul Nat.reduceLeDiff Nat.reduceLT Nat.reduceSub IntWalk.iteOmega IntWalk.toNatUp reduceCtorEq false_and and_false false_or or_false true_or or_true not_true_eq_false not_false_eq_true Bool.not_true Bool.not_false Bool.and_true Bool.true_and Bool.and_false Bool.false_and Bool.not_eq_true beq_self_eq_true Nat.add_zero Int.reduceLE Int.reduceLT Int.reduceToNat Int.reduceNeg
theorem SV(T:World)(h:Hp)(a b c:Int):Zd D T 42 #[o m a,o m b,o m c] h fun v' h'=>v'=.bool (decide (b<=a/\a<=c))/\h'=h:=by
 refine Zd.XS [_,_,_] Tryz.func42 ?_;by_cases h1:b<=a
 .by_cases h2:a<=c
  .simp +contextual -implicitDefEqProofs only[go_sem,h1,h2]
  .simp +contextual -implicitDefEqProofs only[go_sem,h1,h2]
 .simp +contextual -implicitDefEqProofs only[go_sem,h1]
def QW(k c s n v:Int):List B:=[o m k,o m c,o m s,o m n,o m v]
def YE(k c s n v:Int):Int:=
 if ¬(0<=k/\k<=3) then 4 else
 if k=0 then (if c≠0\/s≠0\/n≠0\/v≠0 then 3 else 0) else
 if ¬(0<=c/\c<=7)\/¬(0<=s/\s<=1048576)\/¬(0<=n/\n<=7)\/¬(0<=v/\v<=1073741824) then 2 else
 if 1<k/\v≠0 then 3 else 0
theorem Uv(T:World)(h:Hp)(k c s n v:Int):
  Zd D T 28 #[.agg (QW k c s n v).toArray] h fun v' h'=>v'=o m (YE k c s n v)/\h'=h.push (A (QW k c s n v).toArray 25):=by
 refine Zd.XS [_] Tryz.func28 ?_;unfold QW;simp +contextual -implicitDefEqProofs only[go_sem]
 repeat' (first|(refine (SV T _ _ _ _).pure ?_)|simp +contextual -implicitDefEqProofs only[go_sem]|split)
 all_goals congr 1
 all_goals (try simp only[Bool.not_eq_true',Bool.and_eq_false_iff,decide_eq_false_iff_not,Bool.not_eq_false',Bool.and_eq_true,decide_eq_true_eq,Bool.not_eq_true,Bool.not_eq_false,Bool.or_eq_true,not_and,not_or,bne_iff_ne,ne_eq]at *)
 all_goals unfold YE
 all_goals (repeat' split)
 all_goals (first|omega|trace_state)
theorem CM(T:World)(h:Hp)(v u:B)(l k:List Nat)(s:Bs h v l)(t:Bs h u k)(hl:(y l)<=140737488355328):
  Zd D T 75 #[v,u] h fun v' h'=>v'=.bool (decide (l=k))/\h'=h:=by
 obtain⟨p,c,rfl,Wr⟩:=s.open;obtain⟨q,d,rfl,F9⟩:=t.open;refine Zd.XS [_,_] Tryz.func75 ?_;by_cases hlen:(y l)=(y k)
 .have kU:((y l):Int)=(y k):=nc;simp +contextual -implicitDefEqProofs only[go_sem,kU];refine VS.Yj (fun F g=>g=h/\F 0=.slice p (y l) c/\F 1=.slice q (y k) d/\F 13=o m (y l)/\∃i x:Nat,i<=(y l)/\x<256/\F 14=o m i/\F 5=o .u8 x/\(x=0↔l.take i=k.take i))
   (fun F _=>(y l)-(vi (F 14)).toNat) rfl ⟨rfl,rfl,rfl,by rw[kU];rfl,0,0,nc,nc,rfl,rfl,Hg⟩ ?_
  rintro F g ⟨rfl,f0,f1,f13,i,x,hi,hx,f14,f5,hxi⟩;by_cases ZU:i<(y l)
  .have Z8:(i:Int)<(y l):=nc;have Zb4:i<(y k):=nc;obtain⟨b1,o1,rfl,Gf,g1⟩:=Wr (by intro e;subst e;simp at ZU);obtain⟨b2,o2,rfl,Hr,g2⟩:=F9 (by intro e;subst e;simp at Zb4);have g1i:=g1 i ZU;have g2i:=g2 i Zb4;have y1:=s.byte _ (E ZU);have y2:=t.byte _ (E Zb4);simp +contextual -implicitDefEqProofs only[go_sem,f0,f1,f13,f14,f5,Z8];refine VS.q mixed uf ?_;simp +contextual -implicitDefEqProofs only[go_sem,f0,f1,f13,f14,f5,g1i,g2i];have e1:=Cp l[i] k[i] y1 y2;have e2:l[i] ^^^ k[i]<256:=Nat.xor_lt_two_pow (n:=8) y1 y2;have e3:=Zi8 x (l[i] ^^^ k[i]) hx e2;rw[e1,e3];refine⟨⟨rfl,f0,f1,f13,i+1,x ||| (l[i] ^^^ k[i]),ZU,Nat.or_lt_two_pow (n:=8) hx e2,rfl,rfl,?_⟩,?_⟩
   .rw[Y2 l i ZU,Y2 k i Zb4,AF,Cr,hxi]
    constructor
    .rintro⟨a,b⟩;rw[a,b]
    .intro a;have a2:=List.append_inj' a rfl;exact⟨a2.1,by simpa using a2.2⟩
   .simp only[vi,Zr,↓reduceIte,f14];omega
  .have Xp:¬(i:Int)<(y l):=nc;simp +contextual -implicitDefEqProofs only[go_sem,f0,f1,f13,f14,f5,Xp];obtain rfl:i=(y l):=nc;rw[G,hlen,G]at hxi
   congr 1
   rw[decide_eq_decide,<-hxi];omega
 .have kU:¬((y l):Int)=(y k):=nc;simp +contextual -implicitDefEqProofs only[go_sem,kU]
  congr 1
  simp;intro e;rw[e]at hlen;exact hlen rfl
def Pj(c r u:Int):List B:=[o m c,o m r,o m u]
def JG(c r u:Int):Int:=if ¬(0<=c/\c<=7)\/¬(0<=r/\r<=7)\/¬(0<=u/\u<=1048576) then 2 else 0
theorem Gu(T:World)(h:Hp)(c r u:Int):
  Zd D T 24 #[.agg (Pj c r u).toArray] h fun v' h'=>v'=o m (JG c r u)/\h'=h.push (A (Pj c r u).toArray 33):=by
 refine Zd.XS [_] Tryz.func24 ?_;unfold Pj;by_cases q0:0<=c/\c<=7
 ·
  by_cases q1:0<=r/\r<=7
  ·
   by_cases q2:0<=u/\u<=1048576
   ·
    repeat' (first|(refine (SV T _ _ _ _).pure ?_)|simp +contextual -implicitDefEqProofs only[go_sem, *])
    all_goals (first|rfl|(congr 1;unfold JG;(repeat' split)<;>omega))
   ·
    repeat' (first|(refine (SV T _ _ _ _).pure ?_)|simp +contextual -implicitDefEqProofs only[go_sem, *])
    all_goals (first|rfl|(congr 1;unfold JG;(repeat' split)<;>omega))
  ·
   repeat' (first|(refine (SV T _ _ _ _).pure ?_)|simp +contextual -implicitDefEqProofs only[go_sem, *])
   all_goals (first|rfl|(congr 1;unfold JG;(repeat' split)<;>omega))
 ·
  repeat' (first|(refine (SV T _ _ _ _).pure ?_)|simp +contextual -implicitDefEqProofs only[go_sem, *])
  all_goals (first|rfl|(congr 1;unfold JG;(repeat' split)<;>omega))
def NW(cs:List B)(i:Nat):Bool:=decide (ci cs i<0\/1073741824<ci cs i)
def NX(cs:List B)(i:Nat):Bool:=decide (ci cs (8+i)<0\/1048577<ci cs (8+i)\/(ci cs (8+i)=0/\¬(ci cs (16+i*2)=0/\ci cs (16+i*2+1)=0)))
def XA(cs:List B):Bool:=(List.range 8).any fun i=>NW cs i||NX cs i
theorem Qh{cs:List B}(i:Nat)(hi:i<8)(hb:NW cs i=true\/NX cs i=true):XA cs=true:=by
 unfold XA;rw[List.any_eq_true];exact⟨i,H.2 hi,by rcases hb with h|h<;>simp[h]⟩
theorem MU{cs:List B}(h1:∀i,i<8->NW cs i=false)(h2:∀i,i<8->NX cs i=false):XA cs=false:=by
 unfold XA;rw[List.any_eq_false];intro i hi;have:=H.1 hi;simp[h1 i this,h2 i this]
theorem oN(T:World)(h:Hp)(cs:List B)(hl:(y cs)=40)(Zb5:∀i,i<32->nth cs i=some (o m (ci cs i))):
  Zd D T 39 #[.agg cs.toArray] h fun v' h'=>v'=o m (if XA cs=true then 5 else 0)/\h'=h.push (A cs.toArray 55):=by
 refine Zd.XS [_] Tryz.func39 ?_;simp +contextual -implicitDefEqProofs only[go_sem,hl];refine VS.Yj (fun F g=>g=h.push (A cs.toArray 55)/\F 1=.pointer (some ⟨h.size,0,none⟩)/\F 2=o m 0/\F 8=.agg (cs.take 8).toArray/\∃i:Nat,i<=8/\F 9=o m i/\∀j,j<i->NW cs j=false)
  (fun F _=>8-(vi (F 9)).toNat) rfl ⟨rfl,rfl,rfl,rfl,0,nc,rfl,fun j hj=>by omega⟩ ?_
 rintro F g ⟨rfl,f1,f2,f8,i,hi,f9,hb⟩;by_cases ZU:i<8
 .have Z8:(i:Int)<8:=nc;have e1:=Zb5 i nc;by_cases c1:ci cs i<0
  .have Kb:=Qh (cs:=cs) i ZU (.inl (by simp[NW,c1]));simp +contextual -implicitDefEqProofs only[go_sem,f1,f2,f8,f9,Z8,e1,c1,Kb]
  .by_cases c2:1073741824<ci cs i
   .have Kb:=Qh (cs:=cs) i ZU (.inl (by simp[NW,c2]));simp +contextual -implicitDefEqProofs only[go_sem,f1,f2,f8,f9,Z8,e1,c1,c2,Kb]
   .simp +contextual -implicitDefEqProofs only[go_sem,f1,f2,f8,f9,Z8,e1,c1,c2];refine⟨⟨rfl,f1,f2,f8,i+1,ZU,rfl,fun j hj=>?_⟩,?_⟩
    .by_cases TO:j=i
     .subst TO;simp[NW];omega
     .exact hb j nc
    .simp only[vi,Zr,↓reduceIte,f9];omega
 .have Xp:¬(i:Int)<8:=nc;obtain rfl:i=8:=nc;simp +contextual -implicitDefEqProofs only[go_sem,f1,f2,f8,f9,Xp,hl];refine VS.Yj (fun F g=>g=h.push (A cs.toArray 55)/\F 1=.pointer (some ⟨h.size,0,none⟩)/\F 2=o m 0/\F 20=.agg ((cs.drop 8).take 8).toArray/\∃i:Nat,i<=8/\F 21=o m i/\∀j,j<i->NX cs j=false)
   (fun F _=>8-(vi (F 21)).toNat) rfl ⟨rfl,f1,f2,rfl,0,nc,rfl,fun j hj=>by omega⟩ ?_
  clear f1 f2 f8 f9 F;rintro F g ⟨rfl,f1,f2,f20,i,hi,f21,Hr⟩;by_cases ZU:i<8
  .have Z8:(i:Int)<8:=nc;have e1:=Zb5 (8+i) nc;have e2:=AH (Zb5 (16+i*2) nc) (Zb5 (16+i*2+1) nc);have Zkj:NX cs i=false->∀j,j<i+1->NX cs j=false:=fun h j hj=>by
    by_cases TO:j=i
    .subst TO;exact h
    .exact Hr j nc
   by_cases c1:ci cs (8+i)<0
   .have Kb:=Qh (cs:=cs) i ZU (.inr (by simp[NX,c1]));simp +contextual -implicitDefEqProofs only[go_sem,f1,f2,f20,f21,Z8,e1,c1,Kb]
   .by_cases c2:1048577<ci cs (8+i)
    .have Kb:=Qh (cs:=cs) i ZU (.inr (by simp[NX,c2]));simp +contextual -implicitDefEqProofs only[go_sem,f1,f2,f20,f21,Z8,e1,c1,c2,Kb]
    .by_cases c3:ci cs (8+i)=0
     .by_cases c4:ci cs (16+i*2)=0
      .by_cases c5:ci cs (16+i*2+1)=0
       .simp +contextual -implicitDefEqProofs only[go_sem,f1,f2,f20,f21,Z8,e1,c1,c2,c3,e2,c4,c5,hl];refine⟨⟨rfl,f1,f2,f20,i+1,ZU,rfl,Zkj (by simp[NX,c3,c4,c5])⟩,?_⟩;simp only[vi,Zr,↓reduceIte,f21];omega
       .have Kb:=Qh (cs:=cs) i ZU (.inr (by simp[NX,c3,c5]));simp +contextual -implicitDefEqProofs only[go_sem,f1,f2,f20,f21,Z8,e1,c1,c2,c3,e2,c4,c5,hl,Kb]
      .have Kb:=Qh (cs:=cs) i ZU (.inr (by simp[NX,c3,c4]));simp +contextual -implicitDefEqProofs only[go_sem,f1,f2,f20,f21,Z8,e1,c1,c2,c3,e2,c4,hl,Kb]
     .simp +contextual -implicitDefEqProofs only[go_sem,f1,f2,f20,f21,Z8,e1,c1,c2,c3];refine⟨⟨rfl,f1,f2,f20,i+1,ZU,rfl,Zkj (by simp[NX];omega)⟩,?_⟩;simp only[vi,Zr,↓reduceIte,f21];omega
  .have Xp:¬(i:Int)<8:=nc;obtain rfl:i=8:=nc;have Kb:=MU hb Hr;simp +contextual -implicitDefEqProofs only[go_sem,f1,f2,f20,f21,Xp,Kb]
end Go.Proofs.YthlfaofofaphfaaGreatDoor
