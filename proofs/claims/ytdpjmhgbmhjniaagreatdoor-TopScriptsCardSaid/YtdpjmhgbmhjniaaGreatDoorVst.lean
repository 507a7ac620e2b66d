/- Part Vst. -/
import Derived.Test.YtdpjmhgbmhjniaaGreatDoorTy
open Go.Value renaming int→o
open Go.IntKind renaming i64→m
open Go.Obj renaming cells→A
open Go.Proofs.Tryz renaming prog→D
open List renaming length→y,getElem_mem→E,take_length→G,mem_range→H
open Go renaming Value→B
namespace Go.Proofs.YtdpjmhgbmhjniaaGreatDoor
open Go Go.V
set_option linter.all false
set_option maxRecDepth 100000
attribute [go_sem] Nat.reduceEqDiff Nat.reduceAdd Nat.reduceMul Nat.reduceLeDiff Nat.reduceLT Nat.reduceSub IntWalk.iteOmega IntWalk.toNatUp reduceCtorEq false_and and_false false_or or_false true_or or_true not_true_eq_false not_false_eq_true Bool.not_true Bool.not_false Bool.and_true Bool.true_and Bool.and_false Bool.false_and Bool.not_eq_true beq_self_eq_true Nat.add_zero Int.reduceLE Int.reduceLT Int.reduceToNat Int.reduceNeg
theorem Tf(T:World)(h:Hp)(a b c:Int):Zc D T 82 #[o m a,o m b,o m c] h fun v' h'=>v'=.bool (decide (b<=a/\a<=c))/\h'=h:=by
 refine Zc.Y8 [_,_,_] Tryz.func82 ?_;by_cases h1:b<=a
 .by_cases h2:a<=c
  .simp +contextual -implicitDefEqProofs only[go_sem,h1,h2]
  .simp +contextual -implicitDefEqProofs only[go_sem,h1,h2]
 .simp +contextual -implicitDefEqProofs only[go_sem,h1]
def QR(k c s n v:Int):List B:=[o m k,o m c,o m s,o m n,o m v]
def Y9(k c s n v:Int):Int:=
 if ¬(0<=k/\k<=3) then 4 else
 if k=0 then (if c≠0\/s≠0\/n≠0\/v≠0 then 3 else 0) else
 if ¬(0<=c/\c<=7)\/¬(0<=s/\s<=1048576)\/¬(0<=n/\n<=7)\/¬(0<=v/\v<=1073741824) then 2 else
 if 1<k/\v≠0 then 3 else 0
theorem Qt(T:World)(h:Hp)(k c s n v:Int):
  Zc D T 52 #[.agg (QR k c s n v).toArray] h fun v' h'=>v'=o m (Y9 k c s n v)/\h'=h.push (A (QR k c s n v).toArray 43):=by
 refine Zc.Y8 [_] Tryz.func52 ?_;unfold QR;simp +contextual -implicitDefEqProofs only[go_sem]
 repeat' (first|(refine (Tf T _ _ _ _).pure ?_)|simp +contextual -implicitDefEqProofs only[go_sem]|split)
 all_goals congr 1
 all_goals (try simp only[Bool.not_eq_true',Bool.and_eq_false_iff,decide_eq_false_iff_not,Bool.not_eq_false',Bool.and_eq_true,decide_eq_true_eq,Bool.not_eq_true,Bool.not_eq_false,Bool.or_eq_true,not_and,not_or,bne_iff_ne,ne_eq]at *)
 all_goals unfold Y9
 all_goals (repeat' split)
 all_goals (first|omega|trace_state)
theorem Ep(T:World)(h:Hp)(v u:B)(l k:List Nat)(s:Bs h v l)(t:Bs h u k)(hl:(y l)<=140737488355328):
  Zc D T 48 #[v,u] h fun v' h'=>v'=.bool (decide (l=k))/\h'=h:=by
 obtain⟨p,c,rfl,UX⟩:=s.open;obtain⟨q,d,rfl,MR⟩:=t.open;refine Zc.Y8 [_,_] Tryz.func48 ?_;by_cases hlen:(y l)=(y k)
 .have fw:((y l):Int)=(y k):=gX;simp +contextual -implicitDefEqProofs only[go_sem,fw];refine VS.Z9 (fun F g=>g=h/\F 0=.slice p (y l) c/\F 1=.slice q (y k) d/\F 13=o m (y l)/\∃i x:Nat,i<=(y l)/\x<256/\F 14=o m i/\F 5=o .u8 x/\(x=0↔l.take i=k.take i))
   (fun F _=>(y l)-(vi (F 14)).toNat) rfl ⟨rfl,rfl,rfl,by rw[fw];rfl,0,0,gX,gX,rfl,rfl,Dq⟩ ?_
  rintro F g ⟨rfl,f0,f1,f13,i,x,hi,hx,f14,f5,hxi⟩;by_cases ZL:i<(y l)
  .have ZW:(i:Int)<(y l):=gX;have xq:i<(y k):=gX;obtain⟨b1,o1,rfl,KP,g1⟩:=UX (by intro e;subst e;simp at ZL);obtain⟨b2,o2,rfl,KA,g2⟩:=MR (by intro e;subst e;simp at xq);have g1i:=g1 i ZL;have g2i:=g2 i xq;have y1:=s.byte _ (E ZL);have y2:=t.byte _ (E xq);simp +contextual -implicitDefEqProofs only[go_sem,f0,f1,f13,f14,f5,ZW];refine VS.q mixed po ?_;simp +contextual -implicitDefEqProofs only[go_sem,f0,f1,f13,f14,f5,g1i,g2i];have e1:=FV l[i] k[i] y1 y2;have e2:l[i] ^^^ k[i]<256:=Nat.xor_lt_two_pow (n:=8) y1 y2;have e3:=ZfJ x (l[i] ^^^ k[i]) hx e2;rw[e1,e3];refine⟨⟨rfl,f0,f1,f13,i+1,x ||| (l[i] ^^^ k[i]),ZL,Nat.or_lt_two_pow (n:=8) hx e2,rfl,rfl,?_⟩,?_⟩
   .rw[Yp l i ZL,Yp k i xq,DS,FX,hxi]
    constructor
    .rintro⟨a,b⟩;rw[a,b]
    .intro a;have a2:=List.append_inj' a rfl;exact⟨a2.1,by simpa using a2.2⟩
   .simp only[vi,Zk,↓reduceIte,f14];omega
  .have YU:¬(i:Int)<(y l):=gX;simp +contextual -implicitDefEqProofs only[go_sem,f0,f1,f13,f14,f5,YU];obtain rfl:i=(y l):=gX;rw[G,hlen,G]at hxi
   congr 1
   rw[decide_eq_decide,<-hxi];omega
 .have fw:¬((y l):Int)=(y k):=gX;simp +contextual -implicitDefEqProofs only[go_sem,fw]
  congr 1
  simp;intro e;rw[e]at hlen;exact hlen rfl
def TQ(c r u:Int):List B:=[o m c,o m r,o m u]
def Ju(c r u:Int):Int:=if ¬(0<=c/\c<=7)\/¬(0<=r/\r<=7)\/¬(0<=u/\u<=1048576) then 2 else 0
theorem Ik(T:World)(h:Hp)(c r u:Int):
  Zc D T 50 #[.agg (TQ c r u).toArray] h fun v' h'=>v'=o m (Ju c r u)/\h'=h.push (A (TQ c r u).toArray 80):=by
 refine Zc.Y8 [_] Tryz.func50 ?_;unfold TQ;by_cases q0:0<=c/\c<=7
 ·
  by_cases q1:0<=r/\r<=7
  ·
   by_cases q2:0<=u/\u<=1048576
   ·
    repeat' (first|(refine (Tf T _ _ _ _).pure ?_)|simp +contextual -implicitDefEqProofs only[go_sem, *])
    all_goals (first|rfl|(congr 1;unfold Ju;(repeat' split)<;>omega))
   ·
    repeat' (first|(refine (Tf T _ _ _ _).pure ?_)|simp +contextual -implicitDefEqProofs only[go_sem, *])
    all_goals (first|rfl|(congr 1;unfold Ju;(repeat' split)<;>omega))
  ·
   repeat' (first|(refine (Tf T _ _ _ _).pure ?_)|simp +contextual -implicitDefEqProofs only[go_sem, *])
   all_goals (first|rfl|(congr 1;unfold Ju;(repeat' split)<;>omega))
 ·
  repeat' (first|(refine (Tf T _ _ _ _).pure ?_)|simp +contextual -implicitDefEqProofs only[go_sem, *])
  all_goals (first|rfl|(congr 1;unfold Ju;(repeat' split)<;>omega))
def aX(cs:List B)(i:Nat):Bool:=decide (ci cs i<0\/1073741824<ci cs i)
def LQ(cs:List B)(i:Nat):Bool:=decide (ci cs (8+i)<0\/1048577<ci cs (8+i)\/(ci cs (8+i)=0/\¬(ci cs (16+i*2)=0/\ci cs (16+i*2+1)=0)))
def Q2(cs:List B):Bool:=(List.range 8).any fun i=>aX cs i||LQ cs i
theorem QF{cs:List B}(i:Nat)(hi:i<8)(hb:aX cs i=true\/LQ cs i=true):Q2 cs=true:=by
 unfold Q2;rw[List.any_eq_true];exact⟨i,H.2 hi,by rcases hb with h|h<;>simp[h]⟩
theorem Er{cs:List B}(h1:∀i,i<8->aX cs i=false)(h2:∀i,i<8->LQ cs i=false):Q2 cs=false:=by
 unfold Q2;rw[List.any_eq_false];intro i hi;have:=H.1 hi;simp[h1 i this,h2 i this]
theorem jg(T:World)(h:Hp)(cs:List B)(hl:(y cs)=40)(xr:∀i,i<32->nth cs i=some (o m (ci cs i))):
  Zc D T 53 #[.agg cs.toArray] h fun v' h'=>v'=o m (if Q2 cs=true then 5 else 0)/\h'=h.push (A cs.toArray 58):=by
 refine Zc.Y8 [_] Tryz.func53 ?_;simp +contextual -implicitDefEqProofs only[go_sem,hl];refine VS.Z9 (fun F g=>g=h.push (A cs.toArray 58)/\F 1=.pointer (some ⟨h.size,0,none⟩)/\F 2=o m 0/\F 8=.agg (cs.take 8).toArray/\∃i:Nat,i<=8/\F 9=o m i/\∀j,j<i->aX cs j=false)
  (fun F _=>8-(vi (F 9)).toNat) rfl ⟨rfl,rfl,rfl,rfl,0,gX,rfl,fun j hj=>by omega⟩ ?_
 rintro F g ⟨rfl,f1,f2,f8,i,hi,f9,hb⟩;by_cases ZL:i<8
 .have ZW:(i:Int)<8:=gX;have e1:=xr i gX;by_cases c1:ci cs i<0
  .have Mf:=QF (cs:=cs) i ZL (.inl (by simp[aX,c1]));simp +contextual -implicitDefEqProofs only[go_sem,f1,f2,f8,f9,ZW,e1,c1,Mf]
  .by_cases c2:1073741824<ci cs i
   .have Mf:=QF (cs:=cs) i ZL (.inl (by simp[aX,c2]));simp +contextual -implicitDefEqProofs only[go_sem,f1,f2,f8,f9,ZW,e1,c1,c2,Mf]
   .simp +contextual -implicitDefEqProofs only[go_sem,f1,f2,f8,f9,ZW,e1,c1,c2];refine⟨⟨rfl,f1,f2,f8,i+1,ZL,rfl,fun j hj=>?_⟩,?_⟩
    .by_cases Vb:j=i
     .subst Vb;simp[aX];omega
     .exact hb j gX
    .simp only[vi,Zk,↓reduceIte,f9];omega
 .have YU:¬(i:Int)<8:=gX;obtain rfl:i=8:=gX;simp +contextual -implicitDefEqProofs only[go_sem,f1,f2,f8,f9,YU,hl];refine VS.Z9 (fun F g=>g=h.push (A cs.toArray 58)/\F 1=.pointer (some ⟨h.size,0,none⟩)/\F 2=o m 0/\F 20=.agg ((cs.drop 8).take 8).toArray/\∃i:Nat,i<=8/\F 21=o m i/\∀j,j<i->LQ cs j=false)
   (fun F _=>8-(vi (F 21)).toNat) rfl ⟨rfl,f1,f2,rfl,0,gX,rfl,fun j hj=>by omega⟩ ?_
  clear f1 f2 f8 f9 F;rintro F g ⟨rfl,f1,f2,f20,i,hi,f21,KA⟩;by_cases ZL:i<8
  .have ZW:(i:Int)<8:=gX;have e1:=xr (8+i) gX;have e2:=DU (xr (16+i*2) gX) (xr (16+i*2+1) gX);have ZgW:LQ cs i=false->∀j,j<i+1->LQ cs j=false:=fun h j hj=>by
    by_cases Vb:j=i
    .subst Vb;exact h
    .exact KA j gX
   by_cases c1:ci cs (8+i)<0
   .have Mf:=QF (cs:=cs) i ZL (.inr (by simp[LQ,c1]));simp +contextual -implicitDefEqProofs only[go_sem,f1,f2,f20,f21,ZW,e1,c1,Mf]
   .by_cases c2:1048577<ci cs (8+i)
    .have Mf:=QF (cs:=cs) i ZL (.inr (by simp[LQ,c2]));simp +contextual -implicitDefEqProofs only[go_sem,f1,f2,f20,f21,ZW,e1,c1,c2,Mf]
    .by_cases c3:ci cs (8+i)=0
     .by_cases c4:ci cs (16+i*2)=0
      .by_cases c5:ci cs (16+i*2+1)=0
       .simp +contextual -implicitDefEqProofs only[go_sem,f1,f2,f20,f21,ZW,e1,c1,c2,c3,e2,c4,c5,hl];refine⟨⟨rfl,f1,f2,f20,i+1,ZL,rfl,ZgW (by simp[LQ,c3,c4,c5])⟩,?_⟩;simp only[vi,Zk,↓reduceIte,f21];omega
       .have Mf:=QF (cs:=cs) i ZL (.inr (by simp[LQ,c3,c5]));simp +contextual -implicitDefEqProofs only[go_sem,f1,f2,f20,f21,ZW,e1,c1,c2,c3,e2,c4,c5,hl,Mf]
      .have Mf:=QF (cs:=cs) i ZL (.inr (by simp[LQ,c3,c4]));simp +contextual -implicitDefEqProofs only[go_sem,f1,f2,f20,f21,ZW,e1,c1,c2,c3,e2,c4,hl,Mf]
     .simp +contextual -implicitDefEqProofs only[go_sem,f1,f2,f20,f21,ZW,e1,c1,c2,c3];refine⟨⟨rfl,f1,f2,f20,i+1,ZL,rfl,ZgW (by simp[LQ];omega)⟩,?_⟩;simp only[vi,Zk,↓reduceIte,f21];omega
  .have YU:¬(i:Int)<8:=gX;obtain rfl:i=8:=gX;have Mf:=Er hb KA;simp +contextual -implicitDefEqProofs only[go_sem,f1,f2,f20,f21,YU,Mf]
end Go.Proofs.YtdpjmhgbmhjniaaGreatDoor
