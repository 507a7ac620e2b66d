/- Part Vst. -/
import Derived.Test.YtnhfdnlcpdbjlaaGreatDoorTy
open Go.Value renaming int→o
open Go.IntKind renaming i64→m
open Go.Obj renaming cells→y
open Go.Proofs.Tryz renaming prog→B
open List renaming length→w,getElem_mem→D,take_length→E,mem_range→G
open Go renaming Value→A
namespace Go.Proofs.YtnhfdnlcpdbjlaaGreatDoor
open Go Go.V
set_option linter.all false
set_option maxRecDepth 100000
attribute [go_sem] Nat.reduceEqDiff Nat.reduceAdd Nat.reduceMul Nat.reduceLeDiff Nat.reduceLT Nat.reduceSub IntWalk.iteOmega IntWalk.toNatUp reduceCtorEq false_and and_false false_or or_false true_or or_true not_true_eq_false not_false_eq_true Bool.not_true Bool.not_false Bool.and_true Bool.true_and Bool.and_false Bool.false_and Bool.not_eq_true beq_self_eq_true Nat.add_zero Int.reduceLE Int.reduceLT Int.reduceToNat Int.reduceNeg
theorem SO(T:World)(h:Hp)(a b c:Int):Zg B T 81 #[o m a,o m b,o m c] h fun v' h'=>v'=.bool (decide (b<=a/\a<=c))/\h'=h:=by
 refine Zg.XK [_,_,_] Tryz.func81 ?_;by_cases h1:b<=a
 .by_cases h2:a<=c
  .simp +contextual only[go_sem,h1,h2]
  .simp +contextual only[go_sem,h1,h2]
 .simp +contextual only[go_sem,h1]
def UL(k c s n v:Int):List A:=[o m k,o m c,o m s,o m n,o m v]
def XB(k c s n v:Int):Int:=
 if ¬(0<=k/\k<=3) then 4 else
 if k=0 then (if c≠0\/s≠0\/n≠0\/v≠0 then 3 else 0) else
 if ¬(0<=c/\c<=7)\/¬(0<=s/\s<=1048576)\/¬(0<=n/\n<=7)\/¬(0<=v/\v<=1073741824) then 2 else
 if 1<k/\v≠0 then 3 else 0
theorem Uk(T:World)(h:Hp)(k c s n v:Int):
  Zg B T 54 #[.agg (UL k c s n v).toArray] h fun v' h'=>v'=o m (XB k c s n v)/\h'=h.push (y (UL k c s n v).toArray 49):=by
 refine Zg.XK [_] Tryz.func54 ?_;unfold UL;simp +contextual only[go_sem]
 repeat' (first|(refine (SO T _ _ _ _).pure ?_)|simp +contextual only[go_sem]|split)
 all_goals congr 1
 all_goals (try simp only[Bool.not_eq_true',Bool.and_eq_false_iff,decide_eq_false_iff_not,Bool.not_eq_false',Bool.and_eq_true,decide_eq_true_eq,Bool.not_eq_true,Bool.not_eq_false,Bool.or_eq_true,not_and,not_or,bne_iff_ne,ne_eq]at *)
 all_goals unfold XB
 all_goals (repeat' split)
 all_goals (first|omega|trace_state)
theorem Cq(T:World)(h:Hp)(v u:A)(l k:List Nat)(s:Bs h v l)(t:Bs h u k)(hl:(w l)<=140737488355328):
  Zg B T 48 #[v,u] h fun v' h'=>v'=.bool (decide (l=k))/\h'=h:=by
 obtain⟨p,c,rfl,Vx⟩:=s.open;obtain⟨q,d,rfl,EO⟩:=t.open;refine Zg.XK [_,_] Tryz.func48 ?_;by_cases hlen:(w l)=(w k)
 .have kq:((w l):Int)=(w k):=mD;simp +contextual only[go_sem,kq];refine VS.Yq (fun F g=>g=h/\F 0=.slice p (w l) c/\F 1=.slice q (w k) d/\F 13=o m (w l)/\∃i x:Nat,i<=(w l)/\x<256/\F 14=o m i/\F 5=o .u8 x/\(x=0↔l.take i=k.take i))
   (fun F _=>(w l)-(vi (F 14)).toNat) rfl ⟨rfl,rfl,rfl,by rw[kq];rfl,0,0,mD,mD,rfl,rfl,sW⟩ ?_
  rintro F g ⟨rfl,f0,f1,f13,i,x,hi,hx,f14,f5,hxi⟩;by_cases ZV:i<(w l)
  .have Z4:(i:Int)<(w l):=mD;have Zb4:i<(w k):=mD;obtain⟨b1,o1,rfl,D6,g1⟩:=Vx (by intro e;subst e;simp at ZV);obtain⟨b2,o2,rfl,EF,g2⟩:=EO (by intro e;subst e;simp at Zb4);have g1i:=g1 i ZV;have g2i:=g2 i Zb4;have y1:=s.byte _ (D ZV);have y2:=t.byte _ (D Zb4);simp +contextual only[go_sem,f0,f1,f13,f14,f5,Z4];refine VS.q mixed sV ?_;simp +contextual only[go_sem,f0,f1,f13,f14,f5,g1i,g2i];have e1:=D7 l[i] k[i] y1 y2;have e2:l[i] ^^^ k[i]<256:=Nat.xor_lt_two_pow (n:=8) y1 y2;have e3:=Zi8 x (l[i] ^^^ k[i]) hx e2;rw[e1,e3];refine⟨⟨rfl,f0,f1,f13,i+1,x ||| (l[i] ^^^ k[i]),ZV,Nat.or_lt_two_pow (n:=8) hx e2,rfl,rfl,?_⟩,?_⟩
   .rw[Y0 l i ZV,Y0 k i Zb4,An,D9,hxi]
    constructor
    .rintro⟨a,b⟩;rw[a,b]
    .intro a;have a2:=List.append_inj' a rfl;exact⟨a2.1,by simpa using a2.2⟩
   .simp only[vi,Zt,↓reduceIte,f14];omega
  .have Xw:¬(i:Int)<(w l):=mD;simp +contextual only[go_sem,f0,f1,f13,f14,f5,Xw];obtain rfl:i=(w l):=mD;rw[E,hlen,E]at hxi
   congr 1
   rw[decide_eq_decide,<-hxi];omega
 .have kq:¬((w l):Int)=(w k):=mD;simp +contextual only[go_sem,kq]
  congr 1
  simp;intro e;rw[e]at hlen;exact hlen rfl
def Rx(c r u:Int):List A:=[o m c,o m r,o m u]
def JW(c r u:Int):Int:=if ¬(0<=c/\c<=7)\/¬(0<=r/\r<=7)\/¬(0<=u/\u<=1048576) then 2 else 0
theorem Gb(T:World)(h:Hp)(c r u:Int):
  Zg B T 50 #[.agg (Rx c r u).toArray] h fun v' h'=>v'=o m (JW c r u)/\h'=h.push (y (Rx c r u).toArray 82):=by
 refine Zg.XK [_] Tryz.func50 ?_;unfold Rx;by_cases q0:0<=c/\c<=7
 ·
  by_cases q1:0<=r/\r<=7
  ·
   by_cases q2:0<=u/\u<=1048576
   ·
    repeat' (first|(refine (SO T _ _ _ _).pure ?_)|simp +contextual only[go_sem, *])
    all_goals (first|rfl|(congr 1;unfold JW;(repeat' split)<;>omega))
   ·
    repeat' (first|(refine (SO T _ _ _ _).pure ?_)|simp +contextual only[go_sem, *])
    all_goals (first|rfl|(congr 1;unfold JW;(repeat' split)<;>omega))
  ·
   repeat' (first|(refine (SO T _ _ _ _).pure ?_)|simp +contextual only[go_sem, *])
   all_goals (first|rfl|(congr 1;unfold JW;(repeat' split)<;>omega))
 ·
  repeat' (first|(refine (SO T _ _ _ _).pure ?_)|simp +contextual only[go_sem, *])
  all_goals (first|rfl|(congr 1;unfold JW;(repeat' split)<;>omega))
def gv(cs:List A)(i:Nat):Bool:=decide (ci cs i<0\/1073741824<ci cs i)
def IQ(cs:List A)(i:Nat):Bool:=decide (ci cs (8+i)<0\/1048577<ci cs (8+i)\/(ci cs (8+i)=0/\¬(ci cs (16+i*2)=0/\ci cs (16+i*2+1)=0)))
def UP(cs:List A):Bool:=(List.range 8).any fun i=>gv cs i||IQ cs i
theorem Uz{cs:List A}(i:Nat)(hi:i<8)(hb:gv cs i=true\/IQ cs i=true):UP cs=true:=by
 unfold UP;rw[List.any_eq_true];exact⟨i,G.2 hi,by rcases hb with h|h<;>simp[h]⟩
theorem Cr{cs:List A}(h1:∀i,i<8->gv cs i=false)(h2:∀i,i<8->IQ cs i=false):UP cs=false:=by
 unfold UP;rw[List.any_eq_false];intro i hi;have:=G.1 hi;simp[h1 i this,h2 i this]
theorem nQ(T:World)(h:Hp)(cs:List A)(hl:(w cs)=40)(Zb5:∀i,i<32->nth cs i=some (o m (ci cs i))):
  Zg B T 65 #[.agg cs.toArray] h fun v' h'=>v'=o m (if UP cs=true then 5 else 0)/\h'=h.push (y cs.toArray 75):=by
 refine Zg.XK [_] Tryz.func65 ?_;simp +contextual only[go_sem,hl];refine VS.Yq (fun F g=>g=h.push (y cs.toArray 75)/\F 1=.pointer (some ⟨h.size,0,none⟩)/\F 2=o m 0/\F 8=.agg (cs.take 8).toArray/\∃i:Nat,i<=8/\F 9=o m i/\∀j,j<i->gv cs j=false)
  (fun F _=>8-(vi (F 9)).toNat) rfl ⟨rfl,rfl,rfl,rfl,0,mD,rfl,fun j hj=>by omega⟩ ?_
 rintro F g ⟨rfl,f1,f2,f8,i,hi,f9,hb⟩;by_cases ZV:i<8
 .have Z4:(i:Int)<8:=mD;have e1:=Zb5 i mD;by_cases c1:ci cs i<0
  .have L6:=Uz (cs:=cs) i ZV (.inl (by simp[gv,c1]));simp +contextual only[go_sem,f1,f2,f8,f9,Z4,e1,c1,L6]
  .by_cases c2:1073741824<ci cs i
   .have L6:=Uz (cs:=cs) i ZV (.inl (by simp[gv,c2]));simp +contextual only[go_sem,f1,f2,f8,f9,Z4,e1,c1,c2,L6]
   .simp +contextual only[go_sem,f1,f2,f8,f9,Z4,e1,c1,c2];refine⟨⟨rfl,f1,f2,f8,i+1,ZV,rfl,fun j hj=>?_⟩,?_⟩
    .by_cases Px:j=i
     .subst Px;simp[gv];omega
     .exact hb j mD
    .simp only[vi,Zt,↓reduceIte,f9];omega
 .have Xw:¬(i:Int)<8:=mD;obtain rfl:i=8:=mD;simp +contextual only[go_sem,f1,f2,f8,f9,Xw,hl];refine VS.Yq (fun F g=>g=h.push (y cs.toArray 75)/\F 1=.pointer (some ⟨h.size,0,none⟩)/\F 2=o m 0/\F 20=.agg ((cs.drop 8).take 8).toArray/\∃i:Nat,i<=8/\F 21=o m i/\∀j,j<i->IQ cs j=false)
   (fun F _=>8-(vi (F 21)).toNat) rfl ⟨rfl,f1,f2,rfl,0,mD,rfl,fun j hj=>by omega⟩ ?_
  clear f1 f2 f8 f9 F;rintro F g ⟨rfl,f1,f2,f20,i,hi,f21,EF⟩;by_cases ZV:i<8
  .have Z4:(i:Int)<8:=mD;have e1:=Zb5 (8+i) mD;have e2:=Ap (Zb5 (16+i*2) mD) (Zb5 (16+i*2+1) mD);have Zj8:IQ cs i=false->∀j,j<i+1->IQ cs j=false:=fun h j hj=>by
    by_cases Px:j=i
    .subst Px;exact h
    .exact EF j mD
   by_cases c1:ci cs (8+i)<0
   .have L6:=Uz (cs:=cs) i ZV (.inr (by simp[IQ,c1]));simp +contextual only[go_sem,f1,f2,f20,f21,Z4,e1,c1,L6]
   .by_cases c2:1048577<ci cs (8+i)
    .have L6:=Uz (cs:=cs) i ZV (.inr (by simp[IQ,c2]));simp +contextual only[go_sem,f1,f2,f20,f21,Z4,e1,c1,c2,L6]
    .by_cases c3:ci cs (8+i)=0
     .by_cases c4:ci cs (16+i*2)=0
      .by_cases c5:ci cs (16+i*2+1)=0
       .simp +contextual only[go_sem,f1,f2,f20,f21,Z4,e1,c1,c2,c3,e2,c4,c5,hl];refine⟨⟨rfl,f1,f2,f20,i+1,ZV,rfl,Zj8 (by simp[IQ,c3,c4,c5])⟩,?_⟩;simp only[vi,Zt,↓reduceIte,f21];omega
       .have L6:=Uz (cs:=cs) i ZV (.inr (by simp[IQ,c3,c5]));simp +contextual only[go_sem,f1,f2,f20,f21,Z4,e1,c1,c2,c3,e2,c4,c5,hl,L6]
      .have L6:=Uz (cs:=cs) i ZV (.inr (by simp[IQ,c3,c4]));simp +contextual only[go_sem,f1,f2,f20,f21,Z4,e1,c1,c2,c3,e2,c4,hl,L6]
     .simp +contextual only[go_sem,f1,f2,f20,f21,Z4,e1,c1,c2,c3];refine⟨⟨rfl,f1,f2,f20,i+1,ZV,rfl,Zj8 (by simp[IQ];omega)⟩,?_⟩;simp only[vi,Zt,↓reduceIte,f21];omega
  .have Xw:¬(i:Int)<8:=mD;obtain rfl:i=8:=mD;have L6:=Cr hb EF;simp +contextual only[go_sem,f1,f2,f20,f21,Xw,L6]
end Go.Proofs.YtnhfdnlcpdbjlaaGreatDoor
