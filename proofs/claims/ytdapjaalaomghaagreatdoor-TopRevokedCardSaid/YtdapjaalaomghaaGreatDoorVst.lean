/- Part Vst. -/
import Derived.Test.YtdapjaalaomghaaGreatDoorTy
open Go.Value renaming int→o
open Go.IntKind renaming i64→m
open Go.Obj renaming cells→A
open Go.Proofs.Tryz renaming prog→D
open List renaming length→y,getElem_mem→E,take_length→G,mem_range→H
open Go renaming Value→B
namespace Go.Proofs.YtdapjaalaomghaaGreatDoor
open Go Go.V
set_option linter.all false
set_option maxRecDepth 100000
attribute [go_sem] Nat.reduceEqDiff Nat.reduceAdd Nat.reduceMul Nat.reduceLeDiff Nat.reduceLT Nat.reduceSub IntWalk.iteOmega IntWalk.toNatUp reduceCtorEq false_and and_false false_or or_false true_or or_true not_true_eq_false not_false_eq_true Bool.not_true Bool.not_false Bool.and_true Bool.true_and Bool.and_false Bool.false_and Bool.not_eq_true beq_self_eq_true Nat.add_zero Int.reduceLE Int.reduceLT Int.reduceToNat Int.reduceNeg
theorem Rg(T:World)(h:Hp)(a b c:Int):Zd D T 40 #[o m a,o m b,o m c] h fun v' h'=>v'=.bool (decide (b<=a/\a<=c))/\h'=h:=by
 refine Zd.XT [_,_,_] Tryz.func40 ?_;by_cases h1:b<=a
 .by_cases h2:a<=c
  .simp +contextual only[go_sem,h1,h2]
  .simp +contextual only[go_sem,h1,h2]
 .simp +contextual only[go_sem,h1]
def Uy(k c s n v:Int):List B:=[o m k,o m c,o m s,o m n,o m v]
def Y0(k c s n v:Int):Int:=
 if ¬(0<=k/\k<=3) then 4 else
 if k=0 then (if c≠0\/s≠0\/n≠0\/v≠0 then 3 else 0) else
 if ¬(0<=c/\c<=7)\/¬(0<=s/\s<=1048576)\/¬(0<=n/\n<=7)\/¬(0<=v/\v<=1073741824) then 2 else
 if 1<k/\v≠0 then 3 else 0
theorem Uz(T:World)(h:Hp)(k c s n v:Int):
  Zd D T 26 #[.agg (Uy k c s n v).toArray] h fun v' h'=>v'=o m (Y0 k c s n v)/\h'=h.push (A (Uy k c s n v).toArray 24):=by
 refine Zd.XT [_] Tryz.func26 ?_;unfold Uy;simp +contextual only[go_sem]
 repeat' (first|(refine (Rg T _ _ _ _).pure ?_)|simp +contextual only[go_sem]|split)
 all_goals congr 1
 all_goals (try simp only[Bool.not_eq_true',Bool.and_eq_false_iff,decide_eq_false_iff_not,Bool.not_eq_false',Bool.and_eq_true,decide_eq_true_eq,Bool.not_eq_true,Bool.not_eq_false,Bool.or_eq_true,not_and,not_or,bne_iff_ne,ne_eq]at *)
 all_goals unfold Y0
 all_goals (repeat' split)
 all_goals (first|omega|trace_state)
theorem Bd(T:World)(h:Hp)(v u:B)(l k:List Nat)(s:Bs h v l)(t:Bs h u k)(hl:(y l)<=140737488355328):
  Zd D T 73 #[v,u] h fun v' h'=>v'=.bool (decide (l=k))/\h'=h:=by
 obtain⟨p,c,rfl,WE⟩:=s.open;obtain⟨q,d,rfl,Es⟩:=t.open;refine Zd.XT [_,_] Tryz.func73 ?_;by_cases hlen:(y l)=(y k)
 .have lX:((y l):Int)=(y k):=nT;simp +contextual only[go_sem,lX];refine VS.Yk (fun F g=>g=h/\F 0=.slice p (y l) c/\F 1=.slice q (y k) d/\F 13=o m (y l)/\∃i x:Nat,i<=(y l)/\x<256/\F 14=o m i/\F 5=o .u8 x/\(x=0↔l.take i=k.take i))
   (fun F _=>(y l)-(vi (F 14)).toNat) rfl ⟨rfl,rfl,rfl,by rw[lX];rfl,0,0,nT,nT,rfl,rfl,uK⟩ ?_
  rintro F g ⟨rfl,f0,f1,f13,i,x,hi,hx,f14,f5,hxi⟩;by_cases ZS:i<(y l)
  .have Z7:(i:Int)<(y l):=nT;have ZcF:i<(y k):=nT;obtain⟨b1,o1,rfl,Gy,g1⟩:=WE (by intro e;subst e;simp at ZS);obtain⟨b2,o2,rfl,HI,g2⟩:=Es (by intro e;subst e;simp at ZcF);have g1i:=g1 i ZS;have g2i:=g2 i ZcF;have y1:=s.byte _ (E ZS);have y2:=t.byte _ (E ZcF);simp +contextual only[go_sem,f0,f1,f13,f14,f5,Z7];refine VS.q mixed uj ?_;simp +contextual only[go_sem,f0,f1,f13,f14,f5,g1i,g2i];have e1:=CM l[i] k[i] y1 y2;have e2:l[i] ^^^ k[i]<256:=Nat.xor_lt_two_pow (n:=8) y1 y2;have e3:=ZjX x (l[i] ^^^ k[i]) hx e2;rw[e1,e3];refine⟨⟨rfl,f0,f1,f13,i+1,x ||| (l[i] ^^^ k[i]),ZS,Nat.or_lt_two_pow (n:=8) hx e2,rfl,rfl,?_⟩,?_⟩
   .rw[Y1 l i ZS,Y1 k i ZcF,ad,CQ,hxi]
    constructor
    .rintro⟨a,b⟩;rw[a,b]
    .intro a;have a2:=List.append_inj' a rfl;exact⟨a2.1,by simpa using a2.2⟩
   .simp only[vi,Zq,↓reduceIte,f14];omega
  .have Xv:¬(i:Int)<(y l):=nT;simp +contextual only[go_sem,f0,f1,f13,f14,f5,Xv];obtain rfl:i=(y l):=nT;rw[G,hlen,G]at hxi
   congr 1
   rw[decide_eq_decide,<-hxi];omega
 .have lX:¬((y l):Int)=(y k):=nT;simp +contextual only[go_sem,lX]
  congr 1
  simp;intro e;rw[e]at hlen;exact hlen rfl
def PO(c r u:Int):List B:=[o m c,o m r,o m u]
def JM(c r u:Int):Int:=if ¬(0<=c/\c<=7)\/¬(0<=r/\r<=7)\/¬(0<=u/\u<=1048576) then 2 else 0
theorem GM(T:World)(h:Hp)(c r u:Int):
  Zd D T 22 #[.agg (PO c r u).toArray] h fun v' h'=>v'=o m (JM c r u)/\h'=h.push (A (PO c r u).toArray 31):=by
 refine Zd.XT [_] Tryz.func22 ?_;unfold PO;by_cases q0:0<=c/\c<=7
 ·
  by_cases q1:0<=r/\r<=7
  ·
   by_cases q2:0<=u/\u<=1048576
   ·
    repeat' (first|(refine (Rg T _ _ _ _).pure ?_)|simp +contextual only[go_sem, *])
    all_goals (first|rfl|(congr 1;unfold JM;(repeat' split)<;>omega))
   ·
    repeat' (first|(refine (Rg T _ _ _ _).pure ?_)|simp +contextual only[go_sem, *])
    all_goals (first|rfl|(congr 1;unfold JM;(repeat' split)<;>omega))
  ·
   repeat' (first|(refine (Rg T _ _ _ _).pure ?_)|simp +contextual only[go_sem, *])
   all_goals (first|rfl|(congr 1;unfold JM;(repeat' split)<;>omega))
 ·
  repeat' (first|(refine (Rg T _ _ _ _).pure ?_)|simp +contextual only[go_sem, *])
  all_goals (first|rfl|(congr 1;unfold JM;(repeat' split)<;>omega))
def Mk(cs:List B)(i:Nat):Bool:=decide (ci cs i<0\/1073741824<ci cs i)
def Ml(cs:List B)(i:Nat):Bool:=decide (ci cs (8+i)<0\/1048577<ci cs (8+i)\/(ci cs (8+i)=0/\¬(ci cs (16+i*2)=0/\ci cs (16+i*2+1)=0)))
def Xq(cs:List B):Bool:=(List.range 8).any fun i=>Mk cs i||Ml cs i
theorem Qh{cs:List B}(i:Nat)(hi:i<8)(hb:Mk cs i=true\/Ml cs i=true):Xq cs=true:=by
 unfold Xq;rw[List.any_eq_true];exact⟨i,H.2 hi,by rcases hb with h|h<;>simp[h]⟩
theorem Li{cs:List B}(h1:∀i,i<8->Mk cs i=false)(h2:∀i,i<8->Ml cs i=false):Xq cs=false:=by
 unfold Xq;rw[List.any_eq_false];intro i hi;have:=H.1 hi;simp[h1 i this,h2 i this]
theorem pL(T:World)(h:Hp)(cs:List B)(hl:(y cs)=40)(ZcG:∀i,i<32->nth cs i=some (o m (ci cs i))):
  Zd D T 37 #[.agg cs.toArray] h fun v' h'=>v'=o m (if Xq cs=true then 5 else 0)/\h'=h.push (A cs.toArray 52):=by
 refine Zd.XT [_] Tryz.func37 ?_;simp +contextual only[go_sem,hl];refine VS.Yk (fun F g=>g=h.push (A cs.toArray 52)/\F 1=.pointer (some ⟨h.size,0,none⟩)/\F 2=o m 0/\F 8=.agg (cs.take 8).toArray/\∃i:Nat,i<=8/\F 9=o m i/\∀j,j<i->Mk cs j=false)
  (fun F _=>8-(vi (F 9)).toNat) rfl ⟨rfl,rfl,rfl,rfl,0,nT,rfl,fun j hj=>by omega⟩ ?_
 rintro F g ⟨rfl,f1,f2,f8,i,hi,f9,hb⟩;by_cases ZS:i<8
 .have Z7:(i:Int)<8:=nT;have e1:=ZcG i nT;by_cases c1:ci cs i<0
  .have Kr:=Qh (cs:=cs) i ZS (.inl (by simp[Mk,c1]));simp +contextual only[go_sem,f1,f2,f8,f9,Z7,e1,c1,Kr]
  .by_cases c2:1073741824<ci cs i
   .have Kr:=Qh (cs:=cs) i ZS (.inl (by simp[Mk,c2]));simp +contextual only[go_sem,f1,f2,f8,f9,Z7,e1,c1,c2,Kr]
   .simp +contextual only[go_sem,f1,f2,f8,f9,Z7,e1,c1,c2];refine⟨⟨rfl,f1,f2,f8,i+1,ZS,rfl,fun j hj=>?_⟩,?_⟩
    .by_cases Sa:j=i
     .subst Sa;simp[Mk];omega
     .exact hb j nT
    .simp only[vi,Zq,↓reduceIte,f9];omega
 .have Xv:¬(i:Int)<8:=nT;obtain rfl:i=8:=nT;simp +contextual only[go_sem,f1,f2,f8,f9,Xv,hl];refine VS.Yk (fun F g=>g=h.push (A cs.toArray 52)/\F 1=.pointer (some ⟨h.size,0,none⟩)/\F 2=o m 0/\F 20=.agg ((cs.drop 8).take 8).toArray/\∃i:Nat,i<=8/\F 21=o m i/\∀j,j<i->Ml cs j=false)
   (fun F _=>8-(vi (F 21)).toNat) rfl ⟨rfl,f1,f2,rfl,0,nT,rfl,fun j hj=>by omega⟩ ?_
  clear f1 f2 f8 f9 F;rintro F g ⟨rfl,f1,f2,f20,i,hi,f21,HI⟩;by_cases ZS:i<8
  .have Z7:(i:Int)<8:=nT;have e1:=ZcG (8+i) nT;have e2:=ag (ZcG (16+i*2) nT) (ZcG (16+i*2+1) nT);have Zk6:Ml cs i=false->∀j,j<i+1->Ml cs j=false:=fun h j hj=>by
    by_cases Sa:j=i
    .subst Sa;exact h
    .exact HI j nT
   by_cases c1:ci cs (8+i)<0
   .have Kr:=Qh (cs:=cs) i ZS (.inr (by simp[Ml,c1]));simp +contextual only[go_sem,f1,f2,f20,f21,Z7,e1,c1,Kr]
   .by_cases c2:1048577<ci cs (8+i)
    .have Kr:=Qh (cs:=cs) i ZS (.inr (by simp[Ml,c2]));simp +contextual only[go_sem,f1,f2,f20,f21,Z7,e1,c1,c2,Kr]
    .by_cases c3:ci cs (8+i)=0
     .by_cases c4:ci cs (16+i*2)=0
      .by_cases c5:ci cs (16+i*2+1)=0
       .simp +contextual only[go_sem,f1,f2,f20,f21,Z7,e1,c1,c2,c3,e2,c4,c5,hl];refine⟨⟨rfl,f1,f2,f20,i+1,ZS,rfl,Zk6 (by simp[Ml,c3,c4,c5])⟩,?_⟩;simp only[vi,Zq,↓reduceIte,f21];omega
       .have Kr:=Qh (cs:=cs) i ZS (.inr (by simp[Ml,c3,c5]));simp +contextual only[go_sem,f1,f2,f20,f21,Z7,e1,c1,c2,c3,e2,c4,c5,hl,Kr]
      .have Kr:=Qh (cs:=cs) i ZS (.inr (by simp[Ml,c3,c4]));simp +contextual only[go_sem,f1,f2,f20,f21,Z7,e1,c1,c2,c3,e2,c4,hl,Kr]
     .simp +contextual only[go_sem,f1,f2,f20,f21,Z7,e1,c1,c2,c3];refine⟨⟨rfl,f1,f2,f20,i+1,ZS,rfl,Zk6 (by simp[Ml];omega)⟩,?_⟩;simp only[vi,Zq,↓reduceIte,f21];omega
  .have Xv:¬(i:Int)<8:=nT;obtain rfl:i=8:=nT;have Kr:=Li hb HI;simp +contextual only[go_sem,f1,f2,f20,f21,Xv,Kr]
end Go.Proofs.YtdapjaalaomghaaGreatDoor
