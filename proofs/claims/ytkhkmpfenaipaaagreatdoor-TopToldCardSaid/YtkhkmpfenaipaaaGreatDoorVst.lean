/- Part Vst. -/
import Derived.Test.YtkhkmpfenaipaaaGreatDoorTy
open Go.Value renaming int→m
open Go.IntKind renaming i64→e
open Go.Obj renaming cells→w
open Go.Proofs.Tryz renaming prog→B
open List renaming length→o,toArray→A,getElem_mem→D,take_length→E
open Go renaming Value→y
namespace Go.Proofs.YtkhkmpfenaipaaaGreatDoor
open Go Go.V
set_option linter.all false
set_option maxRecDepth 100000
attribute [go_sem] Nat.reduceEqDiff Nat.reduceAdd Nat.reduceMul Nat.reduceLeDiff Nat.reduceLT Nat.reduceSub IntWalk.iteOmega IntWalk.toNatUp reduceCtorEq false_and and_false false_or or_false true_or or_true not_true_eq_false not_false_eq_true Bool.not_true Bool.not_false Bool.and_true Bool.true_and Bool.and_false Bool.false_and Bool.not_eq_true beq_self_eq_true Nat.add_zero Int.reduceLE Int.reduceLT Int.reduceToNat Int.reduceNeg
theorem Pe(T:World)(h:Hp)(a b c:Int):Zg B T 66 #[m e a,m e b,m e c] h fun g h'=>g=.bool (decide (b<=a/\a<=c))/\h'=h:=by
 refine Zg.X8 [_,_,_] Tryz.func66 ?_;by_cases d:b<=a
 .by_cases f:a<=c
  .simp +contextual only[go_sem,d,f]
  .simp +contextual only[go_sem,d,f]
 .simp +contextual only[go_sem,d]
def Wg(k c s n v:Int):List y:=[m e k,m e c,m e s,m e n,m e v]
def Xy(k c s n v:Int):Int:=
 if ¬(0<=k/\k<=3) then 4 else
 if k=0 then (if c≠0\/s≠0\/n≠0\/v≠0 then 3 else 0) else
 if ¬(0<=c/\c<=7)\/¬(0<=s/\s<=1048576)\/¬(0<=n/\n<=7)\/¬(0<=v/\v<=1073741824) then 2 else
 if 1<k/\v≠0 then 3 else 0
theorem U9(T:World)(h:Hp)(k c s n v:Int):
  Zg B T 43 #[.agg (Wg k c s n v).toArray] h fun a h'=>a=m e (Xy k c s n v)/\h'=h.push (w (Wg k c s n v).toArray 43):=by
 refine Zg.X8 [_] Tryz.func43 ?_;unfold Wg;simp +contextual only[go_sem]
 repeat' (first|(refine (Pe T _ _ _ _).pure ?_)|simp +contextual only[go_sem]|split)
 all_goals congr 1
 all_goals (try simp only[Bool.not_eq_true',Bool.and_eq_false_iff,decide_eq_false_iff_not,Bool.not_eq_false',Bool.and_eq_true,decide_eq_true_eq,Bool.not_eq_true,Bool.not_eq_false,Bool.or_eq_true,not_and,not_or,bne_iff_ne,ne_eq]at *)
 all_goals unfold Xy
 all_goals (repeat' split)
 all_goals (first|omega|trace_state)
theorem aN(T:World)(h:Hp)(v u:y)(l k:List Nat)(s:Bs h v l)(t:Bs h u k)(W:(o l)<=140737488355328):
  Zg B T 39 #[v,u] h fun L h'=>L=.bool (decide (l=k))/\h'=h:=by
 obtain⟨p,c,rfl,S⟩:=s.open;obtain⟨q,d,rfl,P⟩:=t.open;refine Zg.X8 [_,_] Tryz.func39 ?_;by_cases hlen:(o l)=(o k)
 .have b:((o l):Int)=(o k):=uh;simp +contextual only[go_sem,b];refine VS.YC (fun F g=>g=h/\F 0=.slice p (o l) c/\F 1=.slice q (o k) d/\F 13=m e (o l)/\∃i x:Nat,i<=(o l)/\x<256/\F 14=m e i/\F 5=m .u8 x/\(x=0↔l.take i=k.take i))
   (fun F _=>(o l)-(vi (F 14)).toNat) rfl ⟨rfl,rfl,rfl,by rw[b];rfl,0,0,uh,uh,rfl,rfl,zX⟩ ?_
  rintro F g ⟨rfl,f,f1,f13,i,x,hi,J,f14,C,j⟩;by_cases G:i<(o l)
  .have Q:(i:Int)<(o l):=uh;have a:i<(o k):=uh;obtain⟨Y,V,rfl,Ck,g1⟩:=S zK;obtain⟨X,U,rfl,Z,M⟩:=P zK;have z:=g1 i G;have r:=M i a;have I:=s.byte _ (D G);have H:=t.byte _ (D a);simp +contextual only[go_sem,f,f1,f13,f14,C,Q];refine VS.q mixed zI ?_;simp +contextual only[go_sem,f,f1,f13,f14,C,z,r];have O:=ar l[i] k[i] I H;have K:l[i] ^^^ k[i]<256:=Nat.xor_lt_two_pow (n:=8) I H;have N:=ZnI x (l[i] ^^^ k[i]) J K;rw[O,N];refine⟨⟨rfl,f,f1,f13,i+1,x ||| (l[i] ^^^ k[i]),G,Nat.or_lt_two_pow (n:=8) J K,rfl,rfl,?_⟩,?_⟩
   .grind [Xg,av,List.append_inj']
   .simp only[vi,Zu,↓reduceIte,f14];omega
  .have R:¬(i:Int)<(o l):=uh;simp +contextual only[go_sem,f,f1,f13,f14,C,R];obtain rfl:i=(o l):=uh;rw[E,hlen,E]at j
   congr 1
   grind
 .have b:¬((o l):Int)=(o k):=uh;simp +contextual only[go_sem,b]
  congr 1
  grind
def Oi(c r u:Int):List y:=[m e c,m e r,m e u]
def QN(c r u:Int):Int:=if ¬(0<=c/\c<=7)\/¬(0<=r/\r<=7)\/¬(0<=u/\u<=1048576) then 2 else 0
theorem Ep(T:World)(h:Hp)(c r u:Int):
  Zg B T 41 #[.agg (Oi c r u).toArray] h fun a h'=>a=m e (QN c r u)/\h'=h.push (w (Oi c r u).toArray 74):=by
 refine Zg.X8 [_] Tryz.func41 ?_;unfold Oi;by_cases f:0<=c/\c<=7
 ·
  by_cases d:0<=r/\r<=7
  ·
   by_cases b:0<=u/\u<=1048576
   ·
    repeat' (first|(refine (Pe T _ _ _ _).pure ?_)|simp +contextual only[go_sem, *])
    grind [QN]
   ·
    repeat' (first|(refine (Pe T _ _ _ _).pure ?_)|simp +contextual only[go_sem, *])
    grind [QN]
  ·
   repeat' (first|(refine (Pe T _ _ _ _).pure ?_)|simp +contextual only[go_sem, *])
   grind [QN]
 ·
  repeat' (first|(refine (Pe T _ _ _ _).pure ?_)|simp +contextual only[go_sem, *])
  grind [QN]
def Ff(cs:List y)(i:Nat):Bool:=decide (ci cs i<0\/1073741824<ci cs i)
def Kw(cs:List y)(i:Nat):Bool:=decide (ci cs (8+i)<0\/1048577<ci cs (8+i)\/(ci cs (8+i)=0/\¬(ci cs (16+i*2)=0/\ci cs (16+i*2+1)=0)))
def XK(cs:List y):Bool:=(List.range 8).any fun i=>Ff cs i||Kw cs i
theorem Uu{cs:List y}(i:Nat)(hi:i<8)(hb:Ff cs i=true\/Kw cs i=true):XK cs=true:=by
 grind [XK]
theorem Kx{cs:List y}(b:∀i,i<8->Ff cs i=false)(a:∀i,i<8->Kw cs i=false):XK cs=false:=by
 grind [XK]
theorem vx(T:World)(h:Hp)(cs:List y)(r:(o cs)=40)(l:∀i,i<32->nth cs i=some (m e (ci cs i))):
  Zg B T 44 #[.agg (A cs)] h fun C h'=>C=m e (if XK cs=true then 5 else 0)/\h'=h.push (w (A cs) 57):=by
 refine Zg.X8 [_] Tryz.func44 ?_;simp +contextual only[go_sem,r];refine VS.YC (fun F g=>g=h.push (w (A cs) 57)/\F 1=.pointer (some ⟨h.size,0,none⟩)/\F 2=m e 0/\F 8=.agg (cs.take 8).toArray/\∃i:Nat,i<=8/\F 9=m e i/\∀j,j<i->Ff cs j=false)
  (fun F _=>8-(vi (F 9)).toNat) rfl ⟨rfl,rfl,rfl,rfl,0,uh,rfl,fun j v=>by omega⟩ ?_
 rintro F g ⟨rfl,f1,f2,q,i,hi,p,hb⟩;by_cases k:i<8
 .have f:(i:Int)<8:=uh;have c:=l i uh;by_cases b:ci cs i<0
  .have a:=Uu (cs:=cs) i k (.inl (by simp[Ff,b]));simp +contextual only[go_sem,f1,f2,q,p,f,c,b,a]
  .by_cases d:1073741824<ci cs i
   .have a:=Uu (cs:=cs) i k (.inl (by simp[Ff,d]));simp +contextual only[go_sem,f1,f2,q,p,f,c,b,d,a]
   .simp +contextual only[go_sem,f1,f2,q,p,f,c,b,d];refine⟨⟨rfl,f1,f2,q,i+1,k,rfl,fun j v=>?_⟩,?_⟩
    .grind [Ff]
    .simp only[vi,Zu,↓reduceIte,p];omega
 .have z:¬(i:Int)<8:=uh;obtain rfl:i=8:=uh;simp +contextual only[go_sem,f1,f2,q,p,z,r];refine VS.YC (fun F g=>g=h.push (w (A cs) 57)/\F 1=.pointer (some ⟨h.size,0,none⟩)/\F 2=m e 0/\F 20=.agg ((cs.drop 8).take 8).toArray/\∃i:Nat,i<=8/\F 21=m e i/\∀j,j<i->Kw cs j=false)
   (fun F _=>8-(vi (F 21)).toNat) rfl ⟨rfl,f1,f2,rfl,0,uh,rfl,fun j v=>by omega⟩ ?_
  clear f1 f2 q p F;rintro F g ⟨rfl,f1,f2,f20,i,hi,f21,G⟩;by_cases k:i<8
  .have f:(i:Int)<8:=uh;have c:=l (8+i) uh;have x:=eI (l (16+i*2) uh) (l (16+i*2+1) uh);have t:Kw cs i=false->∀j,j<i+1->Kw cs j=false:=fun h j v=>by
    grind
   by_cases b:ci cs (8+i)<0
   .have a:=Uu (cs:=cs) i k (.inr (by simp[Kw,b]));simp +contextual only[go_sem,f1,f2,f20,f21,f,c,b,a]
   .by_cases d:1048577<ci cs (8+i)
    .have a:=Uu (cs:=cs) i k (.inr (by simp[Kw,d]));simp +contextual only[go_sem,f1,f2,f20,f21,f,c,b,d,a]
    .by_cases n:ci cs (8+i)=0
     .by_cases s:ci cs (16+i*2)=0
      .by_cases u:ci cs (16+i*2+1)=0
       .simp +contextual only[go_sem,f1,f2,f20,f21,f,c,b,d,n,x,s,u,r];refine⟨⟨rfl,f1,f2,f20,i+1,k,rfl,t (by simp[Kw,n,s,u])⟩,?_⟩;simp only[vi,Zu,↓reduceIte,f21];omega
       .have a:=Uu (cs:=cs) i k (.inr (by simp[Kw,n,u]));simp +contextual only[go_sem,f1,f2,f20,f21,f,c,b,d,n,x,s,u,r,a]
      .have a:=Uu (cs:=cs) i k (.inr (by simp[Kw,n,s]));simp +contextual only[go_sem,f1,f2,f20,f21,f,c,b,d,n,x,s,r,a]
     .simp +contextual only[go_sem,f1,f2,f20,f21,f,c,b,d,n];refine⟨⟨rfl,f1,f2,f20,i+1,k,rfl,t (by simp[Kw];omega)⟩,?_⟩;simp only[vi,Zu,↓reduceIte,f21];omega
  .have z:¬(i:Int)<8:=uh;obtain rfl:i=8:=uh;have a:=Kx hb G;simp +contextual only[go_sem,f1,f2,f20,f21,z,a]
end Go.Proofs.YtkhkmpfenaipaaaGreatDoor
