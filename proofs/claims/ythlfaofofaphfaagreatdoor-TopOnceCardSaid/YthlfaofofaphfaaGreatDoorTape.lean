/- Part Tape. -/
import Derived.Test.YthlfaofofaphfaaGreatDoorVst
import Derived.Test.YthlfaofofaphfaaGreatDoorBytes
import Derived.Test.YthlfaofofaphfaaGreatDoorW6
open Go.Value renaming pointer→a,int→j,agg→m
open Go.IntKind renaming i64→d
open Go.Proofs.Tryz renaming prog→y
open List renaming length→e
open Nat renaming le_refl→u
open Option renaming some→r,none→t
namespace Go.Proofs.YthlfaofofaphfaaGreatDoor
open Go Go.V
set_option linter.unusedSimpArgs false
set_option linter.unusedVariables false
set_option maxRecDepth 100000
def Xq(n:Nat):List Nat:=[n/16777216%256,n/65536%256,n/256%256,n%256]
theorem US(n:Nat):∀x∈Xq n,x<256:=by
 intro x hx;simp only[Xq,List.mem_cons,List.not_mem_nil,or_false]at hx;omega
theorem Uq(n k:Nat)(hk:k<=64):XF d (n:Int) (k:Int)=((n/2 ^ k:Nat):Int):=by
 rw[Nb d n k hk,Nat.shiftRight_eq_div_pow]
theorem mQ(T:World)(h:Hp)(B:Nat)(v:Value)(l:List Nat)(n:Nat)(o:YB B 5 h v l)(hB:B<=h.size)(hl:(e l)<=1000)(hn:n<=1073741824):
  Zd y T 25 #[v,j d n] h fun v' h'=>YB B 5 h' v' (l++Xq n)/\Zj B h h':=by
 obtain⟨p,c,rfl,hc⟩:=o.open;refine Zd.XS [_,_] Tryz.func25 ?_;have e1:XF d (n:Int) 24%256=((n/16777216%256:Nat):Int):=by rw[show (24:Int)=((24:Nat):Int) from rfl,Uq n 24 pA];omega
 have e2:XF d (n:Int) 16%256=((n/65536%256:Nat):Int):=by rw[show (16:Int)=((16:Nat):Int) from rfl,Uq n 16 pA];omega
 have e3:XF d (n:Int) 8%256=((n/256%256:Nat):Int):=by rw[show (8:Int)=((8:Nat):Int) from rfl,Uq n 8 pA];omega
 have e4:(n:Int)%256=((n%256:Nat):Int):=pA;simp +contextual -implicitDefEqProofs only[go_sem,e1,e2,e3,e4];refine ZK (E:=5) (B:=B) Xl Tryz.underlying28 TA Sn Sm (o.push _) VL (Bs.made (l:=Xq n) (US n) 4) (by simp[Xq];omega) ?_;intro v' h' Mr Qi _;simp +contextual -implicitDefEqProofs only[go_sem];exact⟨Mr,(Zj.push hB _).trans Qi⟩
theorem Fa(T:World)(h:Hp)(b:Nat):
  Zd y T 29 #[a (r ⟨b,0,t⟩)] h fun v' h'=>v'=m [a (r ⟨b,0,t⟩),a (r ⟨b,1,t⟩),a (r ⟨b,2,t⟩),a (r ⟨b,3,t⟩),a (r ⟨b,4,t⟩)].toArray/\Zj h.size h h':=by
 refine Zd.XS [_] Tryz.func29 ?_;simp +contextual -implicitDefEqProofs only[go_sem];refine VS.b h.size [(0,true),(1,true),(2,true),(3,true),(4,true),(5,true),(6,true),(7,true),(8,true),(9,true),(10,true),(11,true),(12,true),(13,true),(14,true),(15,true),(16,false)] mixed vM ?_;simp +contextual -implicitDefEqProofs only[go_sem]
 first|exact⟨Zj.pp (u _) _ _,Zj.push (u _) _⟩|exact Zj.pp (u _) _ _|exact Zj.push (u _) _
def ZC(xs:List Nat):List Nat:=xs.flatMap Xq
theorem Da(xs:List Nat)(i:Nat)(hi:i<(e xs)):ZC (xs.take (i+1))=ZC (xs.take i)++Xq xs[i]:=by
 unfold ZC;rw[Y8 xs i hi,List.flatMap_append];simp
theorem ZN(xs:List Nat):(ZC xs).length=4*(e xs):=by
 unfold ZC
 induction xs with
 | nil=>rfl
 | cons x l ih=>simp[ih,Xq];omega
def Zg1(b:Nat):List Value:=[a (r ⟨b,0,t⟩),a (r ⟨b,1,t⟩),a (r ⟨b,2,t⟩),a (r ⟨b,3,t⟩),a (r ⟨b,4,t⟩)]
theorem aY(b i:Nat)(hi:i<5):nth (Zg1 b) i=r (a (r ⟨b,i,t⟩)):=by
 rcases i with _|_|_|_|_|i<;>first|rfl|omega
theorem IR{k c s n v:Int}(h:YC k c s n v=0):∃k' c' s' n' v':Nat,k=k'/\c=c'/\s=s'/\n=n'/\v=v'/\k'<=1073741824/\c'<=1073741824/\s'<=1073741824/\n'<=1073741824/\v'<=1073741824:=by
 have:0<=k/\k<=3/\0<=c/\c<=7/\0<=s/\s<=1048576/\0<=n/\n<=7/\0<=v/\v<=1073741824:=by
  unfold YC at h
  repeat' split at h
  all_goals omega
 exact⟨k.toNat,c.toNat,s.toNat,n.toNat,v.toNat,pA,pA,pA,pA,pA,pA,pA,pA,pA,pA⟩
def iQ(h':Hp)(v':Value)(k c s n v:Int):Prop:=
 ∃w,v'=.tuple [w,j d (YC k c s n v)].toArray/\Bs h' w (if YC k c s n v=0 then ZC [k.toNat,c.toNat,s.toNat,n.toNat,v.toNat] else [])
theorem KL(T:World)(h:Hp)(k c s n v:Int):
  Zd y T 16 #[m (Ua k c s n v).toArray] h fun v' h'=>iQ h' v' k c s n v/\Zj h.size h h':=by
 refine Zd.XS [_] Tryz.func16 ?_;unfold Ua;simp +contextual -implicitDefEqProofs only[go_sem];refine (UG T _ k c s n v).use ?_;rintro v1 h1 ⟨rfl,rfl⟩;unfold Ua iQ;by_cases q:YC k c s n v=0
 .simp +contextual -implicitDefEqProofs only[go_sem,q];refine (Fa T _ h.size).use ?_;rintro v1 h1 ⟨rfl,b1⟩;obtain⟨k,c,s,n,v,rfl,rfl,rfl,rfl,rfl,y1,y2,y3,y4,y5⟩:=IR q;simp only[Int.toNat_natCast];have z1:h.size+2<=h1.size:=by have:=b1.size;simp at this;omega
  obtain⟨xs,hxs⟩:∃xs:List Nat,xs=[k,c,s,n,v]:=⟨_,rfl⟩
  have hlen:(e xs)=5:=by rw[hxs];rfl
  have cells:∀i (hi:i<5),hc h1 ⟨h.size,i,t⟩=r (j d ((xs[i]'pA:Nat):Int))/\xs[i]'pA<=1073741824:=by
   intro i hi;rw[b1.hc VL,O9,if_neg IQ,O9,if_pos rfl];subst hxs;rcases i with _|_|_|_|_|i
   .exact⟨rfl,y1⟩
   .exact⟨rfl,y2⟩
   .exact⟨rfl,y3⟩
   .exact⟨rfl,y4⟩
   .exact⟨rfl,y5⟩
   .omega
  rw[<-hxs];simp +contextual -implicitDefEqProofs only[go_sem];refine VS.Yk (fun F g=>Zj h1.size h1 g/\F 13=m (Zg1 h.size).toArray/\∃i:Nat,i<=5/\F 14=j d i/\YB h1.size 5 g (F 5) (ZC (xs.take i)))
   (fun F _=>5-(vi (F 14)).toNat) rfl ⟨Zj.refl _ _,rfl,0,pA,rfl,YB.nil _ _ _⟩ ?_
  rintro F g ⟨hb,f13,i,hi,f14,ho⟩;by_cases ZT:i<5
  .have Z7:(i:Int)<5:=pA;obtain⟨c1,c2⟩:=cells i ZT;have g1:hc g ⟨h.size,i,t⟩=r (j d ((xs[i]'pA:Nat):Int)):=by rw[hb.hc VL];exact c1
   have p1:=aY h.size i ZT;simp +contextual -implicitDefEqProofs only[go_sem,f13,f14,Z7,p1,g1];refine (mQ T _ h1.size _ _ _ ho hb.size (by rw[ZN,List.length_take];omega) c2).use ?_;rintro w h2 ⟨o2,b2⟩;simp +contextual -implicitDefEqProofs only[go_sem,f13,f14];refine⟨⟨hb.trans b2,f13,i+1,ZT,rfl,?_⟩,?_⟩
   .rw[Da xs i pA];exact o2
   .simp only[vi,Zr,↓reduceIte,f14];omega
  .have Xv:¬(i:Int)<5:=pA;obtain rfl:i=5:=pA;have e5:xs.take 5=xs:=Xt hlen;rw[e5]at ho;simp +contextual -implicitDefEqProofs only[go_sem,f13,f14,Xv];refine⟨⟨_,rfl,ho.bs⟩,?_⟩;exact (((Zj.refl _ _).add _).add _).trans (b1.mono VL) |>.trans (hb.mono pA)
 .simp +contextual -implicitDefEqProofs only[go_sem,q]
  first|exact⟨⟨_,rfl,(YB.nil 0 5 _).bs⟩,((Zj.refl _ _).add _).add _⟩|exact⟨_,rfl,(YB.nil 0 5 _).bs⟩|exact ((Zj.refl _ _).add _).add _
theorem U0(T:World)(h:Hp)(v:Value)(n:Int)(l:List Nat)(s:Bs h v l)(hl:(e l)<=140737488355328):
  Zd y T 74 #[m [v,j d n].toArray] h fun v' h'=>Zj h.size h h' /\
   (if (e l)<=100000/\0<=n/\n<=(e l) then ∃w,v'=.tuple [m [w,j d n].toArray,.bool true].toArray/\YB h.size 5 h' w l
     else v'=.tuple [m [.slice t 0 0,j d 0].toArray,.bool false].toArray):=by
 obtain⟨p,c,rfl,WB⟩:=s.open;refine Zd.XS [_] Tryz.func74 ?_;by_cases q1:n<0
 .have q:¬((e l)<=100000/\0<=n/\n<=(e l)):=pA;simp +contextual -implicitDefEqProofs only[go_sem,q1,q]
  try exact ((Zj.refl _ _).add _).add _
 .by_cases q2:((e l):Int)<n
  .have q:¬((e l)<=100000/\0<=n/\n<=(e l)):=pA;simp +contextual -implicitDefEqProofs only[go_sem,q1,q2,q]
   try exact ((Zj.refl _ _).add _).add _
  .by_cases q3:(100000:Int)<(e l)
   .have q:¬((e l)<=100000/\0<=n/\n<=(e l)):=pA;simp +contextual -implicitDefEqProofs only[go_sem,q1,q2,q3,q]
    try exact ((Zj.refl _ _).add _).add _
   .have q:((e l)<=100000/\0<=n/\n<=(e l)):=pA;simp +contextual -implicitDefEqProofs only[go_sem,q1,q2,q3];refine VS.b (h.size+1) [(0,true),(1,true),(3,true),(4,true),(2,false),(5,true),(6,false),(7,true)] mixed vM ?_;simp +contextual -implicitDefEqProofs only[go_sem,q1,q2,q3];refine (On T _ _ l (s.Yz (((Zj.refl _ _).add _).add _)) hl).use ?_;rintro v1 h1 ⟨o1,b1⟩;have z1:h.size+1<h1.size:=by have:=b1.size;simp at this;omega
    have r1:=b1.get (k:=h.size+1) IQ (by rw[Array.getElem?_push,if_pos IQ]);have w1:=Ye r1;obtain⟨p1,c1,rfl,_⟩:=o1.bs.open;simp +contextual -implicitDefEqProofs only[go_sem,w1,z1];have c0:Zj (h.size+1) _ h1:=b1.mono IQ;refine⟨c0,c0.Zt (u _) _,?_,_,rfl,?_⟩
    .exact (((Zj.refl _ _).add _).add _ |>.trans (b1.mono VL)).Zt pA _
    .exact (o1.Ya IQ _).mono VL
end Go.Proofs.YthlfaofofaphfaaGreatDoor
