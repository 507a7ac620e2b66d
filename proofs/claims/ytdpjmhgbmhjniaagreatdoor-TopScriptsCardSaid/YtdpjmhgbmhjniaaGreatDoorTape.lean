/- Part Tape. -/
import Derived.Test.YtdpjmhgbmhjniaaGreatDoorVst
import Derived.Test.YtdpjmhgbmhjniaaGreatDoorBytes
import Derived.Test.YtdpjmhgbmhjniaaGreatDoorW6
open Go.Value renaming pointer→a,int→j,agg→m
open Go.IntKind renaming i64→d
open Go.Proofs.Tryz renaming prog→y
open List renaming length→e
open Nat renaming le_refl→u
open Option renaming some→r,none→t
namespace Go.Proofs.YtdpjmhgbmhjniaaGreatDoor
open Go Go.V
set_option linter.all false
set_option maxRecDepth 100000
def Un(n:Nat):List Nat:=[n/16777216%256,n/65536%256,n/256%256,n%256]
theorem Wx(n:Nat):∀x∈Un n,x<256:=by
 intro x hx;simp only[Un,List.mem_cons,List.not_mem_nil,or_false]at hx;omega
theorem TS(n k:Nat)(hk:k<=64):Xw d (n:Int) (k:Int)=((n/2 ^ k:Nat):Int):=by
 rw[RB d n k hk,Nat.shiftRight_eq_div_pow]
theorem fy(T:World)(h:Hp)(B:Nat)(v:Value)(l:List Nat)(n:Nat)(o:Yd B 5 h v l)(hB:B<=h.size)(hl:(e l)<=1000)(hn:n<=1073741824):
  Zc y T 83 #[v,j d n] h fun v' h'=>Yd B 5 h' v' (l++Un n)/\Zf B h h':=by
 obtain⟨p,c,rfl,hc⟩:=o.open;refine Zc.Y8 [_,_] Tryz.func83 ?_;have e1:Xw d (n:Int) 24%256=((n/16777216%256:Nat):Int):=by rw[show (24:Int)=((24:Nat):Int) from rfl,TS n 24 gX];omega
 have e2:Xw d (n:Int) 16%256=((n/65536%256:Nat):Int):=by rw[show (16:Int)=((16:Nat):Int) from rfl,TS n 16 gX];omega
 have e3:Xw d (n:Int) 8%256=((n/256%256:Nat):Int):=by rw[show (8:Int)=((8:Nat):Int) from rfl,TS n 8 gX];omega
 have e4:(n:Int)%256=((n%256:Nat):Int):=gX;simp +contextual -implicitDefEqProofs only[go_sem,e1,e2,e3,e4];refine ZF (E:=5) (B:=B) YN Tryz.underlying39 WS VC VB (o.push _) L6 (Bs.made (l:=Un n) (Wx n) 4) (by simp[Un];omega) ?_;intro v' h' PW Jc _;simp +contextual -implicitDefEqProofs only[go_sem];exact⟨PW,(Zf.push hB _).trans Jc⟩
theorem Io(T:World)(h:Hp)(b:Nat):
  Zc y T 51 #[a (r ⟨b,0,t⟩)] h fun v' h'=>v'=m [a (r ⟨b,0,t⟩),a (r ⟨b,1,t⟩),a (r ⟨b,2,t⟩),a (r ⟨b,3,t⟩),a (r ⟨b,4,t⟩)].toArray/\Zf h.size h h':=by
 refine Zc.Y8 [_] Tryz.func51 ?_;simp +contextual -implicitDefEqProofs only[go_sem];refine VS.b h.size [(0,true),(1,true),(2,true),(3,true),(4,true),(5,true),(6,true),(7,true),(8,true),(9,true),(10,true),(11,true),(12,true),(13,true),(14,true),(15,true),(16,false)] mixed po ?_;simp +contextual -implicitDefEqProofs only[go_sem]
 first|exact⟨Zf.pp (u _) _ _,Zf.push (u _) _⟩|exact Zf.pp (u _) _ _|exact Zf.push (u _) _
def ZG(xs:List Nat):List Nat:=xs.flatMap Un
theorem Ga(xs:List Nat)(i:Nat)(hi:i<(e xs)):ZG (xs.take (i+1))=ZG (xs.take i)++Un xs[i]:=by
 unfold ZG;rw[Yp xs i hi,List.flatMap_append];simp
theorem ZO(xs:List Nat):(ZG xs).length=4*(e xs):=by
 unfold ZG
 induction xs with
 | nil=>rfl
 | cons x l ih=>simp[ih,Un];omega
def ZcG(b:Nat):List Value:=[a (r ⟨b,0,t⟩),a (r ⟨b,1,t⟩),a (r ⟨b,2,t⟩),a (r ⟨b,3,t⟩),a (r ⟨b,4,t⟩)]
theorem Cf(b i:Nat)(hi:i<5):nth (ZcG b) i=r (a (r ⟨b,i,t⟩)):=by
 rcases i with _|_|_|_|_|i<;>first|rfl|omega
theorem M0{k c s n v:Int}(h:Y9 k c s n v=0):∃k' c' s' n' v':Nat,k=k'/\c=c'/\s=s'/\n=n'/\v=v'/\k'<=1073741824/\c'<=1073741824/\s'<=1073741824/\n'<=1073741824/\v'<=1073741824:=by
 have:0<=k/\k<=3/\0<=c/\c<=7/\0<=s/\s<=1048576/\0<=n/\n<=7/\0<=v/\v<=1073741824:=by
  unfold Y9 at h
  repeat' split at h
  all_goals omega
 exact⟨k.toNat,c.toNat,s.toNat,n.toNat,v.toNat,gX,gX,gX,gX,gX,gX,gX,gX,gX,gX⟩
def aY(h':Hp)(v':Value)(k c s n v:Int):Prop:=
 ∃w,v'=.tuple [w,j d (Y9 k c s n v)].toArray/\Bs h' w (if Y9 k c s n v=0 then ZG [k.toNat,c.toNat,s.toNat,n.toNat,v.toNat] else [])
theorem GV(T:World)(h:Hp)(k c s n v:Int):
  Zc y T 55 #[m (QR k c s n v).toArray] h fun v' h'=>aY h' v' k c s n v/\Zf h.size h h':=by
 refine Zc.Y8 [_] Tryz.func55 ?_;unfold QR;simp +contextual -implicitDefEqProofs only[go_sem];refine (Qt T _ k c s n v).use ?_;rintro v1 h1 ⟨rfl,rfl⟩;unfold QR aY;by_cases q:Y9 k c s n v=0
 .simp +contextual -implicitDefEqProofs only[go_sem,q];refine (Io T _ h.size).use ?_;rintro v1 h1 ⟨rfl,b1⟩;obtain⟨k,c,s,n,v,rfl,rfl,rfl,rfl,rfl,y1,y2,y3,y4,y5⟩:=M0 q;simp only[Int.toNat_natCast];have z1:h.size+2<=h1.size:=by have:=b1.size;simp at this;omega
  obtain⟨xs,Ip⟩:∃xs:List Nat,xs=[k,c,s,n,v]:=⟨_,rfl⟩
  have hlen:(e xs)=5:=by rw[Ip];rfl
  have cells:∀i (hi:i<5),hc h1 ⟨h.size,i,t⟩=r (j d ((xs[i]'gX:Nat):Int))/\xs[i]'gX<=1073741824:=by
   intro i hi;rw[b1.hc L6,Rx,if_neg Dq,Rx,if_pos rfl];subst Ip;rcases i with _|_|_|_|_|i
   .exact⟨rfl,y1⟩
   .exact⟨rfl,y2⟩
   .exact⟨rfl,y3⟩
   .exact⟨rfl,y4⟩
   .exact⟨rfl,y5⟩
   .omega
  rw[<-Ip];simp +contextual -implicitDefEqProofs only[go_sem];refine VS.Z9 (fun F g=>Zf h1.size h1 g/\F 13=m (ZcG h.size).toArray/\∃i:Nat,i<=5/\F 14=j d i/\Yd h1.size 5 g (F 5) (ZG (xs.take i)))
   (fun F _=>5-(vi (F 14)).toNat) rfl ⟨Zf.refl _ _,rfl,0,gX,rfl,Yd.nil _ _ _⟩ ?_
  rintro F g ⟨hb,f13,i,hi,f14,ho⟩;by_cases ZL:i<5
  .have ZW:(i:Int)<5:=gX;obtain⟨c1,c2⟩:=cells i ZL;have g1:hc g ⟨h.size,i,t⟩=r (j d ((xs[i]'gX:Nat):Int)):=by rw[hb.hc L6];exact c1
   have p1:=Cf h.size i ZL;simp +contextual -implicitDefEqProofs only[go_sem,f13,f14,ZW,p1,g1];refine (fy T _ h1.size _ _ _ ho hb.size (by rw[ZO,List.length_take];omega) c2).use ?_;rintro w h2 ⟨o2,b2⟩;simp +contextual -implicitDefEqProofs only[go_sem,f13,f14];refine⟨⟨hb.trans b2,f13,i+1,ZL,rfl,?_⟩,?_⟩
   .rw[Ga xs i gX];exact o2
   .simp only[vi,Zk,↓reduceIte,f14];omega
  .have YU:¬(i:Int)<5:=gX;obtain rfl:i=5:=gX;have e5:xs.take 5=xs:=XH hlen;rw[e5]at ho;simp +contextual -implicitDefEqProofs only[go_sem,f13,f14,YU];refine⟨⟨_,rfl,ho.bs⟩,?_⟩;exact (((Zf.refl _ _).add _).add _).trans (b1.mono L6) |>.trans (hb.mono gX)
 .simp +contextual -implicitDefEqProofs only[go_sem,q]
  first|exact⟨⟨_,rfl,(Yd.nil 0 5 _).bs⟩,((Zf.refl _ _).add _).add _⟩|exact⟨_,rfl,(Yd.nil 0 5 _).bs⟩|exact ((Zf.refl _ _).add _).add _
theorem QG(T:World)(h:Hp)(v:Value)(n:Int)(l:List Nat)(s:Bs h v l)(hl:(e l)<=140737488355328):
  Zc y T 101 #[m [v,j d n].toArray] h fun v' h'=>Zf h.size h h' /\
   (if (e l)<=100000/\0<=n/\n<=(e l) then ∃w,v'=.tuple [m [w,j d n].toArray,.bool true].toArray/\Yd h.size 5 h' w l
     else v'=.tuple [m [.slice t 0 0,j d 0].toArray,.bool false].toArray):=by
 obtain⟨p,c,rfl,UX⟩:=s.open;refine Zc.Y8 [_] Tryz.func101 ?_;by_cases q1:n<0
 .have q:¬((e l)<=100000/\0<=n/\n<=(e l)):=gX;simp +contextual -implicitDefEqProofs only[go_sem,q1,q]
  try exact ((Zf.refl _ _).add _).add _
 .by_cases q2:((e l):Int)<n
  .have q:¬((e l)<=100000/\0<=n/\n<=(e l)):=gX;simp +contextual -implicitDefEqProofs only[go_sem,q1,q2,q]
   try exact ((Zf.refl _ _).add _).add _
  .by_cases q3:(100000:Int)<(e l)
   .have q:¬((e l)<=100000/\0<=n/\n<=(e l)):=gX;simp +contextual -implicitDefEqProofs only[go_sem,q1,q2,q3,q]
    try exact ((Zf.refl _ _).add _).add _
   .have q:((e l)<=100000/\0<=n/\n<=(e l)):=gX;simp +contextual -implicitDefEqProofs only[go_sem,q1,q2,q3];refine VS.b (h.size+1) [(0,true),(1,true),(3,true),(4,true),(2,false),(5,true),(6,false),(7,true)] mixed po ?_;simp +contextual -implicitDefEqProofs only[go_sem,q1,q2,q3];refine (Il T _ _ l (s.Yb (((Zf.refl _ _).add _).add _)) hl).use ?_;rintro v1 h1 ⟨o1,b1⟩;have z1:h.size+1<h1.size:=by have:=b1.size;simp at this;omega
    have r1:=b1.get (k:=h.size+1) Dq (by rw[Array.getElem?_push,if_pos Dq]);have w1:=Z2 r1;obtain⟨p1,c1,rfl,_⟩:=o1.bs.open;simp +contextual -implicitDefEqProofs only[go_sem,w1,z1];have c0:Zf (h.size+1) _ h1:=b1.mono Dq;refine⟨c0,c0.Zj (u _) _,?_,_,rfl,?_⟩
    .exact (((Zf.refl _ _).add _).add _ |>.trans (b1.mono L6)).Zj gX _
    .exact (o1.Z3 Dq _).mono L6
end Go.Proofs.YtdpjmhgbmhjniaaGreatDoor
