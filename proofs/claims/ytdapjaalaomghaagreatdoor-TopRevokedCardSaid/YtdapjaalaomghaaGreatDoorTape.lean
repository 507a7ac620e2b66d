/- Part Tape. -/
import Derived.Test.YtdapjaalaomghaaGreatDoorVst
import Derived.Test.YtdapjaalaomghaaGreatDoorBytes
import Derived.Test.YtdapjaalaomghaaGreatDoorW6
open Go.Value renaming pointer→a,int→j,agg→m
open Go.IntKind renaming i64→d
open Go.Proofs.Tryz renaming prog→y
open List renaming length→e
open Nat renaming le_refl→u
open Option renaming some→r,none→t
namespace Go.Proofs.YtdapjaalaomghaaGreatDoor
open Go Go.V
set_option linter.all false
set_option maxRecDepth 100000
def Xj(n:Nat):List Nat:=[n/16777216%256,n/65536%256,n/256%256,n%256]
theorem UL(n:Nat):∀x∈Xj n,x<256:=by
 intro x hx;simp only[Xj,List.mem_cons,List.not_mem_nil,or_false]at hx;omega
theorem Uf(n k:Nat)(hk:k<=64):XA d (n:Int) (k:Int)=((n/2 ^ k:Nat):Int):=by
 rw[OX d n k hk,Nat.shiftRight_eq_div_pow]
theorem l9(T:World)(h:Hp)(B:Nat)(v:Value)(l:List Nat)(n:Nat)(o:Yx B 5 h v l)(hB:B<=h.size)(hl:(e l)<=1000)(hn:n<=1073741824):
  Zd y T 23 #[v,j d n] h fun v' h'=>Yx B 5 h' v' (l++Xj n)/\Zj B h h':=by
 obtain⟨p,c,rfl,hc⟩:=o.open;refine Zd.XT [_,_] Tryz.func23 ?_;have e1:XA d (n:Int) 24%256=((n/16777216%256:Nat):Int):=by rw[show (24:Int)=((24:Nat):Int) from rfl,Uf n 24 nT];omega
 have e2:XA d (n:Int) 16%256=((n/65536%256:Nat):Int):=by rw[show (16:Int)=((16:Nat):Int) from rfl,Uf n 16 nT];omega
 have e3:XA d (n:Int) 8%256=((n/256%256:Nat):Int):=by rw[show (8:Int)=((8:Nat):Int) from rfl,Uf n 8 nT];omega
 have e4:(n:Int)%256=((n%256:Nat):Int):=nT;simp +contextual only[go_sem,e1,e2,e3,e4];refine ZJ (E:=5) (B:=B) Xd Tryz.underlying26 Tv Si Sh (o.push _) Ig (Bs.made (l:=Xj n) (UL n) 4) (by simp[Xj];omega) ?_;intro v' h' Me J9 _;simp +contextual only[go_sem];exact⟨Me,(Zj.push hB _).trans J9⟩
theorem GN(T:World)(h:Hp)(b:Nat):
  Zd y T 27 #[a (r ⟨b,0,t⟩)] h fun v' h'=>v'=m [a (r ⟨b,0,t⟩),a (r ⟨b,1,t⟩),a (r ⟨b,2,t⟩),a (r ⟨b,3,t⟩),a (r ⟨b,4,t⟩)].toArray/\Zj h.size h h':=by
 refine Zd.XT [_] Tryz.func27 ?_;simp +contextual only[go_sem];refine VS.b h.size [(0,true),(1,true),(2,true),(3,true),(4,true),(5,true),(6,true),(7,true),(8,true),(9,true),(10,true),(11,true),(12,true),(13,true),(14,true),(15,true),(16,false)] mixed uj ?_;simp +contextual only[go_sem]
 first|exact⟨Zj.pp (u _) _ _,Zj.push (u _) _⟩|exact Zj.pp (u _) _ _|exact Zj.push (u _) _
def ZB(xs:List Nat):List Nat:=xs.flatMap Xj
theorem EN(xs:List Nat)(i:Nat)(hi:i<(e xs)):ZB (xs.take (i+1))=ZB (xs.take i)++Xj xs[i]:=by
 unfold ZB;rw[Y1 xs i hi,List.flatMap_append];simp
theorem ZK(xs:List Nat):(ZB xs).length=4*(e xs):=by
 unfold ZB
 induction xs with
 | nil=>rfl
 | cons x l ih=>simp[ih,Xj];omega
def ZgC(b:Nat):List Value:=[a (r ⟨b,0,t⟩),a (r ⟨b,1,t⟩),a (r ⟨b,2,t⟩),a (r ⟨b,3,t⟩),a (r ⟨b,4,t⟩)]
theorem aC(b i:Nat)(hi:i<5):nth (ZgC b) i=r (a (r ⟨b,i,t⟩)):=by
 rcases i with _|_|_|_|_|i<;>first|rfl|omega
theorem Ix{k c s n v:Int}(h:Y0 k c s n v=0):∃k' c' s' n' v':Nat,k=k'/\c=c'/\s=s'/\n=n'/\v=v'/\k'<=1073741824/\c'<=1073741824/\s'<=1073741824/\n'<=1073741824/\v'<=1073741824:=by
 have:0<=k/\k<=3/\0<=c/\c<=7/\0<=s/\s<=1048576/\0<=n/\n<=7/\0<=v/\v<=1073741824:=by
  unfold Y0 at h
  repeat' split at h
  all_goals omega
 exact⟨k.toNat,c.toNat,s.toNat,n.toNat,v.toNat,nT,nT,nT,nT,nT,nT,nT,nT,nT,nT⟩
def ir(h':Hp)(v':Value)(k c s n v:Int):Prop:=
 ∃w,v'=.tuple [w,j d (Y0 k c s n v)].toArray/\Bs h' w (if Y0 k c s n v=0 then ZB [k.toNat,c.toNat,s.toNat,n.toNat,v.toNat] else [])
theorem Ks(T:World)(h:Hp)(k c s n v:Int):
  Zd y T 14 #[m (Uy k c s n v).toArray] h fun v' h'=>ir h' v' k c s n v/\Zj h.size h h':=by
 refine Zd.XT [_] Tryz.func14 ?_;unfold Uy;simp +contextual only[go_sem];refine (Uz T _ k c s n v).use ?_;rintro v1 h1 ⟨rfl,rfl⟩;unfold Uy ir;by_cases q:Y0 k c s n v=0
 .simp +contextual only[go_sem,q];refine (GN T _ h.size).use ?_;rintro v1 h1 ⟨rfl,b1⟩;obtain⟨k,c,s,n,v,rfl,rfl,rfl,rfl,rfl,y1,y2,y3,y4,y5⟩:=Ix q;simp only[Int.toNat_natCast];have z1:h.size+2<=h1.size:=by have:=b1.size;simp at this;omega
  obtain⟨xs,hxs⟩:∃xs:List Nat,xs=[k,c,s,n,v]:=⟨_,rfl⟩
  have hlen:(e xs)=5:=by rw[hxs];rfl
  have cells:∀i (hi:i<5),hc h1 ⟨h.size,i,t⟩=r (j d ((xs[i]'nT:Nat):Int))/\xs[i]'nT<=1073741824:=by
   intro i hi;rw[b1.hc Ig,OV,if_neg uK,OV,if_pos rfl];subst hxs;rcases i with _|_|_|_|_|i
   .exact⟨rfl,y1⟩
   .exact⟨rfl,y2⟩
   .exact⟨rfl,y3⟩
   .exact⟨rfl,y4⟩
   .exact⟨rfl,y5⟩
   .omega
  rw[<-hxs];simp +contextual only[go_sem];refine VS.Yk (fun F g=>Zj h1.size h1 g/\F 13=m (ZgC h.size).toArray/\∃i:Nat,i<=5/\F 14=j d i/\Yx h1.size 5 g (F 5) (ZB (xs.take i)))
   (fun F _=>5-(vi (F 14)).toNat) rfl ⟨Zj.refl _ _,rfl,0,nT,rfl,Yx.nil _ _ _⟩ ?_
  rintro F g ⟨hb,f13,i,hi,f14,ho⟩;by_cases ZS:i<5
  .have Z7:(i:Int)<5:=nT;obtain⟨c1,c2⟩:=cells i ZS;have g1:hc g ⟨h.size,i,t⟩=r (j d ((xs[i]'nT:Nat):Int)):=by rw[hb.hc Ig];exact c1
   have p1:=aC h.size i ZS;simp +contextual only[go_sem,f13,f14,Z7,p1,g1];refine (l9 T _ h1.size _ _ _ ho hb.size (by rw[ZK,List.length_take];omega) c2).use ?_;rintro w h2 ⟨o2,b2⟩;simp +contextual only[go_sem,f13,f14];refine⟨⟨hb.trans b2,f13,i+1,ZS,rfl,?_⟩,?_⟩
   .rw[EN xs i nT];exact o2
   .simp only[vi,Zq,↓reduceIte,f14];omega
  .have Xv:¬(i:Int)<5:=nT;obtain rfl:i=5:=nT;have e5:xs.take 5=xs:=XB hlen;rw[e5]at ho;simp +contextual only[go_sem,f13,f14,Xv];refine⟨⟨_,rfl,ho.bs⟩,?_⟩;exact (((Zj.refl _ _).add _).add _).trans (b1.mono Ig) |>.trans (hb.mono nT)
 .simp +contextual only[go_sem,q]
  first|exact⟨⟨_,rfl,(Yx.nil 0 5 _).bs⟩,((Zj.refl _ _).add _).add _⟩|exact⟨_,rfl,(Yx.nil 0 5 _).bs⟩|exact ((Zj.refl _ _).add _).add _
theorem UX(T:World)(h:Hp)(v:Value)(n:Int)(l:List Nat)(s:Bs h v l)(hl:(e l)<=140737488355328):
  Zd y T 72 #[m [v,j d n].toArray] h fun v' h'=>Zj h.size h h' /\
   (if (e l)<=100000/\0<=n/\n<=(e l) then ∃w,v'=.tuple [m [w,j d n].toArray,.bool true].toArray/\Yx h.size 5 h' w l
     else v'=.tuple [m [.slice t 0 0,j d 0].toArray,.bool false].toArray):=by
 obtain⟨p,c,rfl,WE⟩:=s.open;refine Zd.XT [_] Tryz.func72 ?_;by_cases q1:n<0
 .have q:¬((e l)<=100000/\0<=n/\n<=(e l)):=nT;simp +contextual only[go_sem,q1,q]
  try exact ((Zj.refl _ _).add _).add _
 .by_cases q2:((e l):Int)<n
  .have q:¬((e l)<=100000/\0<=n/\n<=(e l)):=nT;simp +contextual only[go_sem,q1,q2,q]
   try exact ((Zj.refl _ _).add _).add _
  .by_cases q3:(100000:Int)<(e l)
   .have q:¬((e l)<=100000/\0<=n/\n<=(e l)):=nT;simp +contextual only[go_sem,q1,q2,q3,q]
    try exact ((Zj.refl _ _).add _).add _
   .have q:((e l)<=100000/\0<=n/\n<=(e l)):=nT;simp +contextual only[go_sem,q1,q2,q3];refine VS.b (h.size+1) [(0,true),(1,true),(3,true),(4,true),(2,false),(5,true),(6,false),(7,true)] mixed uj ?_;simp +contextual only[go_sem,q1,q2,q3];refine (Oj T _ _ l (s.Yz (((Zj.refl _ _).add _).add _)) hl).use ?_;rintro v1 h1 ⟨o1,b1⟩;have z1:h.size+1<h1.size:=by have:=b1.size;simp at this;omega
    have r1:=b1.get (k:=h.size+1) uK (by rw[Array.getElem?_push,if_pos uK]);have w1:=Yd r1;obtain⟨p1,c1,rfl,_⟩:=o1.bs.open;simp +contextual only[go_sem,w1,z1];have c0:Zj (h.size+1) _ h1:=b1.mono uK;refine⟨c0,c0.Zs (u _) _,?_,_,rfl,?_⟩
    .exact (((Zj.refl _ _).add _).add _ |>.trans (b1.mono Ig)).Zs nT _
    .exact (o1.Z9 uK _).mono Ig
end Go.Proofs.YtdapjaalaomghaaGreatDoor
