/- Part Tape. -/
import Derived.Test.YthlfaofofaphfaaGreatDoorVst
import Derived.Test.YthlfaofofaphfaaGreatDoorBytes
import Derived.Test.YthlfaofofaphfaaGreatDoorW6
open Go.Value renaming pointer→a,int→j,agg→m
open Go.IntKind renaming i64→d
open Go.Proofs.Tryz renaming prog→y
open List renaming length→e
open Nat renaming le_refl→u
open Option renaming some→r,none→t
namespace Go.Proofs.YthlfaofofaphfaaGreatDoor
open Go Go.V
set_option linter.unusedSimpArgs false
set_option linter.unusedVariables false
set_option maxRecDepth 100000
def Xl(n:Nat):List Nat:=[n/16777216%256,n/65536%256,n/256%256,n%256]
theorem UF(n:Nat):∀x∈Xl n,x<256:=by
 intro x hx;simp only[Xl,List.mem_cons,List.not_mem_nil,or_false]at hx;omega
theorem Uh(n k:Nat)(hk:k<=64):Xx d (n:Int) (k:Int)=((n/2 ^ k:Nat):Int):=by
 rw[OG d n k hk,Nat.shiftRight_eq_div_pow]
theorem kV(T:World)(h:Hp)(B:Nat)(v:Value)(l:List Nat)(n:Nat)(o:Yx B 5 h v l)(hB:B<=h.size)(hl:(e l)<=1000)(hn:n<=1073741824):
  Zd y T 25 #[v,j d n] h fun v' h'=>Yx B 5 h' v' (l++Xl n)/\Zk B h h':=by
 obtain⟨p,c,rfl,hc⟩:=o.open;refine Zd.XS [_,_] Tryz.func25 ?_;have e1:Xx d (n:Int) 24%256=((n/16777216%256:Nat):Int):=by rw[show (24:Int)=((24:Nat):Int) from rfl,Uh n 24 nc];omega
 have e2:Xx d (n:Int) 16%256=((n/65536%256:Nat):Int):=by rw[show (16:Int)=((16:Nat):Int) from rfl,Uh n 16 nc];omega
 have e3:Xx d (n:Int) 8%256=((n/256%256:Nat):Int):=by rw[show (8:Int)=((8:Nat):Int) from rfl,Uh n 8 nc];omega
 have e4:(n:Int)%256=((n%256:Nat):Int):=nc;simp +contextual -implicitDefEqProofs only[go_sem,e1,e2,e3,e4];refine ZK (E:=5) (B:=B) Xg Tryz.underlying28 Ti T4 T3 (o.push _) KQ (Bs.made (l:=Xl n) (UF n) 4) (by simp[Xl];omega) ?_;intro v' h' NM Qa _;simp +contextual -implicitDefEqProofs only[go_sem];exact⟨NM,(Zk.push hB _).trans Qa⟩
theorem Gv(T:World)(h:Hp)(b:Nat):
  Zd y T 29 #[a (r ⟨b,0,t⟩)] h fun v' h'=>v'=m [a (r ⟨b,0,t⟩),a (r ⟨b,1,t⟩),a (r ⟨b,2,t⟩),a (r ⟨b,3,t⟩),a (r ⟨b,4,t⟩)].toArray/\Zk h.size h h':=by
 refine Zd.XS [_] Tryz.func29 ?_;simp +contextual -implicitDefEqProofs only[go_sem];refine VS.b h.size [(0,true),(1,true),(2,true),(3,true),(4,true),(5,true),(6,true),(7,true),(8,true),(9,true),(10,true),(11,true),(12,true),(13,true),(14,true),(15,true),(16,false)] mixed uf ?_;simp +contextual -implicitDefEqProofs only[go_sem]
 first|exact⟨Zk.pp (u _) _ _,Zk.push (u _) _⟩|exact Zk.pp (u _) _ _|exact Zk.push (u _) _
def ZC(xs:List Nat):List Nat:=xs.flatMap Xl
theorem Ev(xs:List Nat)(i:Nat)(hi:i<(e xs)):ZC (xs.take (i+1))=ZC (xs.take i)++Xl xs[i]:=by
 unfold ZC;rw[Y2 xs i hi,List.flatMap_append];simp
theorem ZM(xs:List Nat):(ZC xs).length=4*(e xs):=by
 unfold ZC
 induction xs with
 | nil=>rfl
 | cons x l ih=>simp[ih,Xl];omega
def ZfY(b:Nat):List Value:=[a (r ⟨b,0,t⟩),a (r ⟨b,1,t⟩),a (r ⟨b,2,t⟩),a (r ⟨b,3,t⟩),a (r ⟨b,4,t⟩)]
theorem AY(b i:Nat)(hi:i<5):nth (ZfY b) i=r (a (r ⟨b,i,t⟩)):=by
 rcases i with _|_|_|_|_|i<;>first|rfl|omega
theorem Ii{k c s n v:Int}(h:YE k c s n v=0):∃k' c' s' n' v':Nat,k=k'/\c=c'/\s=s'/\n=n'/\v=v'/\k'<=1073741824/\c'<=1073741824/\s'<=1073741824/\n'<=1073741824/\v'<=1073741824:=by
 have:0<=k/\k<=3/\0<=c/\c<=7/\0<=s/\s<=1048576/\0<=n/\n<=7/\0<=v/\v<=1073741824:=by
  unfold YE at h
  repeat' split at h
  all_goals omega
 exact⟨k.toNat,c.toNat,s.toNat,n.toNat,v.toNat,nc,nc,nc,nc,nc,nc,nc,nc,nc,nc⟩
def gD(h':Hp)(v':Value)(k c s n v:Int):Prop:=
 ∃w,v'=.tuple [w,j d (YE k c s n v)].toArray/\Bs h' w (if YE k c s n v=0 then ZC [k.toNat,c.toNat,s.toNat,n.toNat,v.toNat] else [])
theorem Kc(T:World)(h:Hp)(k c s n v:Int):
  Zd y T 16 #[m (QW k c s n v).toArray] h fun v' h'=>gD h' v' k c s n v/\Zk h.size h h':=by
 refine Zd.XS [_] Tryz.func16 ?_;unfold QW;simp +contextual -implicitDefEqProofs only[go_sem];refine (Uv T _ k c s n v).use ?_;rintro v1 h1 ⟨rfl,rfl⟩;unfold QW gD;by_cases q:YE k c s n v=0
 .simp +contextual -implicitDefEqProofs only[go_sem,q];refine (Gv T _ h.size).use ?_;rintro v1 h1 ⟨rfl,b1⟩;obtain⟨k,c,s,n,v,rfl,rfl,rfl,rfl,rfl,y1,y2,y3,y4,y5⟩:=Ii q;simp only[Int.toNat_natCast];have z1:h.size+2<=h1.size:=by have:=b1.size;simp at this;omega
  obtain⟨xs,hxs⟩:∃xs:List Nat,xs=[k,c,s,n,v]:=⟨_,rfl⟩
  have hlen:(e xs)=5:=by rw[hxs];rfl
  have cells:∀i (hi:i<5),hc h1 ⟨h.size,i,t⟩=r (j d ((xs[i]'nc:Nat):Int))/\xs[i]'nc<=1073741824:=by
   intro i hi;rw[b1.hc KQ,OE,if_neg Hg,OE,if_pos rfl];subst hxs;rcases i with _|_|_|_|_|i
   .exact⟨rfl,y1⟩
   .exact⟨rfl,y2⟩
   .exact⟨rfl,y3⟩
   .exact⟨rfl,y4⟩
   .exact⟨rfl,y5⟩
   .omega
  rw[<-hxs];simp +contextual -implicitDefEqProofs only[go_sem];refine VS.Yj (fun F g=>Zk h1.size h1 g/\F 13=m (ZfY h.size).toArray/\∃i:Nat,i<=5/\F 14=j d i/\Yx h1.size 5 g (F 5) (ZC (xs.take i)))
   (fun F _=>5-(vi (F 14)).toNat) rfl ⟨Zk.refl _ _,rfl,0,nc,rfl,Yx.nil _ _ _⟩ ?_
  rintro F g ⟨hb,f13,i,hi,f14,ho⟩;by_cases ZU:i<5
  .have Z8:(i:Int)<5:=nc;obtain⟨c1,c2⟩:=cells i ZU;have g1:hc g ⟨h.size,i,t⟩=r (j d ((xs[i]'nc:Nat):Int)):=by rw[hb.hc KQ];exact c1
   have p1:=AY h.size i ZU;simp +contextual -implicitDefEqProofs only[go_sem,f13,f14,Z8,p1,g1];refine (kV T _ h1.size _ _ _ ho hb.size (by rw[ZM,List.length_take];omega) c2).use ?_;rintro w h2 ⟨o2,b2⟩;simp +contextual -implicitDefEqProofs only[go_sem,f13,f14];refine⟨⟨hb.trans b2,f13,i+1,ZU,rfl,?_⟩,?_⟩
   .rw[Ev xs i nc];exact o2
   .simp only[vi,Zr,↓reduceIte,f14];omega
  .have Xp:¬(i:Int)<5:=nc;obtain rfl:i=5:=nc;have e5:xs.take 5=xs:=Xy hlen;rw[e5]at ho;simp +contextual -implicitDefEqProofs only[go_sem,f13,f14,Xp];refine⟨⟨_,rfl,ho.bs⟩,?_⟩;exact (((Zk.refl _ _).add _).add _).trans (b1.mono KQ) |>.trans (hb.mono nc)
 .simp +contextual -implicitDefEqProofs only[go_sem,q]
  first|exact⟨⟨_,rfl,(Yx.nil 0 5 _).bs⟩,((Zk.refl _ _).add _).add _⟩|exact⟨_,rfl,(Yx.nil 0 5 _).bs⟩|exact ((Zk.refl _ _).add _).add _
theorem UP(T:World)(h:Hp)(v:Value)(n:Int)(l:List Nat)(s:Bs h v l)(hl:(e l)<=140737488355328):
  Zd y T 74 #[m [v,j d n].toArray] h fun v' h'=>Zk h.size h h' /\
   (if (e l)<=100000/\0<=n/\n<=(e l) then ∃w,v'=.tuple [m [w,j d n].toArray,.bool true].toArray/\Yx h.size 5 h' w l
     else v'=.tuple [m [.slice t 0 0,j d 0].toArray,.bool false].toArray):=by
 obtain⟨p,c,rfl,Wr⟩:=s.open;refine Zd.XS [_] Tryz.func74 ?_;by_cases q1:n<0
 .have q:¬((e l)<=100000/\0<=n/\n<=(e l)):=nc;simp +contextual -implicitDefEqProofs only[go_sem,q1,q]
  try exact ((Zk.refl _ _).add _).add _
 .by_cases q2:((e l):Int)<n
  .have q:¬((e l)<=100000/\0<=n/\n<=(e l)):=nc;simp +contextual -implicitDefEqProofs only[go_sem,q1,q2,q]
   try exact ((Zk.refl _ _).add _).add _
  .by_cases q3:(100000:Int)<(e l)
   .have q:¬((e l)<=100000/\0<=n/\n<=(e l)):=nc;simp +contextual -implicitDefEqProofs only[go_sem,q1,q2,q3,q]
    try exact ((Zk.refl _ _).add _).add _
   .have q:((e l)<=100000/\0<=n/\n<=(e l)):=nc;simp +contextual -implicitDefEqProofs only[go_sem,q1,q2,q3];refine VS.b (h.size+1) [(0,true),(1,true),(3,true),(4,true),(2,false),(5,true),(6,false),(7,true)] mixed uf ?_;simp +contextual -implicitDefEqProofs only[go_sem,q1,q2,q3];refine (PM T _ _ l (s.Yy (((Zk.refl _ _).add _).add _)) hl).use ?_;rintro v1 h1 ⟨o1,b1⟩;have z1:h.size+1<h1.size:=by have:=b1.size;simp at this;omega
    have r1:=b1.get (k:=h.size+1) Hg (by rw[Array.getElem?_push,if_pos Hg]);have w1:=Ye r1;obtain⟨p1,c1,rfl,_⟩:=o1.bs.open;simp +contextual -implicitDefEqProofs only[go_sem,w1,z1];have c0:Zk (h.size+1) _ h1:=b1.mono Hg;refine⟨c0,c0.Zt (u _) _,?_,_,rfl,?_⟩
    .exact (((Zk.refl _ _).add _).add _ |>.trans (b1.mono KQ)).Zt nc _
    .exact (o1.Ya Hg _).mono KQ
end Go.Proofs.YthlfaofofaphfaaGreatDoor
