/- OrderEncodes holds: order.Encode answers what the document says, at every argument; without any condition. -/
import Derived.Test.YtboeoomhjbcecaaGreatDoorVst
import Derived.Test.YtboeoomhjbcecaaGreatDoorBytes
import Derived.Test.YtboeoomhjbcecaaGreatDoorW6
namespace Go.Proofs.YtboeoomhjbcecaaGreatDoor
open Go Go.V
set_option linter.unusedSimpArgs false
set_option linter.unusedVariables false
set_option maxRecDepth 100000
def Y8 (n:Nat):List Nat:=[n/16777216%256,n/65536%256,n/256%256,n%256]
theorem Qt (n:Nat):∀x∈Y8 n,x<256:=by
 intro x hx;simp only[Y8,List.mem_cons,List.not_mem_nil,or_false]at hx;omega
theorem JY (n k:Nat) (hk:k≤64):YT .i64 (n:Int) (k:Int)=((n/2 ^ k:Nat):Int):=by
 rw[SP .i64 n k hk,Nat.shiftRight_eq_div_pow]
theorem dJ (T:World) (h:Hp) (B:Nat) (v:Value) (l:List Nat) (n:Nat) (o:Z0 B 5 h v l) (hB:B≤h.size) (hl:l.length≤1000) (hn:n≤1073741824) :
  Zc Tryz.prog T 42 #[v,.int .i64 n] h fun v' h'=>Z0 B 5 h' v' (l++Y8 n)∧Zg B h h':=by
 obtain⟨p,c,rfl,hc⟩:=o.open;refine Zc.Zj (args:=[_,_]) Tryz.func42 rfl rfl rfl rfl ?_;have e1:YT .i64 (n:Int) 24%256=((n/16777216%256:Nat):Int):=by rw[show (24:Int)=((24:Nat):Int) from rfl,JY n 24 (by omega)];omega
 have e2:YT .i64 (n:Int) 16%256=((n/65536%256:Nat):Int):=by rw[show (16:Int)=((16:Nat):Int) from rfl,JY n 16 (by omega)];omega
 have e3:YT .i64 (n:Int) 8%256=((n/256%256:Nat):Int):=by rw[show (8:Int)=((8:Nat):Int) from rfl,JY n 8 (by omega)];omega
 have e4:(n:Int)%256=((n%256:Nat):Int):=by omega
 simp +contextual -implicitDefEqProofs only[go_sem,↓reduceIte,e1,e2,e3,e4];refine Zv (E:=5) (B:=B) YA Tryz.underlying48 Wi WY WX (o.push _) (by simp;omega) (Bs.made (l:=Y8 n) (Qt n) 4) (by simp[Y8];omega) ?_;intro v' h' RS XU _;simp +contextual -implicitDefEqProofs only[go_sem,↓reduceIte];exact⟨RS,(Zg.push hB _).trans XU⟩
theorem Kq (T:World) (h:Hp) (b:Nat) :
  Zc Tryz.prog T 41 #[.pointer (some ⟨b,0,none⟩)] h fun v' h'=>v'=.agg [.pointer (some ⟨b,0,none⟩),.pointer (some ⟨b,1,none⟩),.pointer (some ⟨b,2,none⟩),.pointer (some ⟨b,3,none⟩),.pointer (some ⟨b,4,none⟩)].toArray∧Zg h.size h h':=by
 refine Zc.Zj (args:=[_]) Tryz.func41 rfl rfl rfl rfl ?_;simp +contextual -implicitDefEqProofs only[go_sem,↓reduceIte];refine VS.b h.size [(0,true),(1,true),(2,true),(3,true),(4,true),(5,true),(6,true),(7,true),(8,true),(9,true),(10,true),(11,true),(12,true),(13,true),(14,true),(15,true),(16,false)] mixed (by kernel_rfl) ?_;simp +contextual -implicitDefEqProofs only[go_sem,↓reduceIte]
 first|exact⟨Zg.pp (Nat.le_refl _) _ _,Zg.push (Nat.le_refl _) _⟩|exact Zg.pp (Nat.le_refl _) _ _|exact Zg.push (Nat.le_refl _) _
def Zr (xs:List Nat):List Nat:=xs.flatMap Y8
theorem Hb (xs:List Nat) (i:Nat) (hi:i<xs.length):Zr (xs.take (i+1))=Zr (xs.take i)++Y8 xs[i]:=by
 unfold Zr;rw[Ym xs i hi,List.flatMap_append];simp
theorem ZC (xs:List Nat):(Zr xs).length=4*xs.length:=by
 unfold Zr
 induction xs with
 | nil=>rfl
 | cons x l ih=>simp[ih,Y8];omega
def Zbl (b:Nat):List Value:=[.pointer (some ⟨b,0,none⟩),.pointer (some ⟨b,1,none⟩),.pointer (some ⟨b,2,none⟩),.pointer (some ⟨b,3,none⟩),.pointer (some ⟨b,4,none⟩)]
theorem Dt (b i:Nat) (hi:i<5):nth (Zbl b) i=some (.pointer (some ⟨b,i,none⟩)):=by
 rcases i with _|_|_|_|_|i<;>first|rfl|omega
theorem Ml {k c s n v:Int} (h:YH k c s n v=0):∃k' c' s' n' v':Nat,k=k'∧c=c'∧s=s'∧n=n'∧v=v'∧k'≤1073741824∧c'≤1073741824∧s'≤1073741824∧n'≤1073741824∧v'≤1073741824:=by
 have:0≤k∧k≤3∧0≤c∧c≤7∧0≤s∧s≤1048576∧0≤n∧n≤7∧0≤v∧v≤1073741824:=by
  unfold YH at h
  repeat' split at h
  all_goals omega
 exact⟨k.toNat,c.toNat,s.toNat,n.toNat,v.toNat,by omega,by omega,by omega,by omega,by omega,by omega,by omega,by omega,by omega,by omega⟩
def AW (h':Hp) (v':Value) (k c s n v:Int):Prop:=
 ∃w,v'=.tuple [w,.int .i64 (YH k c s n v)].toArray∧Bs h' w (if YH k c s n v=0 then Zr [k.toNat,c.toNat,s.toNat,n.toNat,v.toNat] else [])
theorem Nk (T:World) (h:Hp) (k c s n v:Int) :
  Zc Tryz.prog T 26 #[.agg (Qk k c s n v).toArray] h fun v' h'=>AW h' v' k c s n v∧Zg h.size h h':=by
 refine Zc.Zj (args:=[_]) Tryz.func26 rfl rfl rfl rfl ?_;unfold Qk;simp +contextual -implicitDefEqProofs only[go_sem,↓reduceIte];refine (Ql T _ k c s n v).use ?_;rintro v1 h1 ⟨rfl,rfl⟩;unfold Qk AW;by_cases q:YH k c s n v=0
 ·simp +contextual -implicitDefEqProofs only[go_sem,↓reduceIte,q];refine (Kq T _ h.size).use ?_;rintro v1 h1 ⟨rfl,b1⟩;obtain⟨k,c,s,n,v,rfl,rfl,rfl,rfl,rfl,y1,y2,y3,y4,y5⟩:=Ml q;simp only[Int.toNat_natCast];have z1:h.size+2≤h1.size:=by have:=b1.size;simp at this;omega
  obtain⟨xs,vw⟩:∃xs:List Nat,xs=[k,c,s,n,v]:=⟨_,rfl⟩
  have hlen:xs.length=5:=by rw[vw];rfl
  have cells:∀i (hi:i<5),hc h1 ⟨h.size,i,none⟩=some (.int .i64 ((xs[i]'(by omega):Nat):Int))∧xs[i]'(by omega)≤1073741824:=by
   intro i hi;rw[b1.hc (by simp;omega),SN,if_neg (by simp),SN,if_pos rfl];subst vw;rcases i with _|_|_|_|_|i
   ·exact⟨rfl,y1⟩
   ·exact⟨rfl,y2⟩
   ·exact⟨rfl,y3⟩
   ·exact⟨rfl,y4⟩
   ·exact⟨rfl,y5⟩
   ·omega
  rw[←vw];simp +contextual -implicitDefEqProofs only[go_sem,↓reduceIte];refine VS.ZW (fun F g=>Zg h1.size h1 g∧F 13=.agg (Zbl h.size).toArray∧∃i:Nat,i≤5∧F 14=.int .i64 i∧Z0 h1.size 5 g (F 5) (Zr (xs.take i)))
   (fun F _=>5-(vi (F 14)).toNat) rfl ⟨Zg.refl _ _,rfl,0,by omega,rfl,Z0.nil _ _ _⟩ ?_
  rintro F g ⟨hb,f13,i,hi,f14,ho⟩;by_cases ZD:i<5
  ·have ZP:(i:Int)<5:=by omega
   obtain⟨c1,c2⟩:=cells i ZD;have g1:hc g ⟨h.size,i,none⟩=some (.int .i64 ((xs[i]'(by omega):Nat):Int)):=by rw[hb.hc (by simp;omega)];exact c1
   have p1:=Dt h.size i ZD;simp +contextual -implicitDefEqProofs only[go_sem,↓reduceIte,f13,f14,ZP,p1,g1];refine (dJ T _ h1.size _ _ _ ho hb.size (by rw[ZC,List.length_take];omega) c2).use ?_;rintro w h2 ⟨o2,b2⟩;simp +contextual -implicitDefEqProofs only[go_sem,↓reduceIte,f13,f14];refine⟨⟨hb.trans b2,f13,i+1,ZD,rfl,?_⟩,?_⟩
   ·rw[Hb xs i (by omega)];exact o2
   ·simp only[vi,Zm,↓reduceIte,f14];omega
  ·have YK:¬(i:Int)<5:=by omega
   obtain rfl:i=5:=by omega
   have e5:xs.take 5=xs:=YU hlen;rw[e5]at ho;simp +contextual -implicitDefEqProofs only[go_sem,↓reduceIte,f13,f14,YK];refine⟨⟨_,rfl,ho.bs⟩,?_⟩;exact (((Zg.refl _ _).add _).add _).trans (b1.mono (by simp;omega)) |>.trans (hb.mono (by omega))
 ·simp +contextual -implicitDefEqProofs only[go_sem,↓reduceIte,q]
  first|exact⟨⟨_,rfl,(Z0.nil 0 5 _).bs⟩,((Zg.refl _ _).add _).add _⟩|exact⟨_,rfl,(Z0.nil 0 5 _).bs⟩|exact ((Zg.refl _ _).add _).add _
theorem Qz (T:World) (h:Hp) (v:Value) (n:Int) (l:List Nat) (s:Bs h v l) (hl:l.length≤140737488355328) :
  Zc Tryz.prog T 52 #[.agg [v,.int .i64 n].toArray] h fun v' h'=>Zg h.size h h' ∧
   (if l.length≤100000∧0≤n∧n≤l.length then ∃w,v'=.tuple [.agg [w,.int .i64 n].toArray,.bool true].toArray∧Z0 h.size 5 h' w l
     else v'=.tuple [.agg [.slice none 0 0,.int .i64 0].toArray,.bool false].toArray):=by
 obtain⟨p,c,rfl,Us⟩:=s.open;refine Zc.Zj (args:=[_]) Tryz.func52 rfl rfl rfl rfl ?_;by_cases q1:n<0
 ·have q:¬(l.length≤100000∧0≤n∧n≤l.length):=by omega
  simp +contextual -implicitDefEqProofs only[go_sem,↓reduceIte,q1,q]
  try exact ((Zg.refl _ _).add _).add _
 ·by_cases q2:(l.length:Int)<n
  ·have q:¬(l.length≤100000∧0≤n∧n≤l.length):=by omega
   simp +contextual -implicitDefEqProofs only[go_sem,↓reduceIte,q1,q2,q]
   try exact ((Zg.refl _ _).add _).add _
  ·by_cases q3:(100000:Int)<l.length
   ·have q:¬(l.length≤100000∧0≤n∧n≤l.length):=by omega
    simp +contextual -implicitDefEqProofs only[go_sem,↓reduceIte,q1,q2,q3,q]
    try exact ((Zg.refl _ _).add _).add _
   ·have q:(l.length≤100000∧0≤n∧n≤l.length):=by omega
    simp +contextual -implicitDefEqProofs only[go_sem,↓reduceIte,q1,q2,q3];refine VS.b (h.size+1) [(0,true),(1,true),(3,true),(4,true),(2,false),(5,true),(6,false),(7,true)] mixed (by kernel_rfl) ?_;simp +contextual -implicitDefEqProofs only[go_sem,↓reduceIte,q1,q2,q3];refine (Sh T _ _ l (s.Z3 (((Zg.refl _ _).add _).add _)) hl).use ?_;rintro v1 h1 ⟨o1,b1⟩;have z1:h.size+1<h1.size:=by have:=b1.size;simp at this;omega
    have r1:=b1.get (k:=h.size+1) (by simp) (by rw[Array.getElem?_push,if_pos (by simp)]);have w1:=ZU r1;obtain⟨p1,c1,rfl,_⟩:=o1.bs.open;simp +contextual -implicitDefEqProofs only[go_sem,↓reduceIte,w1,z1];have c0:Zg (h.size+1) _ h1:=b1.mono (by simp);refine⟨c0,c0.Zk (Nat.le_refl _) _,?_,_,rfl,?_⟩
    ·exact (((Zg.refl _ _).add _).add _ |>.trans (b1.mono (by simp;omega))).Zk (by omega) _
    ·exact (o1.ZQ (by simp) _).mono (by simp;omega)
end Go.Proofs.YtboeoomhjbcecaaGreatDoor
