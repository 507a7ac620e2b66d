/- OrderEncodes holds: order.Encode answers what the document says, at every argument; without any condition. -/
import Derived.Test.YtboeoomhjbcecaaGreatDoorVst
import Derived.Test.YtboeoomhjbcecaaGreatDoorBytes
import Derived.Test.YtboeoomhjbcecaaGreatDoorW6
namespace Go.Proofs.YtboeoomhjbcecaaGreatDoor
open Go Go.V
set_option linter.unusedSimpArgs false
set_option linter.unusedVariables false
set_option maxRecDepth 100000
def Xb (n:Nat):List Nat:=[n/16777216%256,n/65536%256,n/256%256,n%256]
theorem Qx (n:Nat):∀x∈Xb n,x<256:=by
 intro x hx;simp only[Xb,List.mem_cons,List.not_mem_nil,or_false]at hx;omega
theorem J8 (n k:Nat) (hk:k≤64):YV .i64 (n:Int) (k:Int)=((n/2 ^ k:Nat):Int):=by
 rw[SX .i64 n k hk,Nat.shiftRight_eq_div_pow]
theorem dG (T:World) (h:Hp) (B:Nat) (v:Value) (l:List Nat) (n:Nat) (o:Z0 B 5 h v l) (hB:B≤h.size) (hl:l.length≤1000) (hn:n≤1073741824) :
  Zc Tryz.prog T 42 #[v,.int .i64 n] h fun v' h'=>Z0 B 5 h' v' (l++Xb n)∧Zf B h h':=by
 obtain⟨p,c,rfl,hc⟩:=o.open;refine Zc.Zk (args:=[_,_]) Tryz.func42 rfl rfl rfl rfl ?_;have e1:YV .i64 (n:Int) 24%256=((n/16777216%256:Nat):Int):=by rw[show (24:Int)=((24:Nat):Int) from rfl,J8 n 24 (by omega)];omega
 have e2:YV .i64 (n:Int) 16%256=((n/65536%256:Nat):Int):=by rw[show (16:Int)=((16:Nat):Int) from rfl,J8 n 16 (by omega)];omega
 have e3:YV .i64 (n:Int) 8%256=((n/256%256:Nat):Int):=by rw[show (8:Int)=((8:Nat):Int) from rfl,J8 n 8 (by omega)];omega
 have e4:(n:Int)%256=((n%256:Nat):Int):=by omega
 simp +contextual -implicitDefEqProofs only[go_sem,↓reduceIte,e1,e2,e3,e4];refine Zv (E:=5) (B:=B) YD Tryz.underlying48 Wg WY WX (o.push _) (by simp;omega) (Bs.made (l:=Xb n) (Qx n) 4) (by simp[Xb];omega) ?_;intro v' h' R7 XH _;simp +contextual -implicitDefEqProofs only[go_sem,↓reduceIte];exact⟨R7,(Zf.push hB _).trans XH⟩
theorem Kw (T:World) (h:Hp) (b:Nat) :
  Zc Tryz.prog T 41 #[.pointer (some ⟨b,0,none⟩)] h fun v' h'=>v'=.agg [.pointer (some ⟨b,0,none⟩),.pointer (some ⟨b,1,none⟩),.pointer (some ⟨b,2,none⟩),.pointer (some ⟨b,3,none⟩),.pointer (some ⟨b,4,none⟩)].toArray∧Zf h.size h h':=by
 refine Zc.Zk (args:=[_]) Tryz.func41 rfl rfl rfl rfl ?_;simp +contextual -implicitDefEqProofs only[go_sem,↓reduceIte];refine VS.b h.size [(0,true),(1,true),(2,true),(3,true),(4,true),(5,true),(6,true),(7,true),(8,true),(9,true),(10,true),(11,true),(12,true),(13,true),(14,true),(15,true),(16,false)] mixed (by kernel_rfl) ?_;simp +contextual -implicitDefEqProofs only[go_sem,↓reduceIte]
 first|exact⟨Zf.pp (Nat.le_refl _) _ _,Zf.push (Nat.le_refl _) _⟩|exact Zf.pp (Nat.le_refl _) _ _|exact Zf.push (Nat.le_refl _) _
def Zr (xs:List Nat):List Nat:=xs.flatMap Xb
theorem Hf (xs:List Nat) (i:Nat) (hi:i<xs.length):Zr (xs.take (i+1))=Zr (xs.take i)++Xb xs[i]:=by
 unfold Zr;rw[Yl xs i hi,List.flatMap_append];simp
theorem ZC (xs:List Nat):(Zr xs).length=4*xs.length:=by
 unfold Zr
 induction xs with
 | nil=>rfl
 | cons x l ih=>simp[ih,Xb];omega
def Zbk (b:Nat):List Value:=[.pointer (some ⟨b,0,none⟩),.pointer (some ⟨b,1,none⟩),.pointer (some ⟨b,2,none⟩),.pointer (some ⟨b,3,none⟩),.pointer (some ⟨b,4,none⟩)]
theorem Dq (b i:Nat) (hi:i<5):nth (Zbk b) i=some (.pointer (some ⟨b,i,none⟩)):=by
 rcases i with _|_|_|_|_|i<;>first|rfl|omega
theorem Ms {k c s n v:Int} (h:Yx k c s n v=0):∃k' c' s' n' v':Nat,k=k'∧c=c'∧s=s'∧n=n'∧v=v'∧k'≤1073741824∧c'≤1073741824∧s'≤1073741824∧n'≤1073741824∧v'≤1073741824:=by
 have:0≤k∧k≤3∧0≤c∧c≤7∧0≤s∧s≤1048576∧0≤n∧n≤7∧0≤v∧v≤1073741824:=by
  unfold Yx at h
  repeat' split at h
  all_goals omega
 exact⟨k.toNat,c.toNat,s.toNat,n.toNat,v.toNat,by omega,by omega,by omega,by omega,by omega,by omega,by omega,by omega,by omega,by omega⟩
def AU (h':Hp) (v':Value) (k c s n v:Int):Prop:=
 ∃w,v'=.tuple [w,.int .i64 (Yx k c s n v)].toArray∧Bs h' w (if Yx k c s n v=0 then Zr [k.toNat,c.toNat,s.toNat,n.toNat,v.toNat] else [])
theorem Nv (T:World) (h:Hp) (k c s n v:Int) :
  Zc Tryz.prog T 26 #[.agg (Qp k c s n v).toArray] h fun v' h'=>AU h' v' k c s n v∧Zf h.size h h':=by
 refine Zc.Zk (args:=[_]) Tryz.func26 rfl rfl rfl rfl ?_;unfold Qp;simp +contextual -implicitDefEqProofs only[go_sem,↓reduceIte];refine (Qq T _ k c s n v).use ?_;rintro v1 h1 ⟨rfl,rfl⟩;unfold Qp AU;by_cases q:Yx k c s n v=0
 ·simp +contextual -implicitDefEqProofs only[go_sem,↓reduceIte,q];refine (Kw T _ h.size).use ?_;rintro v1 h1 ⟨rfl,b1⟩;obtain⟨k,c,s,n,v,rfl,rfl,rfl,rfl,rfl,y1,y2,y3,y4,y5⟩:=Ms q;simp only[Int.toNat_natCast];have z1:h.size+2≤h1.size:=by have:=b1.size;simp at this;omega
  obtain⟨xs,vj⟩:∃xs:List Nat,xs=[k,c,s,n,v]:=⟨_,rfl⟩
  have hlen:xs.length=5:=by rw[vj];rfl
  have cells:∀i (hi:i<5),hc h1 ⟨h.size,i,none⟩=some (.int .i64 ((xs[i]'(by omega):Nat):Int))∧xs[i]'(by omega)≤1073741824:=by
   intro i hi;rw[b1.hc (by simp;omega),SV,if_neg (by simp),SV,if_pos rfl];subst vj;rcases i with _|_|_|_|_|i
   ·exact⟨rfl,y1⟩
   ·exact⟨rfl,y2⟩
   ·exact⟨rfl,y3⟩
   ·exact⟨rfl,y4⟩
   ·exact⟨rfl,y5⟩
   ·omega
  rw[←vj];simp +contextual -implicitDefEqProofs only[go_sem,↓reduceIte];refine VS.ZW (fun F g=>Zf h1.size h1 g∧F 13=.agg (Zbk h.size).toArray∧∃i:Nat,i≤5∧F 14=.int .i64 i∧Z0 h1.size 5 g (F 5) (Zr (xs.take i)))
   (fun F _=>5-(vi (F 14)).toNat) rfl ⟨Zf.refl _ _,rfl,0,by omega,rfl,Z0.nil _ _ _⟩ ?_
  rintro F g ⟨hb,f13,i,hi,f14,ho⟩;by_cases ZD:i<5
  ·have ZL:(i:Int)<5:=by omega
   obtain⟨c1,c2⟩:=cells i ZD;have g1:hc g ⟨h.size,i,none⟩=some (.int .i64 ((xs[i]'(by omega):Nat):Int)):=by rw[hb.hc (by simp;omega)];exact c1
   have p1:=Dq h.size i ZD;simp +contextual -implicitDefEqProofs only[go_sem,↓reduceIte,f13,f14,ZL,p1,g1];refine (dG T _ h1.size _ _ _ ho hb.size (by rw[ZC,List.length_take];omega) c2).use ?_;rintro w h2 ⟨o2,b2⟩;simp +contextual -implicitDefEqProofs only[go_sem,↓reduceIte,f13,f14];refine⟨⟨hb.trans b2,f13,i+1,ZD,rfl,?_⟩,?_⟩
   ·rw[Hf xs i (by omega)];exact o2
   ·simp only[vi,Zi,↓reduceIte,f14];omega
  ·have YJ:¬(i:Int)<5:=by omega
   obtain rfl:i=5:=by omega
   have e5:xs.take 5=xs:=YW hlen;rw[e5]at ho;simp +contextual -implicitDefEqProofs only[go_sem,↓reduceIte,f13,f14,YJ];refine⟨⟨_,rfl,ho.bs⟩,?_⟩;exact (((Zf.refl _ _).add _).add _).trans (b1.mono (by simp;omega)) |>.trans (hb.mono (by omega))
 ·simp +contextual -implicitDefEqProofs only[go_sem,↓reduceIte,q]
  first|exact⟨⟨_,rfl,(Z0.nil 0 5 _).bs⟩,((Zf.refl _ _).add _).add _⟩|exact⟨_,rfl,(Z0.nil 0 5 _).bs⟩|exact ((Zf.refl _ _).add _).add _
theorem QB (T:World) (h:Hp) (v:Value) (n:Int) (l:List Nat) (s:Bs h v l) (hl:l.length≤140737488355328) :
  Zc Tryz.prog T 52 #[.agg [v,.int .i64 n].toArray] h fun v' h'=>Zf h.size h h' ∧
   (if l.length≤100000∧0≤n∧n≤l.length then ∃w,v'=.tuple [.agg [w,.int .i64 n].toArray,.bool true].toArray∧Z0 h.size 5 h' w l
     else v'=.tuple [.agg [.slice none 0 0,.int .i64 0].toArray,.bool false].toArray):=by
 obtain⟨p,c,rfl,Us⟩:=s.open;refine Zc.Zk (args:=[_]) Tryz.func52 rfl rfl rfl rfl ?_;by_cases q1:n<0
 ·have q:¬(l.length≤100000∧0≤n∧n≤l.length):=by omega
  simp +contextual -implicitDefEqProofs only[go_sem,↓reduceIte,q1,q]
  try exact ((Zf.refl _ _).add _).add _
 ·by_cases q2:(l.length:Int)<n
  ·have q:¬(l.length≤100000∧0≤n∧n≤l.length):=by omega
   simp +contextual -implicitDefEqProofs only[go_sem,↓reduceIte,q1,q2,q]
   try exact ((Zf.refl _ _).add _).add _
  ·by_cases q3:(100000:Int)<l.length
   ·have q:¬(l.length≤100000∧0≤n∧n≤l.length):=by omega
    simp +contextual -implicitDefEqProofs only[go_sem,↓reduceIte,q1,q2,q3,q]
    try exact ((Zf.refl _ _).add _).add _
   ·have q:(l.length≤100000∧0≤n∧n≤l.length):=by omega
    simp +contextual -implicitDefEqProofs only[go_sem,↓reduceIte,q1,q2,q3];refine VS.b (h.size+1) [(0,true),(1,true),(3,true),(4,true),(2,false),(5,true),(6,false),(7,true)] mixed (by kernel_rfl) ?_;simp +contextual -implicitDefEqProofs only[go_sem,↓reduceIte,q1,q2,q3];refine (Sk T _ _ l (s.Z2 (((Zf.refl _ _).add _).add _)) hl).use ?_;rintro v1 h1 ⟨o1,b1⟩;have z1:h.size+1<h1.size:=by have:=b1.size;simp at this;omega
    have r1:=b1.get (k:=h.size+1) (by simp) (by rw[Array.getElem?_push,if_pos (by simp)]);have w1:=ZU r1;obtain⟨p1,c1,rfl,_⟩:=o1.bs.open;simp +contextual -implicitDefEqProofs only[go_sem,↓reduceIte,w1,z1];have c0:Zf (h.size+1) _ h1:=b1.mono (by simp);refine⟨c0,c0.Zm (Nat.le_refl _) _,?_,_,rfl,?_⟩
    ·exact (((Zf.refl _ _).add _).add _ |>.trans (b1.mono (by simp;omega))).Zm (by omega) _
    ·exact (o1.ZP (by simp) _).mono (by simp;omega)
end Go.Proofs.YtboeoomhjbcecaaGreatDoor
