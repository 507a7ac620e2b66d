/- OrderEncodes holds: order.Encode answers what the document says, at every argument; without any condition. -/
import Derived.Test.YtkfhncfkagcamaaGreatDoorVst
import Derived.Test.YtkfhncfkagcamaaGreatDoorBytes
import Derived.Test.YtkfhncfkagcamaaGreatDoorW6
namespace Go.Proofs.YtkfhncfkagcamaaGreatDoor
open Go Go.V
set_option linter.unusedSimpArgs false
set_option linter.unusedVariables false
set_option maxRecDepth 100000
def Qs (n:Nat):List Nat:=[n/16777216%256,n/65536%256,n/256%256,n%256]
theorem UX (n:Nat):∀x∈Qs n,x<256:=by
 intro x hx
 simp only[Qs,List.mem_cons,List.not_mem_nil,or_false]at hx
 omega
theorem VZ (n k:Nat) (hk:k≤64):Xa .i64 (n:Int) (k:Int)=((n/2 ^ k:Nat):Int):=by
 rw[Sx .i64 n k hk,Nat.shiftRight_eq_div_pow]
theorem bW (T:World) (h:Hp) (B:Nat) (v:Value) (l:List Nat) (n:Nat) (o:Z1 B 5 h v l) (hB:B≤h.size) (hl:l.length≤1000) (hn:n≤1073741824) :
  Zd Tryz.prog T 63 #[v,.int .i64 n] h fun v' h'=>Z1 B 5 h' v' (l++Qs n)∧Ze B h h':=by
 obtain⟨p,c,rfl,hc⟩:=o.open
 refine Zd.Zi (args:=[_,_]) Tryz.func63 rfl rfl rfl rfl ?_
 have e1:Xa .i64 (n:Int) 24%256=((n/16777216%256:Nat):Int):=by rw[show (24:Int)=((24:Nat):Int) from rfl,VZ n 24 (by omega)];omega
 have e2:Xa .i64 (n:Int) 16%256=((n/65536%256:Nat):Int):=by rw[show (16:Int)=((16:Nat):Int) from rfl,VZ n 16 (by omega)];omega
 have e3:Xa .i64 (n:Int) 8%256=((n/256%256:Nat):Int):=by rw[show (8:Int)=((8:Nat):Int) from rfl,VZ n 8 (by omega)];omega
 have e4:(n:Int)%256=((n%256:Nat):Int):=by omega
 simp +contextual -implicitDefEqProofs only[go_sem,↓reduceIte,e1,e2,e3,e4]
 refine Zv (E:=5) (B:=B) Yt Tryz.underlying34 Wf Vh Vg (o.push _) (by simp;omega) (Bs.made (l:=Qs n) (UX n) 4) (by simp[Qs];omega) ?_
 intro v' h' Rt X3 _
 simp +contextual -implicitDefEqProofs only[go_sem,↓reduceIte]
 exact⟨Rt,(Ze.push hB _).trans X3⟩
theorem LB (T:World) (h:Hp) (b:Nat) :
  Zd Tryz.prog T 54 #[.pointer (some ⟨b,0,none⟩)] h fun v' h'=>v'=.agg [.pointer (some ⟨b,0,none⟩),.pointer (some ⟨b,1,none⟩),.pointer (some ⟨b,2,none⟩),.pointer (some ⟨b,3,none⟩),.pointer (some ⟨b,4,none⟩)].toArray∧Ze h.size h h':=by
 refine Zd.Zi (args:=[_]) Tryz.func54 rfl rfl rfl rfl ?_
 simp +contextual -implicitDefEqProofs only[go_sem,↓reduceIte]
 refine VS.b h.size [(0,true),(1,true),(2,true),(3,true),(4,true),(5,true),(6,true),(7,true),(8,true),(9,true),(10,true),(11,true),(12,true),(13,true),(14,true),(15,true),(16,false)] mixed (by kernel_rfl) ?_
 simp +contextual -implicitDefEqProofs only[go_sem,↓reduceIte]
 first|exact⟨Ze.pp (Nat.le_refl _) _ _,Ze.push (Nat.le_refl _) _⟩|exact Ze.pp (Nat.le_refl _) _ _|exact Ze.push (Nat.le_refl _) _
def Zx (xs:List Nat):List Nat:=xs.flatMap Qs
theorem Iw (xs:List Nat) (i:Nat) (hi:i<xs.length):Zx (xs.take (i+1))=Zx (xs.take i)++Qs xs[i]:=by
 unfold Zx
 rw[Z9 xs i hi,List.flatMap_append]
 simp
theorem ZB (xs:List Nat):(Zx xs).length=4*xs.length:=by
 unfold Zx
 induction xs with
 | nil=>rfl
 | cons x l ih=>simp[ih,Qs];omega
def zy (b:Nat):List Value:=[.pointer (some ⟨b,0,none⟩),.pointer (some ⟨b,1,none⟩),.pointer (some ⟨b,2,none⟩),.pointer (some ⟨b,3,none⟩),.pointer (some ⟨b,4,none⟩)]
theorem Ew (b i:Nat) (hi:i<5):nth (zy b) i=some (.pointer (some ⟨b,i,none⟩)):=by
 rcases i with _|_|_|_|_|i<;>first|rfl|omega
theorem Nr {k c s n v:Int} (h:YI k c s n v=0):∃k' c' s' n' v':Nat,k=k'∧c=c'∧s=s'∧n=n'∧v=v'∧k'≤1073741824∧c'≤1073741824∧s'≤1073741824∧n'≤1073741824∧v'≤1073741824:=by
 have:0≤k∧k≤3∧0≤c∧c≤7∧0≤s∧s≤1048576∧0≤n∧n≤7∧0≤v∧v≤1073741824:=by
  unfold YI at h
  repeat' split at h
  all_goals omega
 exact⟨k.toNat,c.toNat,s.toNat,n.toNat,v.toNat,by omega,by omega,by omega,by omega,by omega,by omega,by omega,by omega,by omega,by omega⟩
def BT (h':Hp) (v':Value) (k c s n v:Int):Prop:=
 ∃w,v'=.tuple [w,.int .i64 (YI k c s n v)].toArray∧Bs h' w (if YI k c s n v=0 then Zx [k.toNat,c.toNat,s.toNat,n.toNat,v.toNat] else [])
theorem Hc (T:World) (h:Hp) (k c s n v:Int) :
  Zd Tryz.prog T 42 #[.agg (Qi k c s n v).toArray] h fun v' h'=>BT h' v' k c s n v∧Ze h.size h h':=by
 refine Zd.Zi (args:=[_]) Tryz.func42 rfl rfl rfl rfl ?_
 unfold Qi
 simp +contextual -implicitDefEqProofs only[go_sem,↓reduceIte]
 refine (JX T _ k c s n v).use ?_
 rintro v1 h1 ⟨rfl,rfl⟩
 unfold Qi BT
 by_cases q:YI k c s n v=0
 ·simp +contextual -implicitDefEqProofs only[go_sem,↓reduceIte,q]
  refine (LB T _ h.size).use ?_
  rintro v1 h1 ⟨rfl,b1⟩
  obtain⟨k,c,s,n,v,rfl,rfl,rfl,rfl,rfl,y1,y2,y3,y4,y5⟩:=Nr q
  simp only[Int.toNat_natCast]
  have z1:h.size+2≤h1.size:=by have:=b1.size;simp at this;omega
  obtain⟨xs,sR⟩:∃xs:List Nat,xs=[k,c,s,n,v]:=⟨_,rfl⟩
  have hlen:xs.length=5:=by rw[sR];rfl
  have cells:∀i (hi:i<5),hc h1 ⟨h.size,i,none⟩=some (.int .i64 ((xs[i]'(by omega):Nat):Int))∧xs[i]'(by omega)≤1073741824:=by
   intro i hi
   rw[b1.hc (by simp;omega),Sv,if_neg (by simp),Sv,if_pos rfl]
   subst sR
   rcases i with _|_|_|_|_|i
   ·exact⟨rfl,y1⟩
   ·exact⟨rfl,y2⟩
   ·exact⟨rfl,y3⟩
   ·exact⟨rfl,y4⟩
   ·exact⟨rfl,y5⟩
   ·omega
  rw[←sR]
  simp +contextual -implicitDefEqProofs only[go_sem,↓reduceIte]
  refine VS.ZU (fun F g=>Ze h1.size h1 g∧F 13=.agg (zy h.size).toArray∧∃i:Nat,i≤5∧F 14=.int .i64 i∧Z1 h1.size 5 g (F 5) (Zx (xs.take i)))
   (fun F _=>5-(vi (F 14)).toNat) rfl ⟨Ze.refl _ _,rfl,0,by omega,rfl,Z1.nil _ _ _⟩ ?_
  rintro F g ⟨hb,f13,i,hi,f14,ho⟩
  by_cases ZA:i<5
  ·have ZH:(i:Int)<5:=by omega
   obtain⟨c1,c2⟩:=cells i ZA
   have g1:hc g ⟨h.size,i,none⟩=some (.int .i64 ((xs[i]'(by omega):Nat):Int)):=by rw[hb.hc (by simp;omega)];exact c1
   have p1:=Ew h.size i ZA
   simp +contextual -implicitDefEqProofs only[go_sem,↓reduceIte,f13,f14,ZH,p1,g1]
   refine (bW T _ h1.size _ _ _ ho hb.size (by rw[ZB,List.length_take];omega) c2).use ?_
   rintro w h2 ⟨o2,b2⟩
   simp +contextual -implicitDefEqProofs only[go_sem,↓reduceIte,f13,f14]
   refine⟨⟨hb.trans b2,f13,i+1,ZA,rfl,?_⟩,?_⟩
   ·rw[Iw xs i (by omega)];exact o2
   ·simp only[vi,Zh,↓reduceIte,f14];omega
  ·have YE:¬(i:Int)<5:=by omega
   obtain rfl:i=5:=by omega
   have e5:xs.take 5=xs:=Xg hlen
   rw[e5]at ho
   simp +contextual -implicitDefEqProofs only[go_sem,↓reduceIte,f13,f14,YE]
   refine⟨⟨_,rfl,ho.bs⟩,?_⟩
   exact (((Ze.refl _ _).add _).add _).trans (b1.mono (by simp;omega)) |>.trans (hb.mono (by omega))
 ·simp +contextual -implicitDefEqProofs only[go_sem,↓reduceIte,q]
  first|exact⟨⟨_,rfl,(Z1.nil 0 5 _).bs⟩,((Ze.refl _ _).add _).add _⟩|exact⟨_,rfl,(Z1.nil 0 5 _).bs⟩|exact ((Ze.refl _ _).add _).add _
theorem Qc (T:World) (h:Hp) (v:Value) (n:Int) (l:List Nat) (s:Bs h v l) (hl:l.length≤140737488355328) :
  Zd Tryz.prog T 98 #[.agg [v,.int .i64 n].toArray] h fun v' h'=>Ze h.size h h' ∧
   (if l.length≤100000∧0≤n∧n≤l.length then ∃w,v'=.tuple [.agg [w,.int .i64 n].toArray,.bool true].toArray∧Z1 h.size 5 h' w l
     else v'=.tuple [.agg [.slice none 0 0,.int .i64 0].toArray,.bool false].toArray):=by
 obtain⟨p,c,rfl,UA⟩:=s.open
 refine Zd.Zi (args:=[_]) Tryz.func98 rfl rfl rfl rfl ?_
 by_cases q1:n<0
 ·have q:¬(l.length≤100000∧0≤n∧n≤l.length):=by omega
  simp +contextual -implicitDefEqProofs only[go_sem,↓reduceIte,q1,q]
  try exact ((Ze.refl _ _).add _).add _
 ·by_cases q2:(l.length:Int)<n
  ·have q:¬(l.length≤100000∧0≤n∧n≤l.length):=by omega
   simp +contextual -implicitDefEqProofs only[go_sem,↓reduceIte,q1,q2,q]
   try exact ((Ze.refl _ _).add _).add _
  ·by_cases q3:(100000:Int)<l.length
   ·have q:¬(l.length≤100000∧0≤n∧n≤l.length):=by omega
    simp +contextual -implicitDefEqProofs only[go_sem,↓reduceIte,q1,q2,q3,q]
    try exact ((Ze.refl _ _).add _).add _
   ·have q:(l.length≤100000∧0≤n∧n≤l.length):=by omega
    simp +contextual -implicitDefEqProofs only[go_sem,↓reduceIte,q1,q2,q3]
    refine VS.b (h.size+1) [(0,true),(1,true),(3,true),(4,true),(2,false),(5,true),(6,false),(7,true)] mixed (by kernel_rfl) ?_
    simp +contextual -implicitDefEqProofs only[go_sem,↓reduceIte,q1,q2,q3]
    refine (LA T _ _ l (s.Z4 (((Ze.refl _ _).add _).add _)) hl).use ?_
    rintro v1 h1 ⟨o1,b1⟩
    have z1:h.size+1<h1.size:=by have:=b1.size;simp at this;omega
    have r1:=b1.get (k:=h.size+1) (by simp) (by rw[Array.getElem?_push,if_pos (by simp)])
    have w1:=ZP r1
    obtain⟨p1,c1,rfl,_⟩:=o1.bs.open
    simp +contextual -implicitDefEqProofs only[go_sem,↓reduceIte,w1,z1]
    have c0:Ze (h.size+1) _ h1:=b1.mono (by simp)
    refine⟨c0,c0.Zk (Nat.le_refl _) _,?_,_,rfl,?_⟩
    ·exact (((Ze.refl _ _).add _).add _ |>.trans (b1.mono (by simp;omega))).Zk (by omega) _
    ·exact (o1.ZQ (by simp) _).mono (by simp;omega)
end Go.Proofs.YtkfhncfkagcamaaGreatDoor
