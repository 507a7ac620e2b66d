/- Ballots and votes: what the small functions compute; no condition but those in the statements. -/
import Derived.Test.YtpomedigibbeeaaGreatDoorVst
import Derived.Test.YtpomedigibbeeaaGreatDoorW13
import Derived.Test.YtpomedigibbeeaaGreatDoorLchks
namespace Go.Proofs.YtpomedigibbeeaaGreatDoor
open Go Go.V
set_option linter.unusedSimpArgs false
set_option linter.unusedVariables false
set_option maxRecDepth 100000
structure YG where
 r:Int
 n:Int
structure Vt where
 slot:Int
 b:YG
 k:Int
 c:Int
 s:Int
 nm:Int
 v:Int
def Je (b:YG):List Value:=[.int .i64 b.r,.int .i64 b.n]
def Zn (v:Vt):List Value:=[.int .i64 v.slot,.int .i64 v.b.r,.int .i64 v.b.n,.int .i64 v.k,.int .i64 v.c,.int .i64 v.s,.int .i64 v.nm,.int .i64 v.v]
def ZM (b:YG):Prop:=(1≤b.r∧b.r≤65536)∧(0≤b.n∧b.n≤4)
instance (b:YG):Decidable (ZM b):=by unfold ZM;infer_instance
def Z6 (v:Vt):Prop:=(0≤v.slot∧v.slot≤39)∧ZM v.b∧YM v.k v.c v.s v.nm v.v=0
instance (v:Vt):Decidable (Z6 v):=by unfold Z6;infer_instance
def below (a b:YG):Prop:=a.r<b.r∨(a.r=b.r∧a.n<b.n)
instance (a b:YG):Decidable (below a b):=by unfold below;infer_instance
def S7 (a b:Int):Int:=if a<b then -1 else if b<a then 1 else 0
def Nb (a b:YG):Int:=if S7 a.r b.r=0 then S7 a.n b.n else S7 a.r b.r
theorem VD (a b:YG):0<Nb a b↔below b a:=by
 unfold Nb S7 below
 repeat' split
 all_goals omega
theorem Og (a b:YG):Nb a b<0↔below a b:=by
 unfold Nb S7 below
 repeat' split
 all_goals omega
theorem ES (T:World) (h:Hp) (a:Int):Zd Tryz.prog T 144 #[.int .i64 a] h fun v' h'=>v'=.bool false∧h'=h:=by
 refine Zd.Zj (args:=[_]) Tryz.func144 rfl rfl rfl rfl ?_
 simp -implicitDefEqProofs only[go_sem,↓reduceIte]
theorem Vb (T:World) (h:Hp) (a b:Int):Zd Tryz.prog T 129 #[.int .i64 a,.int .i64 b] h fun v' h'=>v'=.int .i64 (S7 a b)∧h'=h:=by
 refine Zd.Zj (args:=[_,_]) Tryz.func129 rfl rfl rfl rfl ?_
 simp -implicitDefEqProofs only[go_sem,↓reduceIte]
 refine (ES T _ _).pure ?_
 simp -implicitDefEqProofs only[go_sem,↓reduceIte]
 refine (ES T _ _).pure ?_
 unfold S7
 by_cases q1:a<b
 ·simp -implicitDefEqProofs only[go_sem,↓reduceIte,q1]
 ·by_cases q2:b<a
  ·simp -implicitDefEqProofs only[go_sem,↓reduceIte,q1,q2]
  ·simp -implicitDefEqProofs only[go_sem,↓reduceIte,q1,q2]
theorem mP (T:World) (h:Hp) (b:Nat) (x y:Int) (h0:hc h ⟨b,0,none⟩=some (.int .i64 x)) (h1:hc h ⟨b,1,none⟩=some (.int .i64 y)):Zd Tryz.prog T 143 #[.slice (some ⟨b,0,none⟩) 2 2] h fun v' h'=>v'=.int .i64 (if x=0 then y else x)∧h'=h:=by
 refine Zd.Zj (args:=[_]) Tryz.func143 rfl rfl rfl rfl ?_
 simp -implicitDefEqProofs only[go_sem,↓reduceIte]
 refine VS.rounds 3 rfl ?_
 by_cases q1:x=0
 ·by_cases q2:y=0
  ·simp -implicitDefEqProofs only[go_sem,↓reduceIte,h0,h1,q1,q2,Int.reduceAdd]
  ·simp -implicitDefEqProofs only[go_sem,↓reduceIte,h0,h1,q1,q2,Int.reduceAdd]
 ·simp -implicitDefEqProofs only[go_sem,↓reduceIte,h0,h1,q1]
theorem VE (T:World) (h:Hp) (b:YG):Zd Tryz.prog T 123 #[.agg (Je b).toArray] h fun v' h'=>v'=.bool (decide (ZM b))∧h'=h.push (.cells (Je b).toArray 102):=by
 refine Zd.Zj (args:=[_]) Tryz.func123 rfl rfl rfl rfl ?_
 unfold Je
 by_cases q1:1≤b.r
 ·by_cases q2:b.r≤65536
  ·by_cases q3:0≤b.n
   ·by_cases q4:b.n<5
    ·have e:ZM b:=⟨⟨q1,q2⟩,q3,by omega⟩
     simp -implicitDefEqProofs only[go_sem,↓reduceIte,q1,q2,q3,q4,e]
    ·have e:¬ZM b:=by unfold ZM;omega
     simp -implicitDefEqProofs only[go_sem,↓reduceIte,q1,q2,q3,q4,e]
   ·have e:¬ZM b:=by unfold ZM;omega
    simp -implicitDefEqProofs only[go_sem,↓reduceIte,q1,q2,q3,e]
  ·have e:¬ZM b:=by unfold ZM;omega
   simp -implicitDefEqProofs only[go_sem,↓reduceIte,q1,q2,e]
 ·have e:¬ZM b:=by unfold ZM;omega
  simp -implicitDefEqProofs only[go_sem,↓reduceIte,q1,e]
theorem U7 (T:World) (h:Hp) (a b:YG):Zd Tryz.prog T 124 #[.agg (Je a).toArray,.agg (Je b).toArray] h fun v' h'=>v'=.int .i64 (Nb a b)∧Zg h.size h h':=by
 refine Zd.Zj (args:=[_,_]) Tryz.func124 rfl rfl rfl rfl ?_
 unfold Je
 simp -implicitDefEqProofs only[go_sem,↓reduceIte]
 refine VS.w (h.size+2) [] (.q 0 (.q 1 (.q 2 (.q 3 (.q 5 (.q 6 (.q 7 (.q 8 (.s 4 (.s 9 (.s 10 (.s 11 (.q 12 .nil))))))))))))) mixed (by kernel_rfl) ?_
 simp -implicitDefEqProofs only[go_sem,↓reduceIte]
 refine (Vb T _ _ _).pure ?_
 simp -implicitDefEqProofs only[go_sem,↓reduceIte]
 refine (Vb T _ _ _).pure ?_
 simp -implicitDefEqProofs only[go_sem,↓reduceIte]
 refine⟨(Zg.refl _ _).Yh (by simp) _,?_⟩
 refine (mP T _ _ (S7 a.r b.r) (S7 a.n b.n) ?_ ?_).pure ?_
 ·simp -implicitDefEqProofs only[go_sem,↓reduceIte]
 ·simp -implicitDefEqProofs only[go_sem,↓reduceIte]
 unfold Nb
 simp -implicitDefEqProofs only[go_sem,↓reduceIte]
 refine⟨(Zg.refl _ _).Yh (by simp) _,?_⟩
 (repeat' (first|exact Zg.refl _ _|assumption|refine Zg.add ?_ _|refine Zg.Zl ?_ (by first|omega|(simp;omega)) _|refine Zg.trans (by assumption) ?_))
theorem MV (T:World) (h:Hp) (v:Vt):Zd Tryz.prog T 126 #[.agg (Zn v).toArray] h fun v' h'=>v'=.bool (decide (Z6 v))∧Zg h.size h h':=by
 refine Zd.Zj (args:=[_]) Tryz.func126 rfl rfl rfl rfl ?_
 unfold Zn
 by_cases q1:0≤v.slot
 ·by_cases q2:v.slot<40
  ·simp -implicitDefEqProofs only[go_sem,↓reduceIte,q1,q2]
   refine (VE T _ v.b).use ?_
   rintro _ _ ⟨rfl,rfl⟩
   unfold Je
   by_cases q3:ZM v.b
   ·simp -implicitDefEqProofs only[go_sem,↓reduceIte,q3]
    refine (Qb T _ v.k v.c v.s v.nm v.v).use ?_
    rintro _ _ ⟨rfl,rfl⟩
    by_cases q4:YM v.k v.c v.s v.nm v.v=0
    ·have e:Z6 v:=⟨⟨q1,by omega⟩,q3,q4⟩
     simp -implicitDefEqProofs only[go_sem,↓reduceIte,q4,e]
     (repeat' (first|exact Zg.refl _ _|assumption|refine Zg.add ?_ _|refine Zg.Zl ?_ (by first|omega|(simp;omega)) _|refine Zg.trans (by assumption) ?_))
    ·have e:¬Z6 v:=fun h=>q4 h.2.2
     simp -implicitDefEqProofs only[go_sem,↓reduceIte,q4,e]
     (repeat' (first|exact Zg.refl _ _|assumption|refine Zg.add ?_ _|refine Zg.Zl ?_ (by first|omega|(simp;omega)) _|refine Zg.trans (by assumption) ?_))
   ·have e:¬Z6 v:=fun h=>q3 h.2.1
    simp -implicitDefEqProofs only[go_sem,↓reduceIte,q3,e]
  ·have e:¬Z6 v:=by unfold Z6;omega
   simp -implicitDefEqProofs only[go_sem,↓reduceIte,q1,q2,e]
 ·have e:¬Z6 v:=by unfold Z6;omega
  simp -implicitDefEqProofs only[go_sem,↓reduceIte,q1,e]
theorem QU {h:Hp} {v:Value} {l:List Vt} (s:Ts Zn 8 h v l):∃p cap,v=.slice p l.length cap∧(l≠[]→∃b o,p=some ⟨b,o,none⟩∧b<h.size∧(∀i (hi:i<l.length),hc h ⟨b,o+i*8,none⟩=some (.int .i64 l[i].slot))∧∀i (hi:i<l.length),rd h ⟨b,o+i*8,none⟩ 8=some (Zn l[i])):=by
 obtain⟨p,cap,hv,UF⟩:=Ts.open (enc:=Zn) (n:=8) (fun _=>rfl) (by decide) s
 refine⟨p,cap,hv,fun Yw=>?_⟩
 obtain⟨b,o,hp,hb,YV⟩:=UF Yw
 exact⟨b,o,hp,hb,fun i hi=>(YV i hi).hc (i:=0) rfl,fun i hi=>(YV i hi).rd (by simp[Zn]) rfl⟩
def Nc (l:List Vt) (j:Nat):Int:=((l[j]?).map (·.slot)).getD (-1)
def Vc (l:List Vt) (i:Nat):Int:=if i=0 then -1 else Nc l (i-1)
def Ti (p:YG) (l:List Vt) (i:Nat):Bool:=match l[i]? with
 | some v=>decide (Z6 v∧¬below p v.b∧(i=0∨Nc l (i-1)<v.slot))
 | none=>true
def Xx (p:YG) (l:List Vt):Int:=if ¬ZM p∧¬(p.r=0∧p.n=0) then 5 else if (List.range l.length).all (Ti p l)=true then 0 else 5
theorem SN {l:List Vt} {j:Nat} (hj:j<l.length):Nc l j=l[j].slot:=by
 unfold Nc;rw[List.getElem?_eq_getElem hj];rfl
theorem Oh {p:YG} {l:List Vt} {i:Nat} (hi:i<l.length):Ti p l i=true↔Z6 l[i]∧¬below p l[i].b∧(i=0∨Nc l (i-1)<l[i].slot):=by
 unfold Ti
 rw[List.getElem?_eq_getElem hi]
 simp only[decide_eq_true_eq]
theorem Ht {p:YG} {l:List Vt} {i:Nat} (hi:i<l.length):Ti p l i=true↔Z6 l[i]∧¬below p l[i].b∧Vc l i<l[i].slot:=by
 rw[Oh hi]
 unfold Vc
 by_cases h0:i=0
 ·rw[if_pos h0]
  constructor
  ·rintro⟨h1,h2,_⟩;exact⟨h1,h2,by have:=h1.1.1;omega⟩
  ·rintro⟨h1,h2,_⟩;exact⟨h1,h2,.inl h0⟩
 ·rw[if_neg h0]
  constructor
  ·rintro⟨h1,h2,h3⟩;exact⟨h1,h2,h3.resolve_left h0⟩
  ·rintro⟨h1,h2,h3⟩;exact⟨h1,h2,.inr h3⟩
theorem Sd {p:YG} {l:List Vt} (hp:¬(¬ZM p∧¬(p.r=0∧p.n=0))) (hg:∀j,j<l.length→Ti p l j=true):Xx p l=0:=by
 unfold Xx
 rw[if_neg hp,if_pos (List.all_eq_true.2 fun i hi=>hg i (List.mem_range.1 hi))]
theorem QV {p:YG} {l:List Vt} {i:Nat} (hi:i<l.length) (hb:Ti p l i=false):Xx p l=5:=by
 unfold Xx
 split
 ·rfl
 ·rw[if_neg]
  intro h
  have:=List.all_eq_true.1 h i (List.mem_range.2 hi)
  rw[hb]at this;cases this
def YN (p:YG) (v:Value):List Value:=[.int .i64 p.r,.int .i64 p.n,v]
theorem Rp (T:World) (h:Hp) (p:YG) (u:Value) (l:List Vt) (s:Ts Zn 8 h u l) (hlen:l.length≤4611686018427387904) :
  Zd Tryz.prog T 122 #[.agg (YN p u).toArray] h fun v' h'=>v'=.int .i64 (Xx p l)∧Zg h.size h h':=by
 obtain⟨pv,cv,rfl,YV⟩:=QU s
 refine Zd.Zj (args:=[_]) Tryz.func122 rfl rfl rfl rfl ?_
 unfold YN
 by_cases z:p.r=0∧p.n=0
 ·obtain⟨z1,z2⟩:=z
  have Gf:¬(¬ZM p∧¬(p.r=0∧p.n=0)):=fun h=>h.2 ⟨z1,z2⟩
  simp -implicitDefEqProofs only[go_sem,↓reduceIte,z1,z2]
  obtain⟨H,hH⟩:=Zy (h.push (.cells [.int .i64 0,.int .i64 0,.slice pv l.length cv].toArray 105):Hp)
  have x0:H[h.size]? = some (.cells (YN p (.slice pv l.length cv)).toArray 105):=by rw[hH];unfold YN;rw[z1,z2];exact Zb
  have Aj:Zg h.size h H:=by rw[hH];(repeat' (first|exact Zg.refl _ _|assumption|refine Zg.add ?_ _|refine Zg.Zl ?_ (by first|omega|(simp;omega)) _|refine Zg.trans (by assumption) ?_))
  rw[←hH]
  clear hH
  have hz:=Za x0
  refine VS.ZV (fun F g=>Zg H.size H g∧F 1=.pointer (some ⟨h.size,0,none⟩)∧F 17=.slice pv l.length cv∧F 18=.int .i64 l.length∧∃i:Nat,i≤l.length∧F 19=.int .i64 i∧F 3=.int .i64 (Vc l i)∧∀j,j<i→Ti p l j=true)
   (fun F _=>l.length-(vi (F 19)).toNat) rfl ⟨Zg.refl _ _,rfl,rfl,rfl,0,by omega,rfl,rfl,fun j hj=>by omega⟩ ?_
  rintro F g ⟨hg,f1,f17,f18,i,hi,f19,f3,Xb⟩
  have T9:=hg.size
  have GW:Zg h.size h g:=Aj.trans (hg.mono (by omega))
  by_cases ZD:i<l.length
  ·have ZL:(i:Int)<l.length:=by omega
   obtain⟨bb,oo,rfl,U6,GX,YV⟩:=YV (by intro e;rw[e]at ZD;simp at ZD)
   have Zl3:bb<H.size:=by have:=Aj.size;omega
   have r1:rd g ⟨bb,oo+i*8,none⟩ 8=some (Zn l[i]):=by
    rw[JD GW (by exact U6)];exact YV i ZD
   have rp:rd g ⟨h.size,0,none⟩ 2=some [.int .i64 p.r,.int .i64 p.n]:=by rw[JD hg (by exact hz),Z5 x0 (by simp[YN])];rfl
   have hsl:=SN ZD
   have gl:=Ht (p:=p) ZD
   obtain⟨v,hv⟩:=Zy (l[i])
   rw[←hv]at r1 gl hsl
   unfold Zn at r1
   have YA:Vc l (i+1)=v.slot:=by unfold Vc;rw[if_neg (by omega),Nat.add_sub_cancel];exact hsl
   simp -implicitDefEqProofs only[go_sem,↓reduceIte,f1,f17,f18,f19,ZL,r1]
   refine (MV T _ v).use ?_
   rintro _ g1 ⟨rfl,b1⟩
   have b1s:=b1.size
   simp only[Array.size_push]at b1s
   have y0:g1[g.size]? = some (.cells [.int .i64 v.slot,.int .i64 v.b.r,.int .i64 v.b.n,.int .i64 v.k,.int .i64 v.c,.int .i64 v.s,.int .i64 v.nm,.int .i64 v.v].toArray 146):=b1.get (by simp) Zb
   have y1:hc g1 ⟨g.size,0,none⟩=some (.int .i64 v.slot):=by rw[Zh y0];rfl
   have y2:rd g1 ⟨g.size,1,none⟩ 2=some [.int .i64 v.b.r,.int .i64 v.b.n]:=by rw[Z5 y0 (by simp)];rfl
   have jx:Zg g.size g g1:=(Zg.push (Nat.le_refl _) _).trans (b1.mono (by simp))
   have y3:rd g1 ⟨h.size,0,none⟩ 2=some [.int .i64 p.r,.int .i64 p.n]:=by rw[JD jx (by show h.size<g.size;omega)];exact rp
   have Q8:Zg h.size h g1:=GW.trans (jx.mono (by omega))
   have OP:Zg H.size H g1:=hg.trans (jx.mono (by omega))
   by_cases c1:Z6 v
   ·by_cases c2:v.slot≤Vc l i
    ·have e:=QV (p:=p) ZD (by cases Ek:Ti p l i with|false=>rfl|true=>exact absurd (gl.1 Ek).2.2 (by omega))
     simp -implicitDefEqProofs only[go_sem,↓reduceIte,f1,f3,c1,c2,y1,e,Q8]
    ·simp -implicitDefEqProofs only[go_sem,↓reduceIte,f1,f3,c1,c2,y1,y2,y3]
     refine (U7 T _ v.b p).use ?_
     rintro _ g2 ⟨rfl,b2⟩
     have y4:hc g2 ⟨g.size,0,none⟩=some (.int .i64 v.slot):=by rw[b2.hc (by show g.size<g1.size;omega)];exact y1
     have TN:Zg h.size h g2:=Q8.trans (b2.mono (by have:=Q8.size;omega))
     have QL:Zg H.size H g2:=OP.trans (b2.mono (by have:=OP.size;omega))
     by_cases c3:below p v.b
     ·have e:=QV (p:=p) ZD (by cases Ek:Ti p l i with|false=>rfl|true=>exact absurd c3 (gl.1 Ek).2.1)
      have mQ:=(VD v.b p).2 c3
      simp -implicitDefEqProofs only[go_sem,↓reduceIte,mQ,e,TN]
     ·have mQ:¬0<Nb v.b p:=fun h=>c3 ((VD v.b p).1 h)
      simp -implicitDefEqProofs only[go_sem,↓reduceIte,mQ,f1,f17,f18,f19,y4]
      refine⟨⟨QL,f1,f17,f18,i+1,ZD,rfl,by rw[YA];rfl,fun j hj=>?_⟩,?_⟩
      ·by_cases Ww:j=i
       ·subst Ww;exact gl.2 ⟨c1,c3,by omega⟩
       ·exact Xb j (by omega)
      ·simp only[vi,Zk,↓reduceIte,f19];omega
   ·have e:=QV (p:=p) ZD (by cases Ek:Ti p l i with|false=>rfl|true=>exact absurd (gl.1 Ek).1 c1)
    simp -implicitDefEqProofs only[go_sem,↓reduceIte,c1,e,Q8]
  ·have YJ:¬(i:Int)<l.length:=by omega
   obtain rfl:i=l.length:=by omega
   have e:=Sd Gf Xb
   simp -implicitDefEqProofs only[go_sem,↓reduceIte,f17,f18,f19,YJ,e,GW]
 ·have z':¬p.r=0∨¬p.n=0:=by omega
  by_cases q:ZM p
  ·have Gf:¬(¬ZM p∧¬(p.r=0∧p.n=0)):=fun h=>h.1 q
   have zz:(p.r=0∧p.n=0)=False:=eq_false z
   by_cases z1:p.r=0
   ·have z2:¬p.n=0:=fun e=>z ⟨z1,e⟩
    exact absurd q.1.1 (by omega)
   ·simp -implicitDefEqProofs only[go_sem,↓reduceIte,z1]
    refine (VE T _ p).use ?_
    rintro _ _ ⟨rfl,rfl⟩
    simp -implicitDefEqProofs only[go_sem,↓reduceIte,q]
    obtain⟨H,hH⟩:=Zy ((h.push (.cells [.int .i64 p.r,.int .i64 p.n,.slice pv l.length cv].toArray 105)).push (.cells (Je p).toArray 102):Hp)
    have x0:H[h.size]? = some (.cells (YN p (.slice pv l.length cv)).toArray 105):=by rw[hH];simp only[Array.getElem?_push,Array.size_push,IntWalk.iteOmega,↓reduceIte];rfl
    have Aj:Zg h.size h H:=by rw[hH];(repeat' (first|exact Zg.refl _ _|assumption|refine Zg.add ?_ _|refine Zg.Zl ?_ (by first|omega|(simp;omega)) _|refine Zg.trans (by assumption) ?_))
    rw[←hH]
    clear hH
    have hz:=Za x0
    refine VS.ZV (fun F g=>Zg H.size H g∧F 1=.pointer (some ⟨h.size,0,none⟩)∧F 17=.slice pv l.length cv∧F 18=.int .i64 l.length∧∃i:Nat,i≤l.length∧F 19=.int .i64 i∧F 3=.int .i64 (Vc l i)∧∀j,j<i→Ti p l j=true)
     (fun F _=>l.length-(vi (F 19)).toNat) rfl ⟨Zg.refl _ _,rfl,rfl,rfl,0,by omega,rfl,rfl,fun j hj=>by omega⟩ ?_
    rintro F g ⟨hg,f1,f17,f18,i,hi,f19,f3,Xb⟩
    have T9:=hg.size
    have GW:Zg h.size h g:=Aj.trans (hg.mono (by omega))
    by_cases ZD:i<l.length
    ·have ZL:(i:Int)<l.length:=by omega
     obtain⟨bb,oo,rfl,U6,GX,YV⟩:=YV (by intro e;rw[e]at ZD;simp at ZD)
     have Zl3:bb<H.size:=by have:=Aj.size;omega
     have r1:rd g ⟨bb,oo+i*8,none⟩ 8=some (Zn l[i]):=by
      rw[JD GW (by exact U6)];exact YV i ZD
     have rp:rd g ⟨h.size,0,none⟩ 2=some [.int .i64 p.r,.int .i64 p.n]:=by rw[JD hg (by exact hz),Z5 x0 (by simp[YN])];rfl
     have hsl:=SN ZD
     have gl:=Ht (p:=p) ZD
     obtain⟨v,hv⟩:=Zy (l[i])
     rw[←hv]at r1 gl hsl
     unfold Zn at r1
     have YA:Vc l (i+1)=v.slot:=by unfold Vc;rw[if_neg (by omega),Nat.add_sub_cancel];exact hsl
     simp -implicitDefEqProofs only[go_sem,↓reduceIte,f1,f17,f18,f19,ZL,r1]
     refine (MV T _ v).use ?_
     rintro _ g1 ⟨rfl,b1⟩
     have b1s:=b1.size
     simp only[Array.size_push]at b1s
     have y0:g1[g.size]? = some (.cells [.int .i64 v.slot,.int .i64 v.b.r,.int .i64 v.b.n,.int .i64 v.k,.int .i64 v.c,.int .i64 v.s,.int .i64 v.nm,.int .i64 v.v].toArray 146):=b1.get (by simp) Zb
     have y1:hc g1 ⟨g.size,0,none⟩=some (.int .i64 v.slot):=by rw[Zh y0];rfl
     have y2:rd g1 ⟨g.size,1,none⟩ 2=some [.int .i64 v.b.r,.int .i64 v.b.n]:=by rw[Z5 y0 (by simp)];rfl
     have jx:Zg g.size g g1:=(Zg.push (Nat.le_refl _) _).trans (b1.mono (by simp))
     have y3:rd g1 ⟨h.size,0,none⟩ 2=some [.int .i64 p.r,.int .i64 p.n]:=by rw[JD jx (by show h.size<g.size;omega)];exact rp
     have Q8:Zg h.size h g1:=GW.trans (jx.mono (by omega))
     have OP:Zg H.size H g1:=hg.trans (jx.mono (by omega))
     by_cases c1:Z6 v
     ·by_cases c2:v.slot≤Vc l i
      ·have e:=QV (p:=p) ZD (by cases Ek:Ti p l i with|false=>rfl|true=>exact absurd (gl.1 Ek).2.2 (by omega))
       simp -implicitDefEqProofs only[go_sem,↓reduceIte,f1,f3,c1,c2,y1,e,Q8]
      ·simp -implicitDefEqProofs only[go_sem,↓reduceIte,f1,f3,c1,c2,y1,y2,y3]
       refine (U7 T _ v.b p).use ?_
       rintro _ g2 ⟨rfl,b2⟩
       have y4:hc g2 ⟨g.size,0,none⟩=some (.int .i64 v.slot):=by rw[b2.hc (by show g.size<g1.size;omega)];exact y1
       have TN:Zg h.size h g2:=Q8.trans (b2.mono (by have:=Q8.size;omega))
       have QL:Zg H.size H g2:=OP.trans (b2.mono (by have:=OP.size;omega))
       by_cases c3:below p v.b
       ·have e:=QV (p:=p) ZD (by cases Ek:Ti p l i with|false=>rfl|true=>exact absurd c3 (gl.1 Ek).2.1)
        have mQ:=(VD v.b p).2 c3
        simp -implicitDefEqProofs only[go_sem,↓reduceIte,mQ,e,TN]
       ·have mQ:¬0<Nb v.b p:=fun h=>c3 ((VD v.b p).1 h)
        simp -implicitDefEqProofs only[go_sem,↓reduceIte,mQ,f1,f17,f18,f19,y4]
        refine⟨⟨QL,f1,f17,f18,i+1,ZD,rfl,by rw[YA];rfl,fun j hj=>?_⟩,?_⟩
        ·by_cases Ww:j=i
         ·subst Ww;exact gl.2 ⟨c1,c3,by omega⟩
         ·exact Xb j (by omega)
        ·simp only[vi,Zk,↓reduceIte,f19];omega
     ·have e:=QV (p:=p) ZD (by cases Ek:Ti p l i with|false=>rfl|true=>exact absurd (gl.1 Ek).1 c1)
      simp -implicitDefEqProofs only[go_sem,↓reduceIte,c1,e,Q8]
    ·have YJ:¬(i:Int)<l.length:=by omega
     obtain rfl:i=l.length:=by omega
     have e:=Sd Gf Xb
     simp -implicitDefEqProofs only[go_sem,↓reduceIte,f17,f18,f19,YJ,e,GW]
  ·have e:Xx p l=5:=by unfold Xx;rw[if_pos ⟨q,z⟩]
   by_cases z1:p.r=0
   ·have z2:¬p.n=0:=fun e=>z ⟨z1,e⟩
    have hb:=VE T (h.push (.cells [.int .i64 0,.int .i64 p.n,.slice pv l.length cv].toArray 105)) p
    simp -implicitDefEqProofs only[go_sem,↓reduceIte,z1,z2]
    unfold Je at hb
    rw[z1]at hb
    refine hb.use ?_
    rintro _ _ ⟨rfl,rfl⟩
    simp -implicitDefEqProofs only[go_sem,↓reduceIte,q,e]
   ·simp -implicitDefEqProofs only[go_sem,↓reduceIte,z1]
    refine (VE T _ p).use ?_
    rintro _ _ ⟨rfl,rfl⟩
    simp -implicitDefEqProofs only[go_sem,↓reduceIte,q,e]
theorem Vd (T:World) (h:Hp) (u:Value) (l:List Vt) (s:Ts Zn 8 h u l) (hl:l.length≤2199023255552) :
  Zd Tryz.prog T 125 #[u] h fun v' h'=>Jk h.size 146 Zn 8 h' v' l∧Zg h.size h h':=by
 obtain⟨p,c,rfl,UF⟩:=QU s
 refine Zd.Zj (args:=[_]) Tryz.func125 rfl rfl rfl rfl ?_
 cases p with
 | none=>
  have:l=[]:=by
   cases l with
   | nil=>rfl
   | cons x l=>obtain⟨b,o,hp,_⟩:=UF (by simp);cases hp
  subst this
  simp -implicitDefEqProofs only[go_sem,↓reduceIte]
  exact Jk.nil _ _ _ _ _
 | some a=>
  simp -implicitDefEqProofs only[go_sem,↓reduceIte]
  refine SG (E:=146) (B:=h.size) (n:=8) (bytes:=64) TZ Tryz.underlying103 PZ bP rfl bO (fun _=>rfl) (Jk.Iw _ _ Zn 8 _ _) (by simp) (s.Ya (Zg.push (Nat.le_refl _) _)) (by simp;omega) (by omega) ?_
  intro v' h' ho hb _
  simp -implicitDefEqProofs only[go_sem,↓reduceIte]
  exact⟨by simpa using ho,(Zg.push (Nat.le_refl _) _).trans hb⟩
def Yq (p:YG) (l:List Vt) (b:YG):Int:=if Xx p l≠0 then 5 else if ¬ZM b then 2 else if below b p then 7 else 0
theorem NV (p:YG) (l:List Vt):Xx p l=0∨Xx p l=5:=by
 unfold Xx
 repeat' split
 all_goals simp
def ET (B:Nat) (h':Hp) (v':Value) (p:YG) (l:List Vt) (b:YG):Prop:=∃w1 w2,v'=.tuple [.agg (YN (if Yq p l b=0 then b else ⟨0,0⟩) w1).toArray,w2,.int .i64 (Yq p l b)].toArray ∧
 Jk B 146 Zn 8 h' w1 (if Yq p l b=0 then l else [])∧Jk B 146 Zn 8 h' w2 (if Yq p l b=0 then l else [])
theorem Tj (T:World) (h:Hp) (p:YG) (u:Value) (l:List Vt) (b:YG) (s:Ts Zn 8 h u l) (hl:l.length≤2199023255552) :
  Zd Tryz.prog T 103 #[.agg (YN p u).toArray,.agg (Je b).toArray] h fun v' h'=>ET h.size h' v' p l b∧Zg h.size h h':=by
 obtain⟨pu,cu,rfl,UF⟩:=QU s
 refine Zd.XO (args:=[_,_]) Tryz.func103 rfl rfl rfl rfl ?_
 unfold YN Je
 simp -implicitDefEqProofs only[go_sem,↓reduceIte]
 have VF:Zg h.size h ((((h.push (.cells [.int .i64 p.r,.int .i64 p.n,.slice pu l.length cu].toArray 105)).push (.cells [.int .i64 b.r,.int .i64 b.n].toArray 102)).push (.cells [.int .i64 0,.int .i64 0,.slice none 0 0].toArray 105))):=by (repeat' (first|exact Zg.refl _ _|assumption|refine Zg.add ?_ _|refine Zg.Zl ?_ (by first|omega|(simp;omega)) _|refine Zg.trans (by assumption) ?_))
 refine (Rp T _ p _ l (s.Ya VF) (by omega)).use ?_
 rintro _ g1 ⟨rfl,b1⟩
 have x0:g1[h.size]? = some (.cells (YN p (.slice pu l.length cu)).toArray 105):=b1.get (by simp only[Array.size_push];omega) (by simp only[Array.getElem?_push,Array.size_push,IntWalk.iteOmega,↓reduceIte,YN])
 have x1:g1[h.size+1]? = some (.cells [.int .i64 b.r,.int .i64 b.n].toArray 102):=b1.get (by simp only[Array.size_push];omega) (by simp only[Array.getElem?_push,Array.size_push,IntWalk.iteOmega,↓reduceIte])
 have x2:g1[h.size+2]? = some (.cells [.int .i64 0,.int .i64 0,.slice none 0 0].toArray 105):=b1.get (by simp only[Array.size_push];omega) (by simp only[Array.getElem?_push,Array.size_push,IntWalk.iteOmega,↓reduceIte])
 have Q8:Zg h.size h g1:=VF.trans (b1.mono (by simp;omega))
 have z1:=Za x2
 clear b1 VF
 have fin:∀(G:Hp) (w:List Value),w.length=3→w.all Z7=true→G[h.size+2]? = some (.cells [.int .i64 0,.int .i64 0,.slice none 0 0].toArray 105)→wr G ⟨h.size+1+1,0,none⟩ w=some (G.setIfInBounds (h.size+1+1) (.cells w.toArray 105)):=by
  intro G w h3 h1 hx
  rw[ZS (b:=h.size+1+1) hx 0 w,ZP (by rw[h3];rfl),if_pos ⟨by rw[h3];simp,h1⟩]
 unfold ET
 rcases NV p l with e0|e0
 ·have r1:=Zp x1 (n:=2) rfl
  simp -implicitDefEqProofs only[go_sem,↓reduceIte,e0,r1]
  refine (VE T _ b).use ?_
  rintro _ _ ⟨rfl,rfl⟩
  by_cases q1:ZM b
  ·have rp:rd g1 ⟨h.size,0,none⟩ 2=some [.int .i64 p.r,.int .i64 p.n]:=by rw[Z5 x0 (by simp[YN])];rfl
   have z2:h.size<g1.size:=by omega
   have z3:h.size+1<g1.size:=by omega
   unfold Je
   simp -implicitDefEqProofs only[go_sem,↓reduceIte,q1,r1,rp,z2,z3]
   refine (U7 T _ b p).use ?_
   rintro _ g2 ⟨rfl,b2⟩
   have EU:Zg g1.size g1 g2:=(Zg.push (Nat.le_refl _) _).trans (b2.mono (by simp))
   have x0':=EU.get z2 x0
   have xx:=EU.get z3 x1
   have x2':=EU.get z1 x2
   have TN:=Q8.trans (EU.mono Q8.size)
   have z5:=Za x2'
   by_cases q2:below b p
   ·have e:Yq p l b=7:=by unfold Yq;rw[if_neg (by rw[e0];decide),if_neg (fun h=>h q1),if_pos q2]
    have w2:=fin g2 [.int .i64 0,.int .i64 0,.slice none 0 0] rfl rfl x2'
    have tF:Nb b p<0:=(Og b p).2 q2
    simp -implicitDefEqProofs only[go_sem,↓reduceIte,tF,e,w2,z5]
    refine⟨⟨_,_,rfl,Jk.nil _ _ _ _ _,Jk.nil _ _ _ _ _⟩,?_⟩
    exact TN.Zl (by omega) _
   ·have e:Yq p l b=0:=by unfold Yq;rw[if_neg (by rw[e0];decide),if_neg (fun h=>h q1),if_neg q2]
    have r1':=Zp xx (n:=2) rfl
    have rv:hc g2 ⟨h.size,2,none⟩=some (.slice pu l.length cu):=by rw[Zh x0'];rfl
    have tF:¬Nb b p<0:=fun h=>q2 ((Og b p).1 h)
    simp -implicitDefEqProofs only[go_sem,↓reduceIte,tF]
    refine VS.w (h.size+2) [] (.q 0 (.q 1 (.q 2 (.q 5 (.q 6 (.s 3 (.q 4 (.s 7 (.s 8 (.q 9 (.q 10 .nil))))))))))) mixed (by kernel_rfl) ?_
    have z6:h.size<h.size+2:=by omega
    have z7:h.size+1<h.size+2:=by omega
    simp -implicitDefEqProofs only[go_sem,↓reduceIte,r1',rv,z6,z7]
    refine (Vd T _ _ l (s.Ya TN) hl).use ?_
    rintro w1 g3 ⟨o1,b3⟩
    obtain⟨p1,c1,rfl,_⟩:=o1.open
    have b3':Zg (h.size+2) g2 g3:=b3.mono (by omega)
    simp -implicitDefEqProofs only[go_sem,↓reduceIte]
    refine⟨b3',?_⟩
    refine (Vd T _ _ l ((s.Ya TN).Ya b3) hl).use ?_
    rintro w2 g4 ⟨o2,b4⟩
    have b3s:=b3.size
    have b4s:=b4.size
    have Ak:Zg (h.size+2) g2 g4:=b3'.trans (b4.mono (by omega))
    have Zef:g4[h.size+2]? = some (.cells [.int .i64 0,.int .i64 0,.slice none 0 0].toArray 105):=b4.get (by omega) (b3.get z5 x2')
    have z8:=Za Zef
    have wf:=fin g4 [.int .i64 b.r,.int .i64 b.n,.slice p1 l.length c1] rfl rfl Zef
    have cC:=TN.trans ((b3.trans (b4.mono b3s)).mono TN.size)
    simp -implicitDefEqProofs only[go_sem,↓reduceIte,e,wf,z8]
    refine⟨Ak,Ak.Zl (by omega) _,⟨_,_,rfl,?_,?_⟩,?_⟩
    ·exact (((o1.Ya b4 (Nat.le_refl _)).mono (B':=h.size+1+1+1) (by omega)).ZT (by omega) _).mono (by omega)
    ·exact ((o2.mono (B':=h.size+1+1+1) (by omega)).ZT (by omega) _).mono (by omega)
    ·exact cC.Zl (by omega) _
  ·have e:Yq p l b=2:=by unfold Yq;rw[if_neg (by rw[e0];decide),if_pos q1]
   have w2:=fin g1 [.int .i64 0,.int .i64 0,.slice none 0 0] rfl rfl x2
   simp -implicitDefEqProofs only[go_sem,↓reduceIte,q1,e,w2,z1]
   exact⟨⟨_,_,rfl,Jk.nil _ _ _ _ _,Jk.nil _ _ _ _ _⟩,(Q8.Zl (by omega) _).Yh (by simp;omega) _⟩
 ·have e:Yq p l b=5:=by unfold Yq;rw[if_pos (by rw[e0];decide)]
  have w2:=fin g1 [.int .i64 0,.int .i64 0,.slice none 0 0] rfl rfl x2
  simp -implicitDefEqProofs only[go_sem,↓reduceIte,e0,e,w2,z1]
  exact⟨⟨_,_,rfl,Jk.nil _ _ _ _ _,Jk.nil _ _ _ _ _⟩,Q8.Zl (by omega) _⟩
def Srt (l:List Vt):Prop:=∀i j (hi:i<l.length) (hj:j<l.length),i<j→l[i].slot<l[j].slot
theorem Oi {p:YG} {l:List Vt} (h:Xx p l=0):∀j,j<l.length→Ti p l j=true:=by
 intro j hj
 unfold Xx at h
 split at h
 ·cases h
 ·split at h
  ·rename_i Xb
   exact List.all_eq_true.1 Xb j (List.mem_range.2 hj)
  ·cases h
theorem L9 {p:YG} {l:List Vt} (h:Xx p l=0):Srt l:=by
 have hg:=Oi h
 intro i j
 induction j with
 | zero=>intro _ _ h;omega
 | succ j ih=>
  intro hi hj jq
  have h1:=(Oh hj).1 (hg _ hj)
  have h2:Nc l j<l[j+1].slot:=by
   rcases h1.2.2 with h|h
   ·omega
   ·simpa using h
  rw[SN (by omega)]at h2
  by_cases e:i=j
  ·subst e;exact h2
  ·exact Int.lt_trans (ih hi (by omega) (by omega)) h2
theorem Am {p:YG} {l:List Vt} (h:Xx p l=0):∀x∈l,Z6 x:=by
 intro x hx
 obtain⟨j,hj,rfl⟩:=List.mem_iff_getElem.1 hx
 exact ((Oh hj).1 (Oi h j hj)).1
def JA (l:List Vt) (v:Vt):List Vt:=l.filter (fun x=>decide (x.slot<v.slot))++v :: l.filter (fun x=>decide (v.slot<x.slot))
theorem NW {α:Type} (q:α→Bool) (l:List α) (i:Nat) (h1:∀j (hj:j<l.length),j<i→q l[j]=true) (h2:∀j (hj:j<l.length),i≤j→q l[j]=false):l.filter q=l.take i:=by
 conv=>lhs;rw[←List.take_append_drop i l]
 rw[List.filter_append,List.filter_eq_self.2,List.filter_eq_nil_iff.2,List.append_nil]
 ·intro x hx
  obtain⟨j,hj,rfl⟩:=List.mem_iff_getElem.1 hx
  rw[List.getElem_drop]
  rw[h2 _ (by rw[List.length_drop]at hj;omega) (by omega)]
  decide
 ·intro x hx
  obtain⟨j,hj,rfl⟩:=List.mem_iff_getElem.1 hx
  rw[List.length_take]at hj
  rw[List.getElem_take]
  exact h1 _ (by omega) (by omega)
theorem NX {α:Type} (q:α→Bool) (l:List α) (i:Nat) (h1:∀j (hj:j<l.length),j<i→q l[j]=false) (h2:∀j (hj:j<l.length),i≤j→q l[j]=true):l.filter q=l.drop i:=by
 conv=>lhs;rw[←List.take_append_drop i l]
 rw[List.filter_append,List.filter_eq_nil_iff.2,List.filter_eq_self.2,List.nil_append]
 ·intro x hx
  obtain⟨j,hj,rfl⟩:=List.mem_iff_getElem.1 hx
  rw[List.getElem_drop]
  exact h2 _ (by rw[List.length_drop]at hj;omega) (by omega)
 ·intro x hx
  obtain⟨j,hj,rfl⟩:=List.mem_iff_getElem.1 hx
  rw[List.length_take]at hj
  rw[List.getElem_take,h1 _ (by omega) (by omega)]
  decide
theorem mR {l:List Vt} (hs:Srt l) {v:Vt} {i:Nat} (hi:i<l.length) (he:l[i].slot=v.slot):JA l v=l.set i v:=by
 have a1:l.filter (fun x=>decide (x.slot<v.slot))=l.take i:=NW _ _ _
  (fun j hj Ww=>decide_eq_true (by have:=hs j i hj hi Ww;omega))
  (fun j hj jq=>decide_eq_false (by
    by_cases e:i=j
    ·subst e;omega
    ·have:=hs i j hi hj (by omega);omega))
 have a2:l.filter (fun x=>decide (v.slot<x.slot))=l.drop (i+1):=NX _ _ _
  (fun j hj Ww=>decide_eq_false (by
    by_cases e:j=i
    ·subst e;omega
    ·have:=hs j i hj hi (by omega);omega))
  (fun j hj jq=>decide_eq_true (by have:=hs i j hi hj (by omega);omega))
 rw[JA,a1,a2,List.set_eq_take_append_cons_drop,if_pos hi]
theorem mS {l:List Vt} (hs:Srt l) {v:Vt} {i:Nat} (hi:i≤l.length) (h1:∀j (hj:j<l.length),j<i→l[j].slot<v.slot) (h2:∀j (hj:j<l.length),i≤j→v.slot<l[j].slot):JA l v=l.take i++v :: l.drop i:=by
 have a1:l.filter (fun x=>decide (x.slot<v.slot))=l.take i:=NW _ _ _ (fun j hj Ww=>decide_eq_true (h1 j hj Ww)) (fun j hj jq=>decide_eq_false (by have:=h2 j hj jq;omega))
 have a2:l.filter (fun x=>decide (v.slot<x.slot))=l.drop i:=NX _ _ _ (fun j hj Ww=>decide_eq_false (by have:=h1 j hj Ww;omega)) (fun j hj jq=>decide_eq_true (h2 j hj jq))
 rw[JA,a1,a2]
def Y5:List Nat→Nat
 | []=>0
 | x :: l=>x+256*Y5 l
def Dg (l:List Nat):Prop:=∀x∈l,x<256
theorem Dg.getD {l:List Nat} (w:Dg l) (i:Nat):l.getD i 0<256:=ZI w i
theorem Dg.set {l:List Nat} {x:Nat} (w:Dg l) (i:Nat) (hx:x<256):Dg (l.set i x):=by
 intro y hy
 rcases List.mem_or_eq_of_mem_set hy with h|h
 ·exact w y h
 ·rw[h];exact hx
theorem tH {l:List Nat} (w:Dg l):Y5 l<256 ^ l.length:=by
 induction l with
 | nil=>simp[Y5]
 | cons x l ih=>
  have h1:=ih fun y hy=>w y (List.mem_cons_of_mem _ hy)
  have h2:=w x List.mem_cons_self
  simp only[Y5,List.length_cons,Nat.pow_succ]
  omega
theorem An {l:List Nat} (w:Dg l) (i:Nat):l.getD i 0=Y5 l/256 ^ i%256:=by
 induction l generalizing i with
 | nil=>simp[Y5]
 | cons x l ih=>
  have hx:=w x List.mem_cons_self
  cases i with
  | zero=>simp only[List.getD_cons_zero,Y5,Nat.pow_zero,Nat.div_one];omega
  | succ i=>
   rw[List.getD_cons_succ,ih (fun y hy=>w y (List.mem_cons_of_mem _ hy)) i,Y5,Nat.pow_succ,Nat.mul_comm (256 ^ i) 256,←Nat.div_div_eq_div_mul]
   congr 2
   omega
theorem getD_none {l:List Nat} {i:Nat} (hi:¬i<l.length):l.getD i 0=0:=by
 rw[List.getD_eq_getElem?_getD,List.getElem?_eq_none (by omega)];rfl
def uv (x:Nat):Value:=.int .u64 (x:Nat)
def GY (n top:Nat):List Nat:=[n%67108864,n/67108864%67108864,n/4503599627370496%67108864,n/302231454903657293676544%67108864,n/20282409603651670423947251286016+top*16777216]
theorem MW (x n:Nat) (hn:n≤64):YE .u64 (x:Int) (n:Int)=((x*2 ^ n%18446744073709551616:Nat):Int):=by
 rw[Gv .u64 x n (by show n≤64;omega),PM];rfl
theorem SO (x n:Nat) (hn:n≤64):Xh .u64 (x:Int) (n:Int)=((x/2 ^ n:Nat):Int):=by
 rw[SF .u64 x n (by show n≤64;omega),Nat.shiftRight_eq_div_pow]
theorem Se (x:Nat) (hx:x<18446744073709551616):Z9 .and .u64 (x:Int) 67108863=((x%67108864:Nat):Int):=by
 have h:=sA x 67108863 hx (by decide)
 have e:x &&& 67108863=x%67108864:=Nat.and_two_pow_sub_one_eq_mod x 26
 rw[e]at h
 exact h
theorem cD (L b:Nat) (hL:L<72057594037927936) (hb:b<256):Z9 .or .u64 ((L*256:Nat):Int) (b:Int)=((L*256+b:Nat):Int):=by
 rw[Bv _ _ (by omega) (by omega),JY (k:=8) (by omega) (by omega)]
theorem Zeg (L:Nat) (hL:L<72057594037927936):YE .u64 (L:Int) 8=((L*256:Nat):Int):=by
 have h:=MW L 8 (by decide)
 rw[show L*2 ^ 8%18446744073709551616=L*256 by omega]at h
 exact h
theorem EV {l:List Nat} {m:Nat} (hm:m<l.length):Y5 (l.drop m)=l.getD m 0+256*Y5 (l.drop (m+1)):=by
 rw[List.drop_eq_getElem_cons hm]
 have e:l.getD m 0=l[m]:=by rw[List.getD_eq_getElem?_getD,List.getElem?_eq_getElem hm];rfl
 rw[e];rfl
theorem Dg.drop {l:List Nat} (w:Dg l) (i:Nat):Dg (l.drop i):=fun x hx=>w x (List.mem_of_mem_drop hx)
theorem U8 {l:List Nat} (w:Dg l) {n:Nat} (hn:l.length≤n):Y5 l<256 ^ n:=Nat.lt_of_lt_of_le (tH w) (Nat.pow_le_pow_right (by omega) hn)
set_option maxHeartbeats 1000000 in
theorem Nf (T:World) (h:Hp) (v:Value) (l:List Nat) (top:Nat) (s:Bs h v l) (hl:l.length=16) (ht:top≤1) :
  Zd Tryz.prog T 131 #[v,.int .u64 top] h fun v' h'=>v'=.agg ((GY (Y5 l) top).map uv).toArray∧Zg h.size h h':=by
 have wb:=s.byte
 obtain⟨p,c,rfl,hc⟩:=s.Uz
 obtain⟨bb,oo,rfl,U6,hc⟩:=hc (by intro e;subst e;simp at hl)
 obtain⟨lo,hi,rfl,hlo,hhi⟩:∃lo hi:List Nat,l=lo++hi∧lo.length=8∧hi.length=8:=⟨l.take 8,l.drop 8,(List.take_append_drop 8 l).symm,by rw[List.length_take];omega,by rw[List.length_drop];omega⟩
 have wlo:Dg lo:=fun x hx=>wb x (List.mem_append_left _ hx)
 have whi:Dg hi:=fun x hx=>wb x (List.mem_append_right _ hx)
 refine Zd.Zj (args:=[_,_]) Tryz.func131 rfl rfl rfl rfl ?_
 simp -implicitDefEqProofs only[go_sem,↓reduceIte]
 obtain⟨Z,hZ⟩:∃Z:Obj,Z=.cells #[.int .u64 0,.int .u64 0,.int .u64 0,.int .u64 0,.int .u64 0] 227:=⟨_,rfl⟩
 refine VS.ZV (fun F g=>g=h.push (.cells #[.int .u64 0,.int .u64 0,.int .u64 0,.int .u64 0,.int .u64 0] 227)∧F 0=.slice (some ⟨bb,oo,none⟩) (lo++hi).length c∧F 1=.int .u64 top∧F 4=.pointer (some ⟨h.size,0,none⟩)∧∃j:Nat,j≤8∧F 7=.int .i64 ((j:Int)-1)∧F 5=.int .u64 (Y5 (lo.drop j):Nat)∧F 6=.int .u64 (Y5 (hi.drop j):Nat))
  (fun F _=>(vi (F 7)+1).toNat) rfl ⟨rfl,rfl,rfl,rfl,8,by omega,rfl,by rw[List.drop_of_length_le (by omega)];rfl,by rw[List.drop_of_length_le (by omega)];rfl⟩ ?_
 rintro F g ⟨rfl,f0,f1,f4,j,hj,f7,f5,f6⟩
 by_cases ZD:0<j
 ·obtain⟨m,rfl⟩:∃m,j=m+1:=⟨j-1,by omega⟩
  have e1:((m+1:Nat):Int)-1=(m:Nat):=by omega
  rw[e1]at f7
  have g1:=hc m (by omega)
  have g2:=hc (8+m) (by omega)
  have d1:(lo++hi).getD m 0=lo.getD m 0:=by rw[List.getD_eq_getElem?_getD,List.getElem?_append_left (by omega),List.getD_eq_getElem?_getD]
  have d2:(lo++hi).getD (8+m) 0=hi.getD m 0:=by rw[List.getD_eq_getElem?_getD,List.getElem?_append_right (by omega),hlo,Nat.add_sub_cancel_left,List.getD_eq_getElem?_getD]
  rw[d1]at g1
  rw[d2]at g2
  have x1:=wlo.getD m
  have x2:=whi.getD m
  have n1:Y5 (lo.drop m)=Y5 (lo.drop (m+1))*256+lo.getD m 0:=by rw[EV (l:=lo) (by omega)];omega
  have n2:Y5 (hi.drop m)=Y5 (hi.drop (m+1))*256+hi.getD m 0:=by rw[EV (l:=hi) (by omega)];omega
  have b1:=U8 (wlo.drop (m+1)) (n:=7) (by rw[List.length_drop];omega)
  have b2:=U8 (whi.drop (m+1)) (n:=7) (by rw[List.length_drop];omega)
  rw[show 256 ^ 7=72057594037927936 from rfl]at b1 b2
  have s1:=Zeg _ b1
  have s2:=Zeg _ b2
  have o1:=cD _ _ b1 x1
  have o2:=cD _ _ b2 x2
  have em:(8:Int)+(m:Int)=((8+m:Nat):Int):=by omega
  have k1:(m:Int)<(lo++hi).length:=by omega
  have k2:((8+m:Nat):Int)<(lo++hi).length:=by omega
  have k0:(0:Int)≤m:=by omega
  have Zl6:bb<h.size:=U6
  have m1:((lo.getD m 0:Nat):Int)%18446744073709551616=(lo.getD m 0:Nat):=by omega
  have m2:((hi.getD m 0:Nat):Int)%18446744073709551616=(hi.getD m 0:Nat):=by omega
  simp -implicitDefEqProofs only[go_sem,↓reduceIte,f0,f1,f4,f5,f6,f7,m1,m2,k0,k1,k2,em,Int.toNat_natCast,Zl6,g1,g2,s1,s2,o1,o2]
  refine⟨⟨rfl,f0,f1,f4,m,by omega,rfl,?_,?_⟩,?_⟩
  ·rw[n1];rfl
  ·rw[n2];rfl
  ·simp only[vi,Zk,↓reduceIte,f7];omega
 ·obtain rfl:j=0:=by omega
  rw[List.drop_zero]at f5 f6
  have k0:¬(0:Int)≤((0:Nat):Int)-1:=by omega
  have b1:=U8 wlo (n:=8) (by omega)
  have b2:=U8 whi (n:=8) (by omega)
  rw[show 256 ^ 8=18446744073709551616 from rfl]at b1 b2
  have Mx:Y5 (lo++hi)=Y5 lo+18446744073709551616*Y5 hi:=by
   have:∀a b:List Nat,Y5 (a++b)=Y5 a+256 ^ a.length*Y5 b:=by
    intro a b
    induction a with
    | nil=>simp[Y5]
    | cons x a ih=>simp only[List.cons_append,Y5,ih,List.length_cons,Nat.pow_succ,Nat.mul_add,Nat.add_assoc];congr 2;rw[←Nat.mul_assoc,Nat.mul_comm 256]
   rw[this,hlo]
  rw[Mx]
  generalize Y5 lo=L at *
  generalize Y5 hi=M at *
  have q1:=Se L b1
  have q2:Xh .u64 (L:Int) 26=((L/2 ^ 26:Nat):Int):=SO L 26 (by decide)
  have q3:=Se (L/2 ^ 26) (by omega)
  have q4:Xh .u64 (L:Int) 52=((L/2 ^ 52:Nat):Int):=SO L 52 (by decide)
  have q5:YE .u64 (M:Int) 12=((M*2 ^ 12%18446744073709551616:Nat):Int):=MW M 12 (by decide)
  have q6:=Bv (L/2 ^ 52) (M*2 ^ 12%18446744073709551616) (by omega) (by omega)
  rw[Nat.or_comm,JY (k:=12) (by omega) (by omega)]at q6
  have q7:=Se (M*2 ^ 12%18446744073709551616+L/2 ^ 52) (by omega)
  have q8:Xh .u64 (M:Int) 14=((M/2 ^ 14:Nat):Int):=SO M 14 (by decide)
  have q9:=Se (M/2 ^ 14) (by omega)
  have q10:Xh .u64 (M:Int) 40=((M/2 ^ 40:Nat):Int):=SO M 40 (by decide)
  have q11:YE .u64 (top:Int) 24=((top*2 ^ 24%18446744073709551616:Nat):Int):=MW top 24 (by decide)
  have q12:=Bv (M/2 ^ 40) (top*2 ^ 24%18446744073709551616) (by omega) (by omega)
  rw[Nat.or_comm,JY (k:=24) (by omega) (by omega)]at q12
  simp -implicitDefEqProofs only[go_sem,↓reduceIte,f0,f1,f4,f5,f6,f7,k0,q1,q2,q3,q4,q5,q6,q7,q8,q9,q10,q11,q12]
  have w1:L%67108864=(L+18446744073709551616*M)%67108864:=by omega
  have w2:L/2 ^ 26%67108864=(L+18446744073709551616*M)/67108864%67108864:=by omega
  have w3:(M*2 ^ 12%18446744073709551616+L/2 ^ 52)%67108864=(L+18446744073709551616*M)/4503599627370496%67108864:=by omega
  have w4:M/2 ^ 14%67108864=(L+18446744073709551616*M)/302231454903657293676544%67108864:=by omega
  have w5:top*2 ^ 24%18446744073709551616+M/2 ^ 40=(L+18446744073709551616*M)/20282409603651670423947251286016+top*16777216:=by omega
  rw[w1,w2,w3,w4,w5]
  rfl
def RS (l:List Nat) (i:Nat):List Nat:=
 if i<4 then (l.set i (l.getD i 0%67108864)).set (i+1) ((l.set i (l.getD i 0%67108864)).getD (i+1) 0+l.getD i 0/67108864)
 else (l.set i (l.getD i 0%67108864)).set 0 ((l.set i (l.getD i 0%67108864)).getD 0 0+5*(l.getD i 0/67108864))
def Jm (l:List Nat):Nat→List Nat
 | 0=>l
 | i+1=>RS (Jm l i) i
def Yj (K:Nat) (l:List Nat):Prop:=∀x∈l,x<K
theorem Yj.getD {K:Nat} {l:List Nat} (w:Yj K l) (hK:0<K) (i:Nat):l.getD i 0<K:=by
 by_cases hi:i<l.length
 ·have e:l.getD i 0=l[i]:=by rw[List.getD_eq_getElem?_getD,List.getElem?_eq_getElem hi];rfl
  rw[e];exact w _ (List.getElem_mem hi)
 ·rw[getD_none hi];exact hK
theorem Yj.set {K:Nat} {l:List Nat} (w:Yj K l) (i x:Nat) (hx:x<K):Yj K (l.set i x):=by
 intro y hy
 rcases List.mem_or_eq_of_mem_set hy with h|h
 ·exact w y h
 ·rw[h];exact hx
theorem Yj.mono {K K':Nat} {l:List Nat} (w:Yj K l) (h:K≤K'):Yj K' l:=fun x hx=>Nat.lt_of_lt_of_le (w x hx) h
theorem IJ (l:List Nat) (i:Nat):(RS l i).length=l.length:=by
 unfold RS;split<;>simp
theorem Rq (l:List Nat):∀i,(Jm l i).length=l.length
 | 0=>rfl
 | i+1=>by rw[Jm,IJ,Rq l i]
theorem fP {K:Nat} {l:List Nat} {i:Nat} (w:Yj K l) (h0:67108864≤K) (hK:K≤2 ^ 62):Yj (K+2 ^ 39) (RS l i):=by
 have hx:=w.getD (by omega) i
 have w1:Yj K (l.set i (l.getD i 0%67108864)):=w.set i _ (by omega)
 have hy:=w1.getD (by omega) (i+1)
 have hz:=w1.getD (by omega) 0
 unfold RS
 split
 ·exact (w1.mono (by omega)).set _ _ (by omega)
 ·exact (w1.mono (by omega)).set _ _ (by omega)
theorem Hv {K:Nat} {l:List Nat} (w:Yj K l) (h0:67108864≤K) (hK:K≤2 ^ 61):∀i,i≤5→Yj (K+i*2 ^ 39) (Jm l i)
 | 0,_=>by rw[Nat.zero_mul,Nat.add_zero];exact w
 | i+1,hi=>by
  have:=fP (i:=i) (Hv w h0 hK i (by omega)) (by omega) (by omega)
  rw[Jm]
  exact this.mono (by omega)
theorem Oj {l:List Nat} {i j x:Nat} (h:i≠j):(l.set i x).getD j 0=l.getD j 0:=by
 rw[List.getD_eq_getElem?_getD,List.getD_eq_getElem?_getD,List.getElem?_set_ne h]
def Yd (l:List Nat):Obj:=.cells (l.map uv++[]).toArray 227
theorem cE (x:Nat):Xh .u64 (x:Int) 26=((x/67108864:Nat):Int):=SO x 26 (by decide)
set_option maxHeartbeats 1000000 in
theorem Ao (T:World) (h:Hp) (bk:Nat) (l:List Nat) (hl:l.length=5) (w:Yj (2 ^ 61) l) (hb:h[bk]? = some (Yd l)) :
  Zd Tryz.prog T 147 #[.pointer (some ⟨bk,0,none⟩)] h fun v' h'=>∃a,a=Jm l 5∧h'=h.setIfInBounds bk (Yd ((a.set 1 (a.getD 1 0+a.getD 0 0/67108864)).set 0 (a.getD 0 0%67108864))):=by
 refine Zd.Zj (args:=[_]) Tryz.func147 rfl rfl rfl rfl ?_
 simp -implicitDefEqProofs only[go_sem,↓reduceIte]
 refine VS.ZV (fun F g=>F 0=.pointer (some ⟨bk,0,none⟩)∧∃i:Nat,i≤5∧F 4=.int .i64 i∧g=h.setIfInBounds bk (Yd (Jm l i)))
  (fun F _=>5-(vi (F 4)).toNat) rfl ⟨rfl,0,by omega,rfl,(Uh hb).symm⟩ ?_
 rintro F g ⟨f0,i,hi,f4,rfl⟩
 have hx:=ZR (o:=Yd (Jm l i)) hb
 have hw:=Hv w (by decide) (by decide) i hi
 have hw2:=hw.getD (by omega) i
 have hln:(Jm l i).length=5:=by rw[Rq,hl]
 by_cases ZD:i<5
 ·have ZL:(i:Int)<5:=by omega
  have YA:Jm l (i+1)=RS (Jm l i) i:=rfl
  obtain⟨a,ha⟩:=Zy (Jm l i)
  rw[←ha]at hx hw hw2 hln YA ⊢
  obtain⟨G,hG⟩:=Zy (h.setIfInBounds bk (Yd a))
  rw[←hG]at hx ⊢
  have g1:=ZK hx (i:=i) (by omega)
  unfold uv at g1
  obtain⟨x,qC⟩:=Zy (a.getD i 0)
  rw[←qC]at g1 hw2
  have e1:=cE x
  have e2:=Se x (by omega)
  simp -implicitDefEqProofs only[go_sem,↓reduceIte,f0,f4,ZL,Int.toNat_natCast,Nat.zero_add,g1,e1]
  refine VS.w (bk+1) [8] (.q 0 (.q 1 (.q 2 (.q 3 (.q 4 (.q 5 (.q 6 (.q 7 (.w 8 .nil))))))))) mixed (by kernel_rfl) ?_
  have c1:Jx _ ⟨bk,i,none⟩ (.int .u64 (x%67108864:Nat))=_:=ZZ (f:=uv) hx (i:=i) (by omega) (x%67108864) rfl
  have Qy:=ZR (o:=.cells ((a.set i (x%67108864)).map uv++[]).toArray 227) hx
  have Ap:=hw.set i (x%67108864) (by omega)
  have UF:RS a i=if i<4 then (a.set i (x%67108864)).set (i+1) ((a.set i (x%67108864)).getD (i+1) 0+x/67108864) else (a.set i (x%67108864)).set 0 ((a.set i (x%67108864)).getD 0 0+5*(x/67108864)):=by rw[qC];rfl
  have mG:(a.set i (x%67108864)).length=5:=by rw[List.length_set,hln]
  obtain⟨a1,ha1⟩:=Zy (a.set i (x%67108864))
  rw[←ha1]at Qy Ap UF mG c1
  obtain⟨G1,jy⟩:=Zy (G.setIfInBounds bk (.cells (a1.map uv++[]).toArray 227))
  rw[←jy]at Qy c1
  by_cases h4:i<4
  ·have h4':(i:Int)<4:=by omega
   rw[if_pos h4]at UF
   simp -implicitDefEqProofs only[go_sem,↓reduceIte,f0,f4,ZL,Int.toNat_natCast,Nat.zero_add,g1,e1,e2,c1,h4']
   refine VS.w (bk+1) [10] (.q 0 (.q 1 (.q 2 (.q 3 (.q 4 (.q 5 (.q 6 (.q 7 (.q 8 (.q 9 (.w 10 .nil))))))))))) mixed (by kernel_rfl) ?_
   have g2:=ZK Qy (i:=i+1) (by omega)
   unfold uv at g2
   have hy:=Ap.getD (by omega) (i+1)
   obtain⟨y,hyy⟩:=Zy (a1.getD (i+1) 0)
   rw[←hyy]at g2 hy UF
   have e3:(y:Int)+((x/67108864:Nat):Int)=((y+x/67108864:Nat):Int):=by omega
   have e4:((y+x/67108864:Nat):Int)%18446744073709551616=((y+x/67108864:Nat):Int):=by omega
   have ei:(i:Int)+1=((i+1:Nat):Int):=rfl
   have hi1:((i+1:Nat):Int)<5:=by omega
   have c2:Jx G1 ⟨bk,i+1,none⟩ (.int .u64 (y+x/67108864:Nat))=_:=ZZ (f:=uv) Qy (i:=i+1) (by omega) (y+x/67108864) rfl
   simp -implicitDefEqProofs only[go_sem,↓reduceIte,f0,f4,ZL,ei,hi1,Int.toNat_natCast,Nat.zero_add,g2,e3,e4,c2]
   refine⟨⟨f0,i+1,ZD,rfl,?_⟩,?_⟩
   ·rw[jy,set_set,hG,set_set,YA,UF];rfl
   ·simp only[vi,Zk,↓reduceIte,f4];omega
  ·have h4':¬(i:Int)<4:=by omega
   rw[if_neg h4]at UF
   simp -implicitDefEqProofs only[go_sem,↓reduceIte,f0,f4,ZL,Int.toNat_natCast,Nat.zero_add,g1,e1,e2,c1,h4']
   refine VS.w (bk+1) [9] (.q 0 (.q 1 (.q 2 (.q 3 (.q 4 (.q 5 (.q 6 (.q 7 (.q 8 (.w 9 .nil)))))))))) mixed (by kernel_rfl) ?_
   have g2:=ZK Qy (i:=0) (by omega)
   unfold uv at g2
   have hy:=Ap.getD (by omega) 0
   obtain⟨y,hyy⟩:=Zy (a1.getD 0 0)
   rw[←hyy]at g2 hy UF
   have e5:(5:Int)*((x/67108864:Nat):Int)=((5*(x/67108864):Nat):Int):=by omega
   have e6:((5*(x/67108864):Nat):Int)%18446744073709551616=((5*(x/67108864):Nat):Int):=by omega
   have e3:(y:Int)+((5*(x/67108864):Nat):Int)=((y+5*(x/67108864):Nat):Int):=by omega
   have e4:((y+5*(x/67108864):Nat):Int)%18446744073709551616=((y+5*(x/67108864):Nat):Int):=by omega
   have c2:Jx G1 ⟨bk,0,none⟩ (.int .u64 (y+5*(x/67108864):Nat))=_:=ZZ (f:=uv) Qy (i:=0) (by omega) (y+5*(x/67108864)) rfl
   simp -implicitDefEqProofs only[go_sem,↓reduceIte,f0,f4,ZL,Int.toNat_natCast,Nat.zero_add,g2,e3,e4,e5,e6,c2]
   refine⟨⟨f0,i+1,ZD,rfl,?_⟩,?_⟩
   ·rw[jy,set_set,hG,set_set,YA,UF];rfl
   ·simp only[vi,Zk,↓reduceIte,f4];omega
 ·have YJ:¬(i:Int)<5:=by omega
  obtain rfl:i=5:=by omega
  obtain⟨a,ha⟩:=Zy (Jm l 5)
  rw[←ha]at hx hw hw2 hln ⊢
  obtain⟨G,hG⟩:=Zy (h.setIfInBounds bk (Yd a))
  rw[←hG]at hx ⊢
  have g0:=ZK hx (i:=0) (by omega)
  have g1:=ZK hx (i:=1) (by omega)
  have y0:=hw.getD (by omega) 0
  have y1:=hw.getD (by omega) 1
  unfold uv at g0 g1
  obtain⟨x,qC⟩:=Zy (a.getD 0 0)
  obtain⟨y,hyy⟩:=Zy (a.getD 1 0)
  rw[←qC]at g0 y0
  rw[←hyy]at g1 y1
  have e1:=cE x
  have e2:=Se x (by omega)
  have e3:(y:Int)+((x/67108864:Nat):Int)=((y+x/67108864:Nat):Int):=by omega
  have e4:((y+x/67108864:Nat):Int)%18446744073709551616=((y+x/67108864:Nat):Int):=by omega
  have c5:((5:Nat):Int)=5:=rfl
  rw[c5]at f4 YJ
  simp -implicitDefEqProofs only[go_sem,↓reduceIte,f0,f4,YJ]
  refine VS.w (bk+1) [12] (.q 0 (.q 1 (.q 2 (.q 3 (.q 4 (.q 5 (.q 6 (.q 7 (.q 8 (.q 9 (.q 10 (.q 11 (.w 12 .nil))))))))))))) mixed (by kernel_rfl) ?_
  have c1:Jx G ⟨bk,1,none⟩ (.int .u64 (y+x/67108864:Nat))=_:=ZZ (f:=uv) hx (i:=1) (by omega) (y+x/67108864) rfl
  have Qy:=ZR (o:=.cells ((a.set 1 (y+x/67108864)).map uv++[]).toArray 227) hx
  have mG:(a.set 1 (y+x/67108864)).length=5:=by rw[List.length_set,hln]
  obtain⟨a1,ha1⟩:=Zy (a.set 1 (y+x/67108864))
  rw[←ha1]at Qy mG c1
  obtain⟨G1,jy⟩:=Zy (G.setIfInBounds bk (.cells (a1.map uv++[]).toArray 227))
  rw[←jy]at Qy c1
  have g2:=ZK Qy (i:=0) (by omega)
  unfold uv at g2
  have g2e:a1.getD 0 0=x:=by rw[ha1,Oj (by decide),←qC]
  rw[g2e]at g2
  simp -implicitDefEqProofs only[go_sem,↓reduceIte,f0,Nat.zero_add,g0,g1,e1,e3,e4,c1]
  refine VS.w (bk+1) [7] (.q 0 (.q 1 (.q 2 (.q 3 (.q 4 (.q 5 (.q 6 (.w 7 .nil)))))))) mixed (by kernel_rfl) ?_
  have c2:Jx G1 ⟨bk,0,none⟩ (.int .u64 (x%67108864:Nat))=_:=ZZ (f:=uv) Qy (i:=0) (by omega) (x%67108864) rfl
  simp -implicitDefEqProofs only[go_sem,↓reduceIte,f0,Nat.zero_add,g2,e2,c2]
  rw[jy,set_set,hG,set_set,ha1]
  exact⟨a,rfl,by rw[←qC,←hyy];rfl⟩
theorem getD_set_ne {l:List Nat} {i j x:Nat} (h:i≠j):(l.set i x).getD j 0=l.getD j 0:=by
 rw[List.getD_eq_getElem?_getD,List.getD_eq_getElem?_getD,List.getElem?_set_ne h]
def H16:Nat:=256 ^ 16
def VG:Nat:=4*256 ^ 16-5
def Yn:List Nat→Nat
 | []=>0
 | x :: l=>x+67108864*Yn l
theorem Ok:VG=1361129467683753853853498429727072845819:=rfl
theorem Aq {a b c d e:Nat}:∃q r0 r1 r2 r3 r4:Nat,Jm [a,b,c,d,e] 5=[r0,r1,r2,r3,r4]∧Yn [a,b,c,d,e]=Yn [r0,r1,r2,r3,r4]+VG*q∧r1<67108864∧r2<67108864∧r3<67108864∧r4<67108864∧r0≤67108863+5*q∧q≤(e+(d+(c+(b+a/67108864)/67108864)/67108864)/67108864)/67108864:=by
 refine⟨(e+(d+(c+(b+a/67108864)/67108864)/67108864)/67108864)/67108864,a%67108864+5*((e+(d+(c+(b+a/67108864)/67108864)/67108864)/67108864)/67108864),(b+a/67108864)%67108864,(c+(b+a/67108864)/67108864)%67108864,(d+(c+(b+a/67108864)/67108864)/67108864)%67108864,(e+(d+(c+(b+a/67108864)/67108864)/67108864)/67108864)%67108864,?_,?_,Nat.mod_lt _ (by decide),Nat.mod_lt _ (by decide),Nat.mod_lt _ (by decide),Nat.mod_lt _ (by decide),by omega,Nat.le_refl _⟩
 ·rfl
 ·simp only[Yn,Ok]
  omega
theorem MB {l:List Nat} (h:l.length=5):∃a b c d e,l=[a,b,c,d,e]:=by
 match l,h with
 | [a,b,c,d,e],_=>exact⟨a,b,c,d,e,rfl⟩
def Xc (l:List Nat):List Nat:=((Jm l 5).set 1 ((Jm l 5).getD 1 0+(Jm l 5).getD 0 0/67108864)).set 0 ((Jm l 5).getD 0 0%67108864)
theorem Yj.MB {K a b c d e:Nat} (ha:a<K) (hb:b<K) (hc:c<K) (hd:d<K) (he:e<K):Yj K [a,b,c,d,e]:=by
 intro x hx
 simp only[List.mem_cons,List.not_mem_nil,or_false]at hx
 rcases hx with rfl|rfl|rfl|rfl|rfl<;>assumption
theorem Yj.tI {K a b c d e:Nat} (w:Yj K [a,b,c,d,e]):a<K∧b<K∧c<K∧d<K∧e<K:=
 ⟨w a (by simp),w b (by simp),w c (by simp),w d (by simp),w e (by simp)⟩
theorem SP {l:List Nat} (hl:l.length=5) (w:Yj (2 ^ 61) l):(Xc l).length=5∧Yj 134217728 (Xc l)∧Yn (Xc l)%VG=Yn l%VG∧Yn (Xc l)<4*H16+2 ^ 44:=by
 obtain⟨a,b,c,d,e,rfl⟩:=MB hl
 obtain⟨wa,wb,wc,wd,we⟩:=w.tI
 obtain⟨q,r0,r1,r2,r3,r4,hc,hv,h1,h2,h3,h4,h0,hq⟩:=@Aq a b c d e
 have hL:Xc [a,b,c,d,e]=[r0%67108864,r1+r0/67108864,r2,r3,r4]:=by unfold Xc;rw[hc];rfl
 have hq':q<2 ^ 36:=by omega
 have hr:r0/67108864<8192:=by omega
 have Mx:Yn [r0%67108864,r1+r0/67108864,r2,r3,r4]=Yn [r0,r1,r2,r3,r4]:=by simp only[Yn];omega
 rw[hL]
 refine⟨rfl,Yj.MB (by omega) (by omega) (by omega) (by omega) (by omega),?_,?_⟩
 ·rw[Mx,hv,Nat.add_mul_mod_self_left]
 ·rw[Mx]
  have e16:H16=340282366920938463463374607431768211456:=rfl
  rw[e16]
  have h0':r0<549755813888:=by omega
  clear hv hc hq hq' hL Mx h0
  simp only[Yn]
  omega
def TB (a b:Nat) (out:List Nat) (i k:Nat):List Nat:=if i+k<5 then out.set (i+k) (out.getD (i+k) 0+a*b) else out.set (i+k-5) (out.getD (i+k-5) 0+5*a*b)
def Sf (a:Nat) (bs out:List Nat) (i:Nat):Nat→List Nat
 | 0=>out
 | k+1=>TB a (bs.getD k 0) (Sf a bs out i k) i k
def UK (xs bs:List Nat):Nat→List Nat
 | 0=>[0,0,0,0,0]
 | i+1=>Sf (xs.getD i 0) bs (UK xs bs i) i 5
theorem GZ (a b:Nat) (out:List Nat) (i k:Nat):(TB a b out i k).length=out.length:=by unfold TB;split<;>simp
theorem WO (a:Nat) (bs out:List Nat) (i:Nat):∀k,(Sf a bs out i k).length=out.length
 | 0=>rfl
 | k+1=>by rw[Sf,GZ,WO a bs out i k]
theorem WQ (xs bs:List Nat):∀i,(UK xs bs i).length=5
 | 0=>rfl
 | i+1=>by rw[UK,WO,WQ xs bs i]
theorem Ng {a b:Nat} (ha:a<268435456) (hb:b<67108864):a*b<18014398509481984:=
 Nat.lt_of_le_of_lt (Nat.mul_le_mul (Nat.le_of_lt_succ (show a<268435455+1 from ha)) (Nat.le_of_lt_succ (show b<67108863+1 from hb))) (by decide)
theorem Ka {a b:Nat} (ha:a<268435456) (hb:b<67108864):5*a*b<90071992547409920:=by
 have:=Ng ha hb
 rw[Nat.mul_assoc];omega
theorem mT {K a b:Nat} {out:List Nat} {i k:Nat} (w:Yj K out) (hK:0<K) (ha:a<268435456) (hb:b<67108864):Yj (K+90071992547409920) (TB a b out i k):=by
 have h1:=Ng ha hb
 have h2:=Ka ha hb
 have q1:=w.getD hK (i+k)
 have q2:=w.getD hK (i+k-5)
 unfold TB
 split
 ·exact (w.mono (by omega)).set _ _ (by omega)
 ·exact (w.mono (by omega)).set _ _ (by omega)
theorem G0 {K a:Nat} {bs out:List Nat} {i:Nat} (w:Yj K out) (hK:0<K) (ha:a<268435456) (hb:Yj 67108864 bs):∀k,Yj (K+k*90071992547409920) (Sf a bs out i k)
 | 0=>by rw[Nat.zero_mul];exact w
 | k+1=>by
  rw[Sf,Nat.add_mul,Nat.one_mul,←Nat.add_assoc]
  exact mT (G0 w hK ha hb k) (by omega) ha (hb.getD (by omega) k)
theorem G6 {xs bs:List Nat} (ha:Yj 268435456 xs) (hb:Yj 67108864 bs):∀i,Yj (1+i*450359962737049600) (UK xs bs i)
 | 0=>Yj.MB (by omega) (by omega) (by omega) (by omega) (by omega)
 | i+1=>by
  rw[UK]
  exact (G0 (G6 ha hb i) (by omega) (ha.getD (by omega) i) hb 5).mono (by omega)
theorem Nh:∀{l:List Nat} {i x:Nat},i<l.length→Yn (l.set i (l.getD i 0+x))=Yn l+x*67108864 ^ i
 | y :: l,0,x,_=>by simp only[List.set_cons_zero,List.getD_cons_zero,Yn,Nat.pow_zero,Nat.mul_one];omega
 | y :: l,i+1,x,h=>by
  simp only[List.set_cons_succ,List.getD_cons_succ,Yn]
  rw[Nh (l:=l) (i:=i) (x:=x) (by simpa using h),Nat.pow_succ,←Nat.mul_assoc]
  omega
theorem X5:67108864 ^ 5=VG+5:=rfl
theorem Zek (v a b y P:Nat):(v+5*a*b*y)%P=(v+a*b*(y*(P+5)))%P:=by
 have e:a*b*(y*(P+5))=5*a*b*y+P*(a*b*y):=by
  rw[Nat.mul_add,Nat.mul_add,Nat.add_comm]
  congr 1
  ·rw[Nat.mul_comm y 5,←Nat.mul_assoc,Nat.mul_comm (a*b) 5,←Nat.mul_assoc 5 a b]
  ·rw[Nat.mul_comm y P,←Nat.mul_assoc,Nat.mul_comm (a*b) P,Nat.mul_assoc]
 rw[e,←Nat.add_assoc,Nat.add_mul_mod_self_left]
theorem fQ {a b:Nat} {out:List Nat} {i k:Nat} (hl:out.length=5) (hi:i<5) (hk:k<5):Yn (TB a b out i k)%VG=(Yn out+a*b*67108864 ^ (i+k))%VG:=by
 unfold TB
 split
 ·rename_i h
  rw[Nh (by omega)]
 ·rename_i h
  rw[Nh (by omega)]
  obtain⟨j,hj⟩:∃j,i+k=j+5:=⟨i+k-5,by omega⟩
  rw[hj,Nat.add_sub_cancel,Nat.pow_add,X5]
  exact Zek _ _ _ _ _
def tJ (bs:List Nat):Nat→Nat
 | 0=>0
 | k+1=>tJ bs k+bs.getD k 0*67108864 ^ k
theorem EW {bs:List Nat} (h:bs.length=5):tJ bs 5=Yn bs:=by
 obtain⟨a,b,c,d,e,rfl⟩:=MB h
 simp only[tJ,Yn,List.getD_cons_zero,List.getD_cons_succ]
 omega
theorem EX {a:Nat} {bs out:List Nat} {i:Nat} (hl:out.length=5) (hi:i<5):∀k,k≤5→Yn (Sf a bs out i k)%VG=(Yn out+a*67108864 ^ i*tJ bs k)%VG
 | 0,_=>by rw[Sf,tJ,Nat.mul_zero,Nat.add_zero]
 | k+1,hk=>by
  rw[Sf,fQ (by rw[WO,hl]) hi (by omega),Nat.add_mod,EX hl hi k (by omega),←Nat.add_mod,tJ,Nat.mul_add,←Nat.add_assoc,Nat.pow_add]
  congr 2
  rw[Nat.mul_assoc,Nat.mul_assoc a]
  congr 1
  rw[←Nat.mul_assoc,Nat.mul_comm (bs.getD k 0),Nat.mul_assoc]
theorem EY {xs bs:List Nat} (hb:bs.length=5):∀i,i≤5→Yn (UK xs bs i)%VG=(tJ xs i*Yn bs)%VG
 | 0,_=>by rw[tJ,Nat.zero_mul];rfl
 | i+1,hi=>by
  rw[UK,EX (WQ xs bs i) (by omega) 5 (by omega),Nat.add_mod,EY hb i (by omega),←Nat.add_mod,EW hb,tJ,Nat.add_mul]
theorem Hw {xs bs:List Nat} (ha:xs.length=5) (hb:bs.length=5) (wa:Yj 268435456 xs) (wb:Yj 67108864 bs) :
  Yj (2 ^ 61) (UK xs bs 5)∧(UK xs bs 5).length=5∧Yn (UK xs bs 5)%VG=Yn xs*Yn bs%VG:=
 ⟨(G6 wa wb 5).mono (by decide),WQ xs bs 5,by rw[EY hb 5 (by omega),EW ha]⟩
def S8 (m:List Nat):Nat→List Nat
 | 0=>m.set 0 (m.getD 0 0+5)
 | i+1=>((S8 m i).set (i+1) ((S8 m i).getD (i+1) 0+(S8 m i).getD i 0/67108864)).set i ((S8 m i).getD i 0%67108864)
theorem Kb (m:List Nat):∀i,(S8 m i).length=m.length
 | 0=>by simp[S8]
 | i+1=>by rw[S8,List.length_set,List.length_set,Kb m i]
theorem mU {m:List Nat} (w:Yj 134217728 m):∀i,i≤10→Yj (134217728+6+i*8) (S8 m i)
 | 0,_=>(w.mono (by omega)).set _ _ (by have:=w.getD (by omega) 0;omega)
 | i+1,hi=>by
  have h:=mU w i (by omega)
  have q1:=h.getD (by omega) (i+1)
  have q2:=h.getD (by omega) i
  rw[S8]
  exact ((h.mono (by omega)).set _ _ (by omega)).set _ _ (by omega)
def Sg (m:List Nat):List Nat:=if (S8 m 4).getD 4 0/67108864=0 then m else (S8 m 4).set 4 ((S8 m 4).getD 4 0%67108864)
theorem Zma {A B C P:Nat} (h1:A+5=B) (h2:B=C) (h3:C<P+5):A<P:=by omega
theorem Zmb {A B C q:Nat} (h1:A+5=B) (h2:B=C+1361129467683753853853498429727072845824*q) (hv:A<1361129467683753853853498429727072845824+2 ^ 44) (h0:¬q=0):q=1:=by omega
theorem Zmc {A B C P:Nat} (h1:A+5=B) (h2:B=C+(P+5)) (hv:A<P+5+2 ^ 44) (hP:2 ^ 45<P):A=C+P*1∧C<P:=by omega
theorem fR {m:List Nat} (hl:m.length=5) (w:Yj 134217728 m) (hv:Yn m<4*H16+2 ^ 44):(Sg m).length=5∧Yj 134217728 (Sg m)∧Yn (Sg m)=Yn m%VG:=by
 obtain⟨a,b,c,d,e,rfl⟩:=MB hl
 obtain⟨wa,wb,wc,wd,we⟩:=w.tI
 obtain⟨t0,ht0⟩:∃t,t=a+5:=⟨_,rfl⟩
 obtain⟨t1,ht1⟩:∃t,t=b+t0/67108864:=⟨_,rfl⟩
 obtain⟨t2,ht2⟩:∃t,t=c+t1/67108864:=⟨_,rfl⟩
 obtain⟨t3,ht3⟩:∃t,t=d+t2/67108864:=⟨_,rfl⟩
 obtain⟨t4,ht4⟩:∃t,t=e+t3/67108864:=⟨_,rfl⟩
 have hY:S8 [a,b,c,d,e] 4=[t0%67108864,t1%67108864,t2%67108864,t3%67108864,t4]:=by rw[ht4,ht3,ht2,ht1,ht0];rfl
 have hW:Sg [a,b,c,d,e]=if t4/67108864=0 then [a,b,c,d,e] else [t0%67108864,t1%67108864,t2%67108864,t3%67108864,t4%67108864]:=by unfold Sg;rw[hY];rfl
 have e16:H16=340282366920938463463374607431768211456:=rfl
 rw[hW]
 have hs:Yn [a,b,c,d,e]+5=Yn [t0%67108864,t1%67108864,t2%67108864,t3%67108864,t4]:=by simp only[Yn];omega
 have hx:Yn [t0%67108864,t1%67108864,t2%67108864,t3%67108864,t4]=Yn [t0%67108864,t1%67108864,t2%67108864,t3%67108864,t4%67108864]+(VG+5)*(t4/67108864):=by rw[Ok];simp only[Yn];omega
 have hb4:Yn [t0%67108864,t1%67108864,t2%67108864,t3%67108864,t4%67108864]<VG+5:=by rw[Ok];simp only[Yn];omega
 have hH:4*H16=VG+5:=rfl
 rw[hH]at hv
 split
 ·rename_i h0
  refine⟨rfl,w,?_⟩
  rw[h0,Nat.mul_zero,Nat.add_zero]at hx
  rw[Nat.mod_eq_of_lt (Zma hs hx hb4)]
 ·rename_i h0
  refine⟨rfl,Yj.MB (by omega) (by omega) (by omega) (by omega) (by omega),?_⟩
  have h1:t4/67108864=1:=by
   rw[Ok]at hx hv
   exact Zmb hs hx hv h0
  rw[h1,Nat.mul_one]at hx
  obtain⟨hk,hC⟩:=Zmc hs hx hv (by rw[Ok];decide)
  rw[hk,Nat.add_mul_mod_self_left,Nat.mod_eq_of_lt hC]
theorem EZ (T:World) (h:Hp) (bk:Nat) (l:List Nat) (hl:l.length=5) (w:Yj (2 ^ 61) l) (hb:h[bk]? = some (Yd l)) :
  Zd Tryz.prog T 147 #[.pointer (some ⟨bk,0,none⟩)] h fun v' h'=>h'=h.setIfInBounds bk (Yd (Xc l)):=
 (Ao T h bk l hl w hb).mono fun v' h' ⟨a,ha,hh⟩=>by subst ha;exact hh
theorem G7 {l:List Nat} {i:Nat} (hi:i<l.length):nth (l.map uv) i=some (.int .u64 (l.getD i 0:Nat)):=by
 rw[Ym,List.getElem?_map,List.getElem?_eq_getElem hi,List.getD_eq_getElem?_getD,List.getElem?_eq_getElem hi];rfl
theorem Sh {g:Hp} {b:Nat} {l:List Nat} (hl:l.length=5) (hx:g[b]? = some (Yd l)):rd g ⟨b,0,none⟩ 5=some (l.map uv):=by
 unfold Yd at hx
 rw[List.append_nil]at hx
 exact Zp hx (by simpa using hl)
set_option maxHeartbeats 1000000 in
theorem E6 (T:World) (h:Hp) (xs bs:List Nat) (ha:xs.length=5) (hb:bs.length=5) (wa:Yj 268435456 xs) (wb:Yj 67108864 bs) :
  Zd Tryz.prog T 132 #[.agg (xs.map uv).toArray,.agg (bs.map uv).toArray] h fun v' h'=>v'=.agg ((Xc (UK xs bs 5)).map uv).toArray∧Zg h.size h h':=by
 have la:(xs.map uv).length=5:=by simpa using ha
 have lb:(bs.map uv).length=5:=by simpa using hb
 have ta:(xs.map uv).take 5=xs.map uv:=List.take_of_length_le (by omega)
 refine Zd.Zj (args:=[_,_]) Tryz.func132 rfl rfl rfl rfl ?_
 simp -implicitDefEqProofs only[go_sem,↓reduceIte,la,lb,ta]
 obtain⟨H,hH⟩:=Zy (((((h.push (.cells (xs.map uv).toArray 227)).push (.cells (bs.map uv).toArray 227)).push (.cells #[.int .u64 0,.int .u64 0,.int .u64 0,.int .u64 0,.int .u64 0] 227)).push (.cells #[.int .u64 0,.int .u64 0,.int .u64 0,.int .u64 0,.int .u64 0] 227)):Hp)
 have HB:Zg h.size h H:=by rw[hH];exact (((Zg.push (Nat.le_refl _) _).Yh (by simp) _).Yh (by simp;omega) _).Yh (by simp;omega) _
 have Hs:H.size=h.size+1+1+1+1:=by rw[hH];simp
 have H1:H[h.size+1]? = some (Yd bs):=by
  rw[hH,Zr (by simp),Zr (by simp)]
  have:=Zb (h:=h.push (.cells (xs.map uv).toArray 227)) (o:=.cells (bs.map uv).toArray 227)
  rw[Array.size_push]at this
  rw[this];unfold Yd;rw[List.append_nil]
 have H3:H[h.size+1+1+1]? = some (Yd (UK xs bs 0)):=by
  have:=Zb (h:=(((h.push (.cells (xs.map uv).toArray 227)).push (.cells (bs.map uv).toArray 227)).push (.cells #[.int .u64 0,.int .u64 0,.int .u64 0,.int .u64 0,.int .u64 0] 227))) (o:=.cells #[.int .u64 0,.int .u64 0,.int .u64 0,.int .u64 0,.int .u64 0] 227)
  rw[Array.size_push,Array.size_push,Array.size_push]at this
  rw[hH,this];rfl
 have H2:H[h.size+1+1]? = some (Yd [0,0,0,0,0]):=by
  have:=Zb (h:=((h.push (.cells (xs.map uv).toArray 227)).push (.cells (bs.map uv).toArray 227))) (o:=.cells #[.int .u64 0,.int .u64 0,.int .u64 0,.int .u64 0,.int .u64 0] 227)
  rw[Array.size_push,Array.size_push]at this
  rw[hH,Zr (by simp),this];rfl
 rw[←hH]
 clear hH
 obtain⟨bo,hbo⟩:=Zy (h.size+1+1+1)
 obtain⟨br,hbr⟩:=Zy (h.size+1+1)
 obtain⟨bb,U6⟩:=Zy (h.size+1)
 rw[←hbo]at H3 ⊢
 rw[←hbr]at H2 ⊢
 rw[←U6]at H1 ⊢
 refine VS.ZV (fun F g=>F 3=.pointer (some ⟨bb,0,none⟩)∧F 4=.pointer (some ⟨br,0,none⟩)∧F 5=.pointer (some ⟨bo,0,none⟩)∧F 10=.agg (xs.map uv).toArray∧∃i:Nat,i≤5∧F 11=.int .i64 i∧g=H.setIfInBounds bo (Yd (UK xs bs i)))
  (fun F _=>5-(vi (F 11)).toNat) rfl ⟨rfl,rfl,rfl,rfl,0,by omega,rfl,(Uh H3).symm⟩ ?_
 rintro F g ⟨f3,f4,f5,f10,i,hi,f11,rfl⟩
 by_cases ZD:i<5
 ·have ZL:(i:Int)<5:=by omega
  have n1:=G7 (l:=xs) (i:=i) (by omega)
  have H1':(H.setIfInBounds bo (Yd (UK xs bs i)))[bb]? = some (Yd bs):=by rw[Array.getElem?_setIfInBounds,if_neg (by omega)];exact H1
  have r1:=Sh hb H1'
  have wA:=wa.getD (by omega) i
  have Zaf:UK xs bs (i+1)=Sf (xs.getD i 0) bs (UK xs bs i) i 5:=rfl
  obtain⟨a,hax⟩:=Zy (xs.getD i 0)
  rw[←hax]at n1 wA Zaf
  simp -implicitDefEqProofs only[go_sem,↓reduceIte,f3,f4,f5,f10,f11,ZL,Int.toNat_natCast,n1,r1]
  have wO:Yj (1+i*450359962737049600) (UK xs bs i):=G6 wa wb i
  have lO:=WQ xs bs i
  obtain⟨o,ho⟩:=Zy (UK xs bs i)
  rw[←ho]at Zaf wO lO ⊢
  refine VS.ZV (fun F g=>F 3=.pointer (some ⟨bb,0,none⟩)∧F 4=.pointer (some ⟨br,0,none⟩)∧F 5=.pointer (some ⟨bo,0,none⟩)∧F 10=.agg (xs.map uv).toArray∧F 11=.int .i64 i∧F 6=.int .i64 i∧F 7=.int .u64 a∧F 15=.agg (bs.map uv).toArray∧∃k:Nat,k≤5∧F 16=.int .i64 k∧g=H.setIfInBounds bo (Yd (Sf a bs o i k)))
   (fun F _=>5-(vi (F 16)).toNat) rfl ⟨f3,f4,f5,f10,f11,rfl,rfl,rfl,0,by omega,rfl,rfl⟩ ?_
  clear f3 f4 f5 f10 f11 F
  rintro F g ⟨f3,f4,f5,f10,f11,f6,f7,f15,k,hk,f16,rfl⟩
  by_cases hlk:k<5
  ·have Zem:(k:Int)<5:=by omega
   have n2:=G7 (l:=bs) (i:=k) (by omega)
   have wB:=wb.getD (by omega) k
   have TC:Sf a bs o i (k+1)=TB a (bs.getD k 0) (Sf a bs o i k) i k:=rfl
   obtain⟨b,hbx⟩:=Zy (bs.getD k 0)
   rw[←hbx]at n2 wB TC
   have wR:=G0 wO (by omega) wA wb (i:=i) k
   have lR:(Sf a bs o i k).length=5:=by rw[WO,lO]
   have hx:(H.setIfInBounds bo (Yd (Sf a bs o i k)))[bo]? = some (Yd (Sf a bs o i k)):=ZR H3
   have hp:=Ng wA wB
   have hp5:=Ka wA wB
   obtain⟨r,hr⟩:=Zy (Sf a bs o i k)
   rw[←hr]at TC wR lR hx ⊢
   obtain⟨G,hG⟩:=Zy (H.setIfInBounds bo (Yd r))
   rw[←hG]at hx ⊢
   have eik:(i:Int)+(k:Int)=((i+k:Nat):Int):=rfl
   by_cases h5:i+k<5
   ·have h5':((i+k:Nat):Int)<5:=by omega
    have g1:=ZK hx (i:=i+k) (by omega)
    have y1:=wR.getD (by omega) (i+k)
    unfold uv at g1
    have hs:TB a b r i k=r.set (i+k) (r.getD (i+k) 0+a*b):=by unfold TB;rw[if_pos h5]
    rw[hs]at TC
    obtain⟨y,hy⟩:=Zy (r.getD (i+k) 0)
    rw[←hy]at g1 y1 TC
    have e1:(a:Int)*(b:Int)=((a*b:Nat):Int):=(Int.natCast_mul a b).symm
    have e2:((a*b:Nat):Int)%18446744073709551616=((a*b:Nat):Int):=by omega
    obtain⟨p,hp'⟩:=Zy (a*b)
    rw[←hp']at e1 e2 hp TC
    have e3:(y:Int)+(p:Int)=((y+p:Nat):Int):=rfl
    have e4:((y+p:Nat):Int)%18446744073709551616=((y+p:Nat):Int):=by omega
    have c1:Jx G ⟨bo,i+k,none⟩ (.int .u64 (y+p:Nat))=_:=ZZ (f:=uv) hx (i:=i+k) (by omega) (y+p) rfl
    simp -implicitDefEqProofs only[go_sem,↓reduceIte,f3,f4,f5,f6,f7,f10,f11,f15,f16,Zem,Int.toNat_natCast,n2,eik,h5',g1,e1,e2,e3,e4,c1]
    refine⟨⟨f3,f4,f5,f10,f11,f6,f7,f15,k+1,hlk,rfl,?_⟩,?_⟩
    ·rw[hG,set_set,TC];rfl
    ·simp only[vi,Zk,↓reduceIte,f16];omega
   ·have h5':¬((i+k:Nat):Int)<5:=by omega
    have g1:=ZK hx (i:=i+k-5) (by omega)
    have y1:=wR.getD (by omega) (i+k-5)
    unfold uv at g1
    have hs:TB a b r i k=r.set (i+k-5) (r.getD (i+k-5) 0+5*a*b):=by unfold TB;rw[if_neg h5]
    rw[hs]at TC
    obtain⟨y,hy⟩:=Zy (r.getD (i+k-5) 0)
    rw[←hy]at g1 y1 TC
    have e0:(5:Int)*(a:Int)=((5*a:Nat):Int):=rfl
    have qD:((5*a:Nat):Int)%18446744073709551616=((5*a:Nat):Int):=by omega
    have e1:((5*a:Nat):Int)*(b:Int)=((5*a*b:Nat):Int):=(Int.natCast_mul (5*a) b).symm
    have e2:((5*a*b:Nat):Int)%18446744073709551616=((5*a*b:Nat):Int):=by omega
    obtain⟨p,hp'⟩:=Zy (5*a*b)
    rw[←hp']at e1 e2 hp5 TC
    have e3:(y:Int)+(p:Int)=((y+p:Nat):Int):=rfl
    have e4:((y+p:Nat):Int)%18446744073709551616=((y+p:Nat):Int):=by omega
    have e5:((i+k:Nat):Int)-5=((i+k-5:Nat):Int):=by omega
    have e6:((i+k-5:Nat):Int)<5:=by omega
    have c1:Jx G ⟨bo,i+k-5,none⟩ (.int .u64 (y+p:Nat))=_:=ZZ (f:=uv) hx (i:=i+k-5) (by omega) (y+p) rfl
    simp -implicitDefEqProofs only[go_sem,↓reduceIte,f3,f4,f5,f6,f7,f10,f11,f15,f16,Zem,Int.toNat_natCast,n2,eik,h5',g1,e0,qD,e1,e2,e3,e4,e5,e6,c1]
    refine⟨⟨f3,f4,f5,f10,f11,f6,f7,f15,k+1,hlk,rfl,?_⟩,?_⟩
    ·rw[hG,set_set,TC];rfl
    ·simp only[vi,Zk,↓reduceIte,f16];omega
  ·have YJ:¬(k:Int)<5:=by omega
   obtain rfl:k=5:=by omega
   have c5:((5:Nat):Int)=5:=rfl
   rw[c5]at f16 YJ
   simp -implicitDefEqProofs only[go_sem,↓reduceIte,f3,f4,f5,f10,f11,f16,YJ]
   refine⟨⟨f3,f4,f5,f10,i+1,ZD,rfl,?_⟩,?_⟩
   ·rw[Zaf]
   ·simp only[vi,Zk,↓reduceIte,f11];omega
 ·have YJ:¬(i:Int)<5:=by omega
  obtain rfl:i=5:=by omega
  have c5:((5:Nat):Int)=5:=rfl
  rw[c5]at f11 YJ
  have hx:(H.setIfInBounds bo (Yd (UK xs bs 5)))[bo]? = some (Yd (UK xs bs 5)):=ZR H3
  have RN:(H.setIfInBounds bo (Yd (UK xs bs 5)))[br]? = some (Yd [0,0,0,0,0]):=by rw[Array.getElem?_setIfInBounds,if_neg (by omega)];exact H2
  have HB2:Zg h.size h (H.setIfInBounds bo (Yd (UK xs bs 5))):=HB.Zl (by omega) _
  obtain⟨w1,w2,w3⟩:=Hw ha hb wa wb
  obtain⟨o,ho⟩:=Zy (UK xs bs 5)
  rw[←ho]at hx RN HB2 w1 w2 ⊢
  generalize H.setIfInBounds bo (Yd o)=G at *
  simp -implicitDefEqProofs only[go_sem,↓reduceIte,f3,f4,f5,f10,f11,YJ]
  refine (EZ T G bo o w2 w1 hx).use ?_
  rintro _ _ rfl
  obtain⟨m1,m2,m3⟩:=SP w2 w1
  have Ar:(G.setIfInBounds bo (Yd (Xc o)))[bo]? = some (Yd (Xc o)):=ZR hx
  have CA:(G.setIfInBounds bo (Yd (Xc o)))[br]? = some (Yd [0,0,0,0,0]):=by rw[Array.getElem?_setIfInBounds,if_neg (by omega)];exact RN
  have HB3:Zg h.size h (G.setIfInBounds bo (Yd (Xc o))):=HB2.Zl (by omega) _
  generalize G.setIfInBounds bo (Yd (Xc o))=G2 at *
  have r3:=Sh m1 Ar
  have lc:((Xc o).map uv).length=5:=by simpa using m1
  have w4:=ZS (h:=G2) (b:=br) (l:=([0,0,0,0,0].map uv)) (by unfold Yd at CA;rw[List.append_nil]at CA;exact CA) 0 ((Xc o).map uv)
  have ho4:((Xc o).map uv).all Z7=true:=by simp[uv,Z7]
  rw[if_pos ⟨by simp[lc],ho4⟩,ZP (by simp[lc])]at w4
  have tc:((Xc o).map uv).take 5=(Xc o).map uv:=List.take_of_length_le (by omega)
  have hlr:=Za CA
  simp -implicitDefEqProofs only[go_sem,↓reduceIte,f3,f4,f5,r3,w4,lc,tc,hlr]
  exact HB3.Zl (by omega) _
theorem E7 (T:World) (h:Hp) (xs:List Nat) (ha:xs.length=5) (wa:Yj 268435456 xs) :
  Zd Tryz.prog T 133 #[.agg (xs.map uv).toArray] h fun v' h'=>v'=.agg ((Sg (Xc xs)).map uv).toArray∧Zg h.size h h':=by
 have la:(xs.map uv).length=5:=by simpa using ha
 refine Zd.Zj (args:=[_]) Tryz.func133 rfl rfl rfl rfl ?_
 simp -implicitDefEqProofs only[go_sem,↓reduceIte,la]
 obtain⟨H,hH⟩:=Zy (((h.push (.cells (xs.map uv).toArray 227)).push (.cells #[.int .u64 0,.int .u64 0,.int .u64 0,.int .u64 0,.int .u64 0] 227)):Hp)
 have HB:Zg h.size h H:=by rw[hH];exact ((Zg.push (Nat.le_refl _) _).Yh (by simp) _)
 have Hs:H.size=h.size+1+1:=by rw[hH];simp
 have H0:H[h.size]? = some (Yd xs):=by
  rw[hH,Zr (by simp),Zb];unfold Yd;rw[List.append_nil]
 have H1:H[h.size+1]? = some (Yd [0,0,0,0,0]):=by
  have:=Zb (h:=(h.push (.cells (xs.map uv).toArray 227))) (o:=.cells #[.int .u64 0,.int .u64 0,.int .u64 0,.int .u64 0,.int .u64 0] 227)
  rw[Array.size_push]at this
  rw[hH,this];rfl
 rw[←hH]
 clear hH
 refine (EZ T H h.size xs ha (wa.mono (by decide)) H0).use ?_
 rintro _ _ rfl
 obtain⟨m1,m2,m3,m4⟩:=SP ha (wa.mono (by decide))
 have Sc:(H.setIfInBounds h.size (Yd (Xc xs)))[h.size]? = some (Yd (Xc xs)):=ZR H0
 have Qy:(H.setIfInBounds h.size (Yd (Xc xs)))[h.size+1]? = some (Yd [0,0,0,0,0]):=by rw[Array.getElem?_setIfInBounds,if_neg (by omega)];exact H1
 have HB2:Zg h.size h (H.setIfInBounds h.size (Yd (Xc xs))):=HB.Zl (Nat.le_refl _) _
 have Hs2:(H.setIfInBounds h.size (Yd (Xc xs))).size=h.size+1+1:=by rw[Array.size_setIfInBounds];exact Hs
 obtain⟨m,hm⟩:=Zy (Xc xs)
 rw[←hm]at Sc Qy HB2 Hs2 m1 m2 m3 m4 ⊢
 generalize H.setIfInBounds h.size (Yd m)=G at *
 have r0:=Sh m1 Sc
 have lm:(m.map uv).length=5:=by simpa using m1
 have hom:(m.map uv).all Z7=true:=by simp[uv,Z7]
 have lp:Ys [Value.int .u64 0,.int .u64 0,.int .u64 0,.int .u64 0,.int .u64 0] 0 (m.map uv)=m.map uv:=ZP lm
 have n0:=G7 (l:=m) (i:=0) (by omega)
 have y0:=m2.getD (by omega) 0
 have hw0:S8 m 0=m.set 0 (m.getD 0 0+5):=rfl
 obtain⟨y,hy⟩:=Zy (m.getD 0 0)
 rw[←hy]at n0 y0 hw0
 have e1:(y:Int)+5=((y+5:Nat):Int):=rfl
 have e2:((y+5:Nat):Int)%18446744073709551616=((y+5:Nat):Int):=by omega
 simp -implicitDefEqProofs only[go_sem,↓reduceIte,r0,lm,hom,Hs2,lp,n0,e1,e2]
 have hms:(m.map uv).set 0 (.int .u64 (y+5:Nat))=(m.set 0 (y+5)).map uv:=by rw[List.map_set];rfl
 rw[hms,←hw0]
 obtain⟨J,hJ⟩:=Zy (G.push (.cells ((S8 m 0).map uv).toArray 227))
 have J3:J[h.size+1+1]? = some (Yd (S8 m 0)):=by
  rw[hJ,←Hs2,Zb];unfold Yd;rw[List.append_nil]
 have J0:J[h.size]? = some (Yd m):=by rw[hJ,Zr (by omega)];exact Sc
 have J1:J[h.size+1]? = some (Yd [0,0,0,0,0]):=by rw[hJ,Zr (by omega)];exact Qy
 have JB:Zg h.size h J:=by rw[hJ];exact HB2.Yh (by omega) _
 rw[←hJ]
 clear hJ
 obtain⟨b3,hb3⟩:∃b,b=h.size+1+1:=⟨_,rfl⟩
 obtain⟨b2,I0⟩:∃b,b=h.size+1:=⟨_,rfl⟩
 rw[←hb3]at J3 ⊢
 rw[←I0]at J1 ⊢
 refine VS.ZV (fun F g=>F 1=.pointer (some ⟨h.size,0,none⟩)∧F 2=.pointer (some ⟨b2,0,none⟩)∧F 3=.pointer (some ⟨b3,0,none⟩)∧∃i:Nat,i≤4∧F 11=.int .i64 i∧g=J.setIfInBounds b3 (Yd (S8 m i)))
  (fun F _=>4-(vi (F 11)).toNat) rfl ⟨rfl,rfl,rfl,0,by omega,rfl,(Uh J3).symm⟩ ?_
 rintro F g ⟨f1,f2,f3,i,hi,f11,rfl⟩
 have hx:(J.setIfInBounds b3 (Yd (S8 m i)))[b3]? = some (Yd (S8 m i)):=ZR J3
 have wY:=mU m2 i (by omega)
 have lY:(S8 m i).length=5:=by rw[Kb,m1]
 by_cases ZD:i<4
 ·have ZL:(i:Int)<4:=by omega
  have YA:S8 m (i+1)=((S8 m i).set (i+1) ((S8 m i).getD (i+1) 0+(S8 m i).getD i 0/67108864)).set i ((S8 m i).getD i 0%67108864):=rfl
  obtain⟨r,hr⟩:=Zy (S8 m i)
  rw[←hr]at hx wY lY YA ⊢
  obtain⟨G1,jy⟩:=Zy (J.setIfInBounds b3 (Yd r))
  rw[←jy]at hx ⊢
  have g1:=ZK hx (i:=i+1) (by omega)
  have g0:=ZK hx (i:=i) (by omega)
  have q1:=wY.getD (by omega) (i+1)
  have q0:=wY.getD (by omega) i
  unfold uv at g0 g1
  obtain⟨a,hax⟩:=Zy (r.getD i 0)
  obtain⟨b,hbx⟩:=Zy (r.getD (i+1) 0)
  rw[←hax]at g0 q0 YA
  rw[←hbx]at g1 q1 YA
  have s1:=cE a
  have s2:=Se a (by omega)
  have t1:(b:Int)+((a/67108864:Nat):Int)=((b+a/67108864:Nat):Int):=rfl
  have t2:((b+a/67108864:Nat):Int)%18446744073709551616=((b+a/67108864:Nat):Int):=by omega
  have ei:(i:Int)+1=((i+1:Nat):Int):=rfl
  have cF:((i+1:Nat):Int)<5:=by omega
  have Zmg:(i:Int)<5:=by omega
  have c1:Jx G1 ⟨b3,i+1,none⟩ (.int .u64 (b+a/67108864:Nat))=_:=ZZ (f:=uv) hx (i:=i+1) (by omega) (b+a/67108864) rfl
  have G8:=ZR (o:=.cells ((r.set (i+1) (b+a/67108864)).map uv++[]).toArray 227) hx
  have l1:(r.set (i+1) (b+a/67108864)).length=5:=by rw[List.length_set,lY]
  have v1:(r.set (i+1) (b+a/67108864)).getD i 0=a:=by rw[Oj (by omega),←hax]
  obtain⟨r1,jz⟩:=Zy (r.set (i+1) (b+a/67108864))
  rw[←jz]at c1 G8 l1 v1 YA
  obtain⟨G2,bX⟩:=Zy (G1.setIfInBounds b3 (.cells (r1.map uv++[]).toArray 227))
  rw[←bX]at c1 G8
  have g2:=ZK G8 (i:=i) (by omega)
  unfold uv at g2
  rw[v1]at g2
  have c2:Jx G2 ⟨b3,i,none⟩ (.int .u64 (a%67108864:Nat))=_:=ZZ (f:=uv) G8 (i:=i) (by omega) (a%67108864) rfl
  simp -implicitDefEqProofs only[go_sem,↓reduceIte,f1,f2,f3,f11,ZL]
  refine VS.w (b3+1) [10] (.q 0 (.q 1 (.q 2 (.q 3 (.q 4 (.q 5 (.q 6 (.q 7 (.q 8 (.q 9 (.w 10 .nil))))))))))) mixed (by kernel_rfl) ?_
  simp -implicitDefEqProofs only[go_sem,↓reduceIte,f1,f2,f3,f11,ei,cF,Zmg,Int.toNat_natCast,Nat.zero_add,g0,g1,s1,t1,t2,c1,g2,s2,c2]
  refine⟨⟨f1,f2,f3,i+1,ZD,rfl,?_⟩,?_⟩
  ·rw[bX,set_set,jy,set_set,YA];rfl
  ·simp only[vi,Zk,↓reduceIte,f11];omega
 ·have YJ:¬(i:Int)<4:=by omega
  obtain rfl:i=4:=by omega
  have c4:((4:Nat):Int)=4:=rfl
  rw[c4]at f11 YJ
  have hW:Sg m=if (S8 m 4).getD 4 0/67108864=0 then m else (S8 m 4).set 4 ((S8 m 4).getD 4 0%67108864):=rfl
  have fS:(J.setIfInBounds b3 (Yd (S8 m 4)))[h.size]? = some (Yd m):=by rw[Array.getElem?_setIfInBounds,if_neg (by omega)];exact J0
  have G8:(J.setIfInBounds b3 (Yd (S8 m 4)))[b2]? = some (Yd [0,0,0,0,0]):=by rw[Array.getElem?_setIfInBounds,if_neg (by omega)];exact J1
  have HB3:Zg h.size h (J.setIfInBounds b3 (Yd (S8 m 4))):=JB.Zl (by omega) _
  obtain⟨r,hr⟩:=Zy (S8 m 4)
  rw[←hr]at hx wY lY fS G8 HB3 hW ⊢
  generalize J.setIfInBounds b3 (Yd r)=G1 at *
  have g4:=ZK hx (i:=4) (by omega)
  have q4:=wY.getD (by omega) 4
  unfold uv at g4
  obtain⟨a,hax⟩:=Zy (r.getD 4 0)
  rw[←hax]at g4 q4 hW
  have s1:=cE a
  have s2:=Se a (by omega)
  have w4:=fun (k:List Nat) (hk:k.length=5)=>ZS (h:=G1) (b:=b2) (l:=([0,0,0,0,0].map uv)) (by unfold Yd at G8;rw[List.append_nil]at G8;exact G8) 0 (k.map uv)
  have h2s:=Za G8
  by_cases h0:a/67108864=0
  ·have h0':((a/67108864:Nat):Int)=0:=by omega
   rw[if_pos h0]at hW
   have w5:=w4 m m1
   rw[if_pos ⟨by simp[lm],hom⟩,ZP (by simp[lm])]at w5
   have r1:=Sh m1 fS
   have tm:(m.map uv).take 5=m.map uv:=List.take_of_length_le (by omega)
   simp -implicitDefEqProofs only[go_sem,↓reduceIte,f1,f2,f3,f11,YJ,g4,s1,h0',r1,w5,lm,tm,h2s]
   exact⟨by rw[hW],HB3.Zl (by omega) _⟩
  ·have h0':¬((a/67108864:Nat):Int)=0:=by omega
   rw[if_neg h0]at hW
   have c1:Jx G1 ⟨b3,4,none⟩ (.int .u64 (a%67108864:Nat))=_:=ZZ (f:=uv) hx (i:=4) (by omega) (a%67108864) rfl
   have hz:=ZR (o:=.cells ((r.set 4 (a%67108864)).map uv++[]).toArray 227) hx
   have l1:(r.set 4 (a%67108864)).length=5:=by rw[List.length_set,lY]
   have HB4:Zg h.size h (G1.setIfInBounds b3 (.cells ((r.set 4 (a%67108864)).map uv++[]).toArray 227)):=HB3.Zl (by omega) _
   have As:(G1.setIfInBounds b3 (.cells ((r.set 4 (a%67108864)).map uv++[]).toArray 227))[b2]? = some (Yd [0,0,0,0,0]):=by rw[Array.getElem?_setIfInBounds,if_neg (by omega)];exact G8
   rw[hW]
   obtain⟨r1,jz⟩:=Zy (r.set 4 (a%67108864))
   rw[←jz]at c1 hz l1 HB4 As ⊢
   generalize G1.setIfInBounds b3 (.cells (r1.map uv++[]).toArray 227)=G2 at *
   have r4:=Sh l1 hz
   have lr:(r1.map uv).length=5:=by simpa using l1
   have hor:(r1.map uv).all Z7=true:=by simp[uv,Z7]
   have w5:=ZS (h:=G2) (b:=b2) (l:=([0,0,0,0,0].map uv)) (by unfold Yd at As;rw[List.append_nil]at As;exact As) 0 (r1.map uv)
   rw[if_pos ⟨by simp[lr],hor⟩,ZP (by simp[lr])]at w5
   have tm:(r1.map uv).take 5=r1.map uv:=List.take_of_length_le (by omega)
   have Zmh:=Za As
   simp -implicitDefEqProofs only[go_sem,↓reduceIte,f1,f2,f3,f11,YJ,g4,s1,s2,h0',Nat.zero_add,c1,r4,w5,lr,tm,Zmh]
   exact HB4.Zl (by omega) _
def mV (key:List Nat) (i:Nat):Nat:=if i%4=3 then key.getD i 0%16 else if i%4=0∧0<i then key.getD i 0/4*4 else key.getD i 0
def X1 (key:List Nat):List Nat:=(List.range 16).map (mV key)
def Zeo (data:List Nat) (k:Nat):List Nat:=(data.drop (16*k)).take 16++[1]
def mW (r:Nat) (data:List Nat):Nat→Nat
 | 0=>0
 | k+1=>(mW r data k+Y5 (Zeo data k))*r%VG
def tK (key data:List Nat):Nat:=mW (Y5 (X1 key)) data ((data.length+15)/16)+Y5 ((key.drop 16).take 16)
def At (key data:List Nat):List Nat:=(List.range 16).map fun i=>tK key data/256 ^ i%256
theorem IK (key:List Nat):(X1 key).length=16:=by simp[X1]
theorem E8 (key data:List Nat):(At key data).length=16:=by simp[At]
theorem SQ {h:Hp} {p:Option Addr} {c n:Nat} {l:List Nat} (s:Bs h (.slice p n c) l) {m:Nat} (hm:m≤l.length) (c':Nat):Bs h (.slice p m c') (l.take m):=by
 refine⟨?_,fun x hx=>s.byte x (List.mem_of_mem_take hx)⟩
 obtain⟨p',cap,hv,hl,hc⟩:=s.sl
 simp only[Value.slice.injEq]at hv
 obtain⟨rfl,_,rfl⟩:=hv
 refine⟨_,c',by rw[List.length_take,Nat.min_eq_left hm],by simp,fun Yw=>?_⟩
 obtain⟨b,o,rfl,YV⟩:=hc (by intro e;simp at e;subst e;simp at Yw)
 refine⟨b,o,rfl,fun i hi=>?_⟩
 have bH:i<m∧i<l.length:=by rw[List.length_map,List.length_take]at hi;omega
 rw[YV i (by simp;omega)]
 simp
theorem Zai {h:Hp} {p:Option Addr} {c n:Nat} {l:List Nat} (s:Bs h (.slice p n c) l) (hn:l.length=n) {k m:Nat} (hk:k+m≤n) (QB:n≤c) (c':Nat):Bs h (.slice (BX p 1 c k) m c') ((l.drop k).take m):=
 SQ (SL s hn (k:=k) (by omega) QB c') (by rw[List.length_drop];omega) c'
def Ve (key data:List Nat):Int:=if key.length≠32∨4000<data.length then 1 else 0
def mX (B:Nat) (h:Hp) (v:Value) (key data:List Nat):Prop:=∃w,v=.tuple #[w,.int .i64 (Ve key data)]∧Z0 B 5 h w (if Ve key data=0 then At key data else [])
def X2:List (Option IntKind):=rep 32 [some .i64]++rep 8 [none]
theorem Ui:∀{ks:List (Option IntKind)} {vs:List Value} (i:Nat) (v:Value),Yy ks vs=true→(∀k,ks[i]? = some k→Uv k v=true)→Yy ks (vs.set i v)=true:=by
 intro ks
 induction ks with
 | nil=>intro vs i v h _;cases vs<;>simp[Yy]at h ⊢
 | cons k ks ih=>
  intro vs i v h hk
  cases vs with
  | nil=>simp[Yy]at h
  | cons x vs=>
   simp only[Yy,Bool.and_eq_true]at h
   cases i with
   | zero=>simp only[List.set_cons_zero,Yy,Bool.and_eq_true];exact⟨hk k rfl,h.2⟩
   | succ i=>simp only[List.set_cons_succ,Yy,Bool.and_eq_true];exact⟨h.1,ih i v h.2 (fun k' PS=>hk k' (by simpa using PS))⟩
theorem Qi {i:Nat} (hi:i<32) (n:Int):∀k,X2[i]? = some k→Uv k (.int .i64 n)=true:=by
 intro k hk
 have:∀i<32,X2[i]? = some (some .i64):=by decide
 rw[this i hi]at hk
 obtain rfl:=Option.some.inj hk
 rfl
theorem E9 {i:Nat} (h1:32≤i) (b:Bool):∀k,X2[i]? = some k→Uv k (.bool b)=true:=by
 intro k hk
 have:∀j<8,X2[32+j]? = some none:=by decide
 by_cases h2:i<40
 ·have:=this (i-32) (by omega)
  rw[show 32+(i-32)=i by omega]at this
  rw[this]at hk
  obtain rfl:=Option.some.inj hk
  rfl
 ·rw[List.getElem?_eq_none (by show 40≤i;omega)]at hk;cases hk
theorem Si {g:Hp} {b:Nat} {o:Obj} (hx:g[b]? = some o):g.setIfInBounds b o=g:=by
 apply Array.ext_getElem?
 intro i
 rw[Array.getElem?_setIfInBounds]
 by_cases hb:b=i
 ·subst hb;rw[if_pos rfl,if_pos (Za hx),hx]
 ·rw[if_neg hb]
structure Zep where
 cells:List Value
 code:Int
 val:Int
def Sj (cs:List Value) (k c n v:Nat):List Value × Int:=
 if k=1 then (cs.set n (.int .i64 v),v) else if k=2 then (cs,ci cs n) else (cs.set (32+n) (.bool true),0)
def U9 (cs:List Value) (k c s n v:Nat):Zep:=
 if k=0 then ⟨cs,0,0⟩ else
 if (s:Int)+1=ci cs (8+c) then ⟨cs,ci cs (16+c*2),ci cs (16+c*2+1)⟩ else
 if (s:Int)<ci cs (8+c) then ⟨cs,7,0⟩ else
 if cb cs (32+c)=true then ⟨cs,11,0⟩ else
 ⟨((((Sj cs k c n v).1.set (8+c) (.int .i64 ((s:Int)+1))).set (16+c*2) (.int .i64 0)).set (16+c*2+1) (.int .i64 (Sj cs k c n v).2)),0,(Sj cs k c n v).2⟩
def NY (cs:List Value) (k c s n v:Int):Int:=if QC cs=true then 5 else YM k c s n v
def JH:List Value:=rep 32 [Value.int .i64 0]++rep 8 [Value.bool false]
def doL (cs:List Value) (k c s n v:Int):List Value:=
 if NY cs k c s n v=0 then [.agg (U9 cs k.toNat c.toNat s.toNat n.toNat v.toNat).cells.toArray,.agg [.int .i64 (U9 cs k.toNat c.toNat s.toNat n.toNat v.toNat).code,.int .i64 (U9 cs k.toNat c.toNat s.toNat n.toNat v.toNat).val].toArray,.int .i64 0]
  else [.agg JH.toArray,.agg [.int .i64 0,.int .i64 0].toArray,.int .i64 (NY cs k c s n v)]
def xy (v':Value) (cs:List Value) (k c s n v:Int):Prop:=v'=.tuple (doL cs k c s n v).toArray
theorem Tm {k c s n v:Int} (h:YM k c s n v=0):∃k' c' s' n' v':Nat,k=k'∧c=c'∧s=s'∧n=n'∧v=v'∧k'≤3∧c'≤7∧s'≤1048576∧n'≤7∧v'≤1073741824:=by
 have:0≤k∧k≤3∧0≤c∧c≤7∧0≤s∧s≤1048576∧0≤n∧n≤7∧0≤v∧v≤1073741824:=by
  unfold YM at h
  repeat' split at h
  all_goals omega
 exact⟨k.toNat,c.toNat,s.toNat,n.toNat,v.toNat,by omega,by omega,by omega,by omega,by omega,by omega,by omega,by omega,by omega,by omega⟩
theorem Hx {cs:List Value} {i j:Nat} {x:Value} (h:i≠j):ci (cs.set i x) j=ci cs j:=by
 unfold ci
 rw[Ym,Ym,List.getElem?_set_ne h]
theorem ints_set {cs:List Value} {j:Nat} (hj:j<cs.length) (x:Int) (hi:∀i,i<32→nth cs i=some (.int .i64 (ci cs i))):∀i,i<32→nth (cs.set j (.int .i64 x)) i=some (.int .i64 (ci (cs.set j (.int .i64 x)) i)):=by
 intro i h32
 by_cases e:j=i
 ·subst e
  have:nth (cs.set j (.int .i64 x)) j=some (.int .i64 x):=by rw[Ym,List.getElem?_set_self hj]
  unfold ci
  rw[this]
 ·rw[Hx e,Ym,List.getElem?_set_ne e,←Ym];exact hi i h32
theorem fU (cs:List Value) (k c n v:Nat) (x:Value) (hn:n≤7) (hc:c≤7):Sj (cs.set (8+c) x) k c n v=((Sj cs k c n v).1.set (8+c) x,(Sj cs k c n v).2):=by
 unfold Sj
 by_cases k1:k=1
 ·rw[if_pos k1,if_pos k1,List.set_comm _ _ (by omega)]
 ·rw[if_neg k1,if_neg k1]
  by_cases k2:k=2
  ·rw[if_pos k2,if_pos k2,Hx (by omega)]
  ·rw[if_neg k2,if_neg k2,List.set_comm _ _ (by omega)]
theorem Da {cs:List Value} (hf:Yy X2 cs=true) (k c n v:Nat) (hn:n≤7):Yy X2 (Sj cs k c n v).1=true:=by
 unfold Sj
 by_cases k1:k=1
 ·rw[if_pos k1];exact Ui n _ hf (Qi (by omega) _)
 ·rw[if_neg k1]
  by_cases k2:k=2
  ·rw[if_pos k2];exact hf
  ·rw[if_neg k2];exact Ui (32+n) _ hf (E9 (by omega) _)
theorem fV {cs:List Value} (hf:Yy X2 cs=true) (k c s n v:Nat) (hn:n≤7) (hc:c≤7):Yy X2 (U9 cs k c s n v).cells=true:=by
 unfold U9
 repeat' split
 all_goals first|exact hf|skip
 exact Ui _ _ (Ui _ _ (Ui _ _ (Da hf k c n v hn) (Qi (by omega) _)) (Qi (by omega) _)) (Qi (by omega) _)
theorem Db (T:World) (h:Hp) (b:Nat) (cs:List Value) (k c s n v:Nat) (hl:cs.length=40) (hi:∀i,i<32→nth cs i=some (.int .i64 (ci cs i))) (hn:n≤7) (hk:1≤k) (hk3:k≤3) (hx:h[b]? = some (.cells cs.toArray 62)) :
  Zd Tryz.prog T 48 #[.pointer (some ⟨b,0,none⟩),.agg (Qt k c s n v).toArray] h fun v' h'=>v'=.agg [.int .i64 0,.int .i64 (Sj cs k c n v).2].toArray∧Zg h.size (h.setIfInBounds b (.cells (Sj cs k c n v).1.toArray 62)) h':=by
 refine Zd.Zj (args:=[_,_]) Tryz.func48 rfl rfl rfl rfl ?_
 have hb:=Za hx
 have hn8:(n:Int)<8:=by omega
 unfold Qt Sj
 by_cases k1:k=1
 ·subst k1
  simp +contextual -implicitDefEqProofs only[go_sem,↓reduceIte]
  refine VS.w (h.size+2) [8] (.q 0 (.q 1 (.q 2 (.q 3 (.q 4 (.q 5 (.q 6 (.q 7 (.w 8 .nil))))))))) mixed (by kernel_rfl) ?_
  have w1:=Yz hx n (.int .i64 v)
  rw[if_pos ⟨by omega,rfl⟩]at w1
  have nn:nth (cs.set n (.int .i64 (v:Int))) n=some (.int .i64 v):=by rw[Ym,List.getElem?_set_self (by omega)]
  simp +contextual -implicitDefEqProofs only[go_sem,↓reduceIte,hn8,w1,hb]
  refine VS.w (h.size+2) [8] (.q 0 (.q 1 (.q 2 (.q 3 (.q 4 (.q 5 (.q 6 (.q 7 (.w 8 .nil))))))))) mixed (by kernel_rfl) ?_
  simp +contextual -implicitDefEqProofs only[go_sem,↓reduceIte,hn8,hb,nn]
  try exact ((Zg.push (by simp) _).Yh (by simp) _)
 ·by_cases k2:k=2
  ·subst k2
   have nn:=hi n (by omega)
   have x1:hc h ⟨b,n,none⟩=some (.int .i64 (ci cs n)):=by rw[Zh hx];exact nn
   have xz:=Si hx
   simp +contextual -implicitDefEqProofs only[go_sem,↓reduceIte,xz]
   refine VS.w (h.size+2) [8] (.q 0 (.q 1 (.q 2 (.q 3 (.q 4 (.q 5 (.q 6 (.q 7 (.w 8 .nil))))))))) mixed (by kernel_rfl) ?_
   simp +contextual -implicitDefEqProofs only[go_sem,↓reduceIte,hn8,hb,x1]
  ·have k3:k=3:=by omega
   subst k3
   have w1:=Yz hx (32+n) (.bool true)
   rw[if_pos ⟨by omega,rfl⟩]at w1
   simp +contextual -implicitDefEqProofs only[go_sem,↓reduceIte]
   refine VS.w (h.size+2) [6] (.q 0 (.q 1 (.q 2 (.q 3 (.q 4 (.q 5 (.w 6 .nil))))))) mixed (by kernel_rfl) ?_
   simp +contextual -implicitDefEqProofs only[go_sem,↓reduceIte,hn8,w1,hb]
   try exact ((Zg.push (by simp) _).Yh (by simp) _)
theorem Au (T:World) (h:Hp) (cs:List Value) (k c s n v:Int) (hf:Yy X2 cs=true) (hi:∀i,i<32→nth cs i=some (.int .i64 (ci cs i))) (hb:∀i,32≤i→i<40→nth cs i=some (.bool (cb cs i))) :
  Zd Tryz.prog T 28 #[.agg cs.toArray,.agg (Qt k c s n v).toArray] h fun v' h'=>xy v' cs k c s n v∧Zg h.size h h':=by
 have hl:cs.length=40:=YP hf
 have tk:=Xm hl
 have Xj:=LC hf
 refine Zd.XO (args:=[_,_]) Tryz.func28 rfl rfl rfl rfl ?_
 unfold Qt
 simp +contextual -implicitDefEqProofs only[go_sem,↓reduceIte,hl,tk]
 refine (fv T _ cs hl hi).use ?_
 rintro _ _ ⟨rfl,rfl⟩
 unfold xy doL NY
 by_cases e1:QC cs=true
 ·simp +contextual -implicitDefEqProofs only[go_sem,↓reduceIte,e1]
  refine⟨rfl,?_⟩
  (repeat' (first|exact Zg.refl _ _|assumption|refine Zg.add ?_ _|refine Zg.Zl ?_ (by first|omega|(simp;omega)) _|refine Zg.trans (by assumption) ?_))
 ·have e1:QC cs=false:=by simpa using e1
  simp +contextual -implicitDefEqProofs only[go_sem,↓reduceIte,e1]
  refine (Qb T _ k c s n v).use ?_
  rintro _ _ ⟨rfl,rfl⟩
  unfold Qt
  by_cases e2:YM k c s n v=0
  ·obtain⟨k,c,s,n,v,rfl,rfl,rfl,rfl,rfl,y1,y2,y3,y4,y5⟩:=Tm e2
   simp only[Int.toNat_natCast]
   have XY:JH=[.int .i64 0,.int .i64 0,.int .i64 0,.int .i64 0,.int .i64 0,.int .i64 0,.int .i64 0,.int .i64 0,.int .i64 0,.int .i64 0,.int .i64 0,.int .i64 0,.int .i64 0,.int .i64 0,.int .i64 0,.int .i64 0,.int .i64 0,.int .i64 0,.int .i64 0,.int .i64 0,.int .i64 0,.int .i64 0,.int .i64 0,.int .i64 0,.int .i64 0,.int .i64 0,.int .i64 0,.int .i64 0,.int .i64 0,.int .i64 0,.int .i64 0,.int .i64 0,.bool false,.bool false,.bool false,.bool false,.bool false,.bool false,.bool false,.bool false]:=rfl
   obtain⟨H,hH⟩:=Zy (((((((h.push (.cells cs.toArray 62)).push (.cells [.int .i64 k,.int .i64 c,.int .i64 s,.int .i64 n,.int .i64 v].toArray 49)).push (.cells [.int .i64 0,.int .i64 0,.int .i64 0,.int .i64 0,.int .i64 0,.int .i64 0,.int .i64 0,.int .i64 0,.int .i64 0,.int .i64 0,.int .i64 0,.int .i64 0,.int .i64 0,.int .i64 0,.int .i64 0,.int .i64 0,.int .i64 0,.int .i64 0,.int .i64 0,.int .i64 0,.int .i64 0,.int .i64 0,.int .i64 0,.int .i64 0,.int .i64 0,.int .i64 0,.int .i64 0,.int .i64 0,.int .i64 0,.int .i64 0,.int .i64 0,.int .i64 0,.bool false,.bool false,.bool false,.bool false,.bool false,.bool false,.bool false,.bool false].toArray 62)).push (.cells [.int .i64 0,.int .i64 0].toArray 40)).push (.cells cs.toArray 62)).push (.cells [.int .i64 k,.int .i64 c,.int .i64 s,.int .i64 n,.int .i64 v].toArray 49)):Hp)
   have x0:H[h.size]? = some (.cells cs.toArray 62):=by rw[hH];simp only[Array.getElem?_push,Array.size_push,IntWalk.iteOmega,↓reduceIte]
   have x1:H[h.size+1]? = some (.cells [.int .i64 k,.int .i64 c,.int .i64 s,.int .i64 n,.int .i64 v].toArray 49):=by rw[hH];simp only[Array.getElem?_push,Array.size_push,IntWalk.iteOmega,↓reduceIte]
   have x2:H[h.size+2]? = some (.cells JH.toArray 62):=by rw[hH,XY];simp only[Array.getElem?_push,Array.size_push,IntWalk.iteOmega,↓reduceIte]
   have x3:H[h.size+3]? = some (.cells [.int .i64 0,.int .i64 0].toArray 40):=by rw[hH];simp only[Array.getElem?_push,Array.size_push,IntWalk.iteOmega,↓reduceIte]
   have hHs:H.size=h.size+6:=by rw[hH];simp
   have Aj:Zg h.size h H:=by rw[hH];(repeat' (first|exact Zg.refl _ _|assumption|refine Zg.add ?_ _|refine Zg.Zl ?_ (by first|omega|(simp;omega)) _|refine Zg.trans (by assumption) ?_))
   rw[←hH]
   clear hH XY
   have c1:hc H ⟨h.size+1,0,none⟩=some (.int .i64 k):=by rw[Zh x1];rfl
   have c2:hc H ⟨h.size+1,1,none⟩=some (.int .i64 c):=by rw[Zh x1];rfl
   have c3:hc H ⟨h.size+1,2,none⟩=some (.int .i64 s):=by rw[Zh x1];rfl
   have cc:(c:Int)<8:=by omega
   have Zer:=hi (8+c) (by omega)
   have lx:hc H ⟨h.size,8+c,none⟩=some (.int .i64 (ci cs (8+c))):=by rw[Zh x0];exact Zer
   have fin:∀(G:Hp) (D:List Value) (a b:Int),D.length=40→D.all Z7=true→G[h.size+2]? = some (.cells JH.toArray 62)→G[h.size+3]? = some (.cells [.int .i64 0,.int .i64 0].toArray 40) →
     wr G ⟨h.size+1+1,0,none⟩ D=some (G.setIfInBounds (h.size+1+1) (.cells D.toArray 62)) ∧
     wr (G.setIfInBounds (h.size+1+1) (.cells D.toArray 62)) ⟨h.size+1+1+1,0,none⟩ [.int .i64 a,.int .i64 b]=some ((G.setIfInBounds (h.size+1+1) (.cells D.toArray 62)).setIfInBounds (h.size+1+1+1) (.cells [.int .i64 a,.int .i64 b].toArray 40)):=by
    intro G D a b d1 d2 g2 g3
    refine⟨?_,?_⟩
    ·rw[ZS (b:=h.size+1+1) g2 0 D,ZP (by rw[d1];rfl),if_pos ⟨by rw[d1];exact Nat.le_refl _,d2⟩]
    ·rw[ZS (b:=h.size+1+1+1) (l:=[.int .i64 0,.int .i64 0]) (t:=40) (by rw[Array.getElem?_setIfInBounds,if_neg (by omega)];exact g3),if_pos ⟨by simp,rfl⟩]
     rfl
   have r0:=Zp x0 hl
   have fW:∀(G:Hp) (o o':Obj),Zg h.size h G→Zg h.size h ((G.setIfInBounds (h.size+1+1) o).setIfInBounds (h.size+1+1+1) o'):=fun G o o' hG=>(hG.Zl (by omega) _).Zl (by omega) _
   by_cases k0:k=0
   ·subst k0
    have ed:U9 cs 0 c s n v=⟨cs,0,0⟩:=rfl
    obtain⟨w2,w3⟩:=fin H cs 0 0 hl Xj x2 x3
    simp -implicitDefEqProofs only[go_sem,↓reduceIte,e2,c1,c2,cc,ed,r0,w2,w3,hl,hHs,tk,Aj]
    exact fW H _ _ Aj
   ·have k0':¬(k:Int)=0:=by omega
    simp -implicitDefEqProofs only[go_sem,↓reduceIte,e2,c1,c2,cc,k0']
    refine VS.q mixed (by kernel_rfl) ?_
    by_cases q1:(s:Int)+1=ci cs (8+c)
    ·have ed:U9 cs k c s n v=⟨cs,ci cs (16+c*2),ci cs (16+c*2+1)⟩:=by unfold U9;rw[if_neg k0,if_pos q1]
     obtain⟨w2,w3⟩:=fin H cs (ci cs (16+c*2)) (ci cs (16+c*2+1)) hl Xj x2 x3
     have ra:rd H ⟨h.size,16+c*2,none⟩ 2=some [.int .i64 (ci cs (16+c*2)),.int .i64 (ci cs (16+c*2+1))]:=by
      rw[Z5 x0 (by omega),El (hi _ (by omega)) (hi _ (by omega))]
     simp -implicitDefEqProofs only[go_sem,↓reduceIte,c3,lx,q1]
     refine VS.w (h.size+1+1) [] (.q 0 (.q 1 (.q 2 (.q 3 (.q 4 (.q 5 (.s 6 (.s 7 (.q 8 .nil))))))))) mixed (by kernel_rfl) ?_
     simp -implicitDefEqProofs only[go_sem,↓reduceIte,e2,c2,cc,ed,r0,ra,w2,w3,hl,hHs,tk,Aj]
     exact fW H _ _ Aj
    ·simp -implicitDefEqProofs only[go_sem,↓reduceIte,c3,lx,q1]
     refine VS.q mixed (by kernel_rfl) ?_
     by_cases q2:(s:Int)<ci cs (8+c)
     ·have ed:U9 cs k c s n v=⟨cs,7,0⟩:=by unfold U9;rw[if_neg k0,if_neg q1,if_pos q2]
      obtain⟨w2,w3⟩:=fin H cs 7 0 hl Xj x2 x3
      simp -implicitDefEqProofs only[go_sem,↓reduceIte,c3,lx,q2,e2,ed,r0,w2,w3,hl,hHs,tk,Aj]
      exact fW H _ _ Aj
     ·have rv:hc H ⟨h.size,32+c,none⟩=some (.bool (cb cs (32+c))):=by rw[Zh x0];exact hb _ (by omega) (by omega)
      by_cases q3:cb cs (32+c)=true
      ·have ed:U9 cs k c s n v=⟨cs,11,0⟩:=by unfold U9;rw[if_neg k0,if_neg q1,if_neg q2,if_pos q3]
       obtain⟨w2,w3⟩:=fin H cs 11 0 hl Xj x2 x3
       rw[q3]at rv
       simp -implicitDefEqProofs only[go_sem,↓reduceIte,c3,lx,q2,c2,cc,rv,e2,ed,r0,w2,w3,hl,hHs,tk,Aj]
       exact fW H _ _ Aj
      ·have q3':cb cs (32+c)=false:=by simpa using q3
       rw[q3']at rv
       have w1:=Yz x0 (8+c) (.int .i64 ((s:Int)+1))
       rw[if_pos ⟨by omega,rfl⟩]at w1
       have rc:=Zp x1 (n:=5) rfl
       have xx:(H.setIfInBounds h.size (.cells (cs.set (8+c) (.int .i64 ((s:Int)+1))).toArray 62))[h.size+1]? = some (.cells [.int .i64 k,.int .i64 c,.int .i64 s,.int .i64 n,.int .i64 v].toArray 49):=by rw[Array.getElem?_setIfInBounds,if_neg (by omega)];exact x1
       have rc':=Zp xx (n:=5) rfl
       simp -implicitDefEqProofs only[go_sem,↓reduceIte,c3,lx,q2,c2,cc,rv,w1,rc']
       have x0':(H.setIfInBounds h.size (.cells (cs.set (8+c) (.int .i64 ((s:Int)+1))).toArray 62))[h.size]? = some (.cells (cs.set (8+c) (.int .i64 ((s:Int)+1))).toArray 62):=by rw[Array.getElem?_setIfInBounds,if_pos rfl,if_pos (by omega)]
       have Q8:Zg h.size h (H.setIfInBounds h.size (.cells (cs.set (8+c) (.int .i64 ((s:Int)+1))).toArray 62)):=Aj.Zl (Nat.le_refl _) _
       have x2':(H.setIfInBounds h.size (.cells (cs.set (8+c) (.int .i64 ((s:Int)+1))).toArray 62))[h.size+2]? = some (.cells JH.toArray 62):=by rw[Array.getElem?_setIfInBounds,if_neg (by omega)];exact x2
       have x3':(H.setIfInBounds h.size (.cells (cs.set (8+c) (.int .i64 ((s:Int)+1))).toArray 62))[h.size+3]? = some (.cells [.int .i64 0,.int .i64 0].toArray 40):=by rw[Array.getElem?_setIfInBounds,if_neg (by omega)];exact x3
       have hGs:(H.setIfInBounds h.size (.cells (cs.set (8+c) (.int .i64 ((s:Int)+1))).toArray 62)).size=h.size+6:=by rw[Array.size_setIfInBounds];exact hHs
       refine (Db T _ h.size (cs.set (8+c) (.int .i64 ((s:Int)+1))) k c s n v (by rw[List.length_set];exact hl) (ints_set (by omega) _ hi) (by omega) (by omega) (by omega) x0').use ?_
       rintro _ g1 ⟨rfl,b1⟩
       rw[fU cs k c n v _ (by omega) (by omega)]at b1 ⊢
       have hfA:=Da hf k c n v (by omega)
       have ed:U9 cs k c s n v=⟨((((Sj cs k c n v).1.set (8+c) (.int .i64 ((s:Int)+1))).set (16+c*2) (.int .i64 0)).set (16+c*2+1) (.int .i64 (Sj cs k c n v).2)),0,(Sj cs k c n v).2⟩:=by unfold U9;rw[if_neg k0,if_neg q1,if_neg q2,if_neg q3]
       obtain⟨A,hA⟩:=Zy ((Sj cs k c n v).1.set (8+c) (.int .i64 ((s:Int)+1)))
       obtain⟨a,ha⟩:=Zy ((Sj cs k c n v).2)
       rw[←hA,←ha]at ed
       simp only[←hA,←ha]at b1 ⊢
       have Zes:Yy X2 A=true:=by rw[hA];exact Ui _ _ hfA (Qi (by omega) _)
       have Zxn:A.length=40:=YP Zes
       obtain⟨G,hG⟩:=Zy (H.setIfInBounds h.size (.cells (cs.set (8+c) (.int .i64 ((s:Int)+1))).toArray 62):Hp)
       rw[←hG]at b1 xx x2' x3' Q8 hGs
       clear x0' rc' hG
       rw[hGs]at b1
       have g0:g1[h.size]? = some (.cells A.toArray 62):=b1.get (by omega) (by rw[Array.getElem?_setIfInBounds,if_pos rfl,if_pos (by omega)])
       have g1c:=b1.get (k:=h.size+1) (by omega) (by rw[Array.getElem?_setIfInBounds,if_neg (by omega)];exact xx)
       have g2:=b1.get (k:=h.size+2) (by omega) (by rw[Array.getElem?_setIfInBounds,if_neg (by omega)];exact x2')
       have g3:=b1.get (k:=h.size+3) (by omega) (by rw[Array.getElem?_setIfInBounds,if_neg (by omega)];exact x3')
       have gs:h.size+6≤g1.size:=by have:=b1.size;rw[Array.size_setIfInBounds,hGs]at this;exact this
       have gB:Zg h.size h g1:=(Q8.Zl (Nat.le_refl _) _).trans (b1.mono (by omega))
       clear b1 Q8 xx x2' x3' hGs
       have gc:hc g1 ⟨h.size+1,1,none⟩=some (.int .i64 c):=by rw[Zh g1c];rfl
       have wa:=ZS g0 (16+c*2) [.int .i64 0,.int .i64 a]
       rw[if_pos ⟨by simp only[List.length_cons,List.length_nil];omega,rfl⟩,Vs,Vs]at wa
       have wa:wr g1 ⟨h.size,16+c*2,none⟩ [.int .i64 0,.int .i64 a]=some (g1.setIfInBounds h.size (.cells ((A.set (16+c*2) (.int .i64 0)).set (16+c*2+1) (.int .i64 a)).toArray 62)):=by rw[wa];simp[Ys]
       simp -implicitDefEqProofs only[go_sem,↓reduceIte,gc,cc,wa]
       obtain⟨D,hD⟩:=Zy ((A.set (16+c*2) (.int .i64 0)).set (16+c*2+1) (.int .i64 a))
       have hfD:Yy X2 D=true:=by rw[hD];exact Ui _ _ (Ui _ _ Zes (Qi (by omega) _)) (Qi (by omega) _)
       have tL:D.length=40:=YP hfD
       have Zet:=LC hfD
       have xC:=Xm tL
       rw[←hD]at ed ⊢
       obtain⟨G,hG⟩:=Zy ((g1.setIfInBounds h.size (.cells D.toArray 62)).push (.cells [.int .i64 0,.int .i64 a].toArray 40):Hp)
       have n0:G[h.size]? = some (.cells D.toArray 62):=by rw[hG];simp only[Array.getElem?_push,Array.size_setIfInBounds,Array.getElem?_setIfInBounds,IntWalk.iteOmega,↓reduceIte]
       have n2:G[h.size+2]? = some (.cells JH.toArray 62):=by rw[hG];simp only[Array.getElem?_push,Array.size_setIfInBounds,Array.getElem?_setIfInBounds,IntWalk.iteOmega,↓reduceIte];exact g2
       have n3:G[h.size+3]? = some (.cells [.int .i64 0,.int .i64 0].toArray 40):=by rw[hG];simp only[Array.getElem?_push,Array.size_setIfInBounds,Array.getElem?_setIfInBounds,IntWalk.iteOmega,↓reduceIte];exact g3
       have n6:G[g1.size]? = some (.cells [.int .i64 0,.int .i64 a].toArray 40):=by rw[hG];simp only[Array.getElem?_push,Array.size_setIfInBounds,IntWalk.iteOmega,↓reduceIte]
       have nB:Zg h.size h G:=by rw[hG];exact (gB.Zl (Nat.le_refl _) _).Yh (by simp;omega) _
       have nS:G.size=g1.size+1:=by rw[hG];simp
       rw[←hG]
       have rA:=Zp n0 tL
       have rB:=Zp n6 (n:=2) rfl
       obtain⟨w2,w3⟩:=fin G D 0 a tL Zet n2 n3
       refine VS.w (h.size+1) [2,3,4] (.q 0 (.or 1 (.w 2 (.w 3 (.w 4 .nil))) (.s 2 (.s 1 (.w 3 (.w 4 .nil)))))) mixed (by kernel_rfl) ?_
       have z1:h.size<h.size+1:=by omega
       have z2:h.size+1+1<G.size:=by omega
       have z3:h.size+1+1+1<G.size:=by omega
       simp -implicitDefEqProofs only[go_sem,↓reduceIte,rA,rB,w2,w3,tL,xC,z1,z2,z3,ed]
       exact⟨fW G _ _ nB,fW G _ _ nB⟩
  ·simp +contextual -implicitDefEqProofs only[go_sem,↓reduceIte,e2]
   refine⟨rfl,?_⟩
   (repeat' (first|exact Zg.refl _ _|assumption|refine Zg.add ?_ _|refine Zg.Zl ?_ (by first|omega|(simp;omega)) _|refine Zg.trans (by assumption) ?_))
theorem mY {g:Hp} {b:Nat} {o o':Obj} (hx:g[b]? = some o'):(g.setIfInBounds b o)[b]? = some o:=by rw[Array.getElem?_setIfInBounds,if_pos rfl,if_pos (Za hx)]
def VX:Vt:=⟨0,⟨0,0⟩,0,0,0,0,0⟩
def G9 (v:Vt):List Value:=[.int .i64 v.k,.int .i64 v.c,.int .i64 v.s,.int .i64 v.nm,.int .i64 v.v]
def Qo (slot:Int) (Zeu v:Vt):Vt:=if v.slot=slot∧below Zeu.b v.b then v else Zeu
def QW (slot:Int) (l:List Vt):Vt:=l.foldl (Qo slot) VX
def QX (l:List Vt):Bool:=l.all fun v=>decide (Z6 v)
def WR (slot:Int) (l:List Vt):Int:=if slot<0∨39<slot then 2 else if QX l=true then 0 else 5
def Fa (v':Value) (slot:Int) (l:List Vt):Prop:=
 v'=.tuple [.agg (G9 (if WR slot l=0 then QW slot l else VX)).toArray,.bool (if WR slot l=0 then decide (0<(QW slot l).b.r) else false),.int .i64 (WR slot l)].toArray
def Vss (h:Hp) (v:Value) (LL:List (List Vt)):Prop:=∃p c,v=.slice p LL.length c∧(LL≠[]→∃b o,p=some ⟨b,o,none⟩∧b<h.size∧∀i (hi:i<LL.length),∃w,hc h ⟨b,o+i,none⟩=some w∧Ts Zn 8 h w LL[i]∧LL[i].length≤2199023255552)
theorem fX (LL:List (List Vt)) (i:Nat) (hi:i<LL.length):(LL.take (i+1)).flatten=(LL.take i).flatten++LL[i]:=by
 rw[Yg LL i hi,List.flatten_append,List.flatten_singleton]
theorem Av (a b:List Vt):QX (a++b)=(QX a&&QX b):=by simp[QX]
theorem Fb {l:List Vt} {v:Vt} (hv:v∈l) (hm:¬Z6 v):QX l=false:=by
 rw[QX,List.all_eq_false]
 exact⟨v,hv,by simpa using hm⟩
set_option maxHeartbeats 1000000 in
theorem tM (T:World) (h:Hp) (u:Value) (LL:List (List Vt)) (slot:Int) (s:Vss h u LL) (hL:LL.length≤4611686018427387904) :
  Zd Tryz.prog T 142 #[u,.int .i64 slot] h fun v' h'=>Fa v' slot LL.flatten∧Zg h.size h h':=by
 have mZ:WR slot LL.flatten=if slot<0∨39<slot then 2 else if QX LL.flatten=true then 0 else 5:=rfl
 obtain⟨p,c,rfl,YV⟩:=s
 refine Zd.XO (args:=[_,_]) Tryz.func142 rfl rfl rfl rfl ?_
 unfold Fa
 by_cases q1:slot<0
 ·rw[if_pos (.inl q1)]at mZ
  simp -implicitDefEqProofs only[go_sem,↓reduceIte,q1,mZ]
  rfl
 ·by_cases q2:39<slot
  ·rw[if_pos (.inr q2)]at mZ
   have q2':40≤slot:=by omega
   simp -implicitDefEqProofs only[go_sem,↓reduceIte,q1,q2',mZ]
   rfl
  ·rw[if_neg (by omega)]at mZ
   have q2':¬40≤slot:=by omega
   simp -implicitDefEqProofs only[go_sem,↓reduceIte,q1,q2']
   obtain⟨H,hH⟩:=Zy ((h.push (.cells #[.int .i64 0,.int .i64 0,.int .i64 0,.int .i64 0,.int .i64 0] 49)).push (.cells #[.int .i64 0,.int .i64 0,.int .i64 0,.int .i64 0,.int .i64 0,.int .i64 0,.int .i64 0,.int .i64 0] 146):Hp)
   have HB:Zg h.size h H:=by rw[hH];(repeat' (first|exact Zg.refl _ _|assumption|refine Zg.add ?_ _|refine Zg.Zl ?_ (by first|omega|(simp;omega)) _|refine Zg.trans (by assumption) ?_))
   have HZ:H[h.size]? = some (.cells (G9 VX).toArray 49):=by rw[hH,Zr (by simp),Zb];rfl
   have HV:H[h.size+1]? = some (.cells (Zn VX).toArray 146):=by
    have:=Zb (h:=h.push (.cells #[.int .i64 0,.int .i64 0,.int .i64 0,.int .i64 0,.int .i64 0] 49)) (o:=.cells #[.int .i64 0,.int .i64 0,.int .i64 0,.int .i64 0,.int .i64 0,.int .i64 0,.int .i64 0,.int .i64 0] 146)
    rw[Array.size_push]at this
    rw[hH,this];rfl
   rw[←hH]
   clear hH
   have wz:∀g:Hp,g[h.size]? = some (.cells (G9 VX).toArray 49)→∀w:List Value,w.length=5→w.all Z7=true→wr g ⟨h.size,0,none⟩ w=some (g.setIfInBounds h.size (.cells w.toArray 49)):=by
    intro g hg w h5 h1
    rw[ZS hg 0 w,ZP (by rw[h5];rfl),if_pos ⟨by rw[h5];exact Nat.le_refl _,h1⟩]
   refine VS.ZV (fun F g=>F 1=.int .i64 slot∧F 4=.pointer (some ⟨h.size,0,none⟩)∧F 7=.pointer (some ⟨h.size+1,0,none⟩)∧F 19=.slice p LL.length c∧F 20=.int .i64 LL.length∧Zg h.size h g∧g[h.size]? = some (.cells (G9 VX).toArray 49)∧∃i:Nat,i≤LL.length∧F 21=.int .i64 i∧g[h.size+1]? = some (.cells (Zn (QW slot (LL.take i).flatten)).toArray 146)∧QX (LL.take i).flatten=true)
    (fun F _=>LL.length-(vi (F 21)).toNat) rfl ⟨rfl,rfl,rfl,rfl,rfl,HB,HZ,0,by omega,rfl,HV,rfl⟩ ?_
   clear HB HZ HV H
   rintro F g ⟨f1,f4,f7,f19,f20,hg,gZ,i,hi,f21,gV,Xb⟩
   have zV:=Za gV
   by_cases ZD:i<LL.length
   ·have ZL:(i:Int)<LL.length:=by omega
    obtain⟨bb,oo,rfl,U6,YV⟩:=YV (by intro e;rw[e]at ZD;simp at ZD)
    obtain⟨w,hw,tw,hwl⟩:=YV i ZD
    have hw':V.hc g ⟨bb,oo+i,none⟩=some w:=by rw[hg.hc (by exact U6)];exact hw
    have xE:=fX LL i ZD
    have m7:LL[i]∈LL:=List.getElem_mem ZD
    obtain⟨L,xF⟩:=Zy (LL[i])
    rw[←xF]at tw hwl xE m7
    obtain⟨pw,cw,rfl,hwc⟩:=QU tw
    simp -implicitDefEqProofs only[go_sem,↓reduceIte,f1,f4,f7,f19,f20,f21,ZL,Int.toNat_natCast,hw']
    refine VS.ZV (fun F g=>F 1=.int .i64 slot∧F 4=.pointer (some ⟨h.size,0,none⟩)∧F 7=.pointer (some ⟨h.size+1,0,none⟩)∧F 19=.slice (some ⟨bb,oo,none⟩) LL.length c∧F 20=.int .i64 LL.length∧F 21=.int .i64 i∧F 25=.slice pw L.length cw∧F 26=.int .i64 L.length∧Zg h.size h g∧g[h.size]? = some (.cells (G9 VX).toArray 49)∧∃j:Nat,j≤L.length∧F 27=.int .i64 j∧g[h.size+1]? = some (.cells (Zn (QW slot ((LL.take i).flatten++L.take j))).toArray 146)∧QX ((LL.take i).flatten++L.take j)=true)
     (fun F _=>L.length-(vi (F 27)).toNat) rfl ⟨f1,f4,f7,f19,f20,f21,rfl,rfl,hg,gZ,0,by omega,rfl,by rw[List.take_zero,List.append_nil];exact gV,by rw[List.take_zero,List.append_nil];exact Xb⟩ ?_
    clear f1 f4 f7 f19 f20 f21 F hg gZ gV Xb zV hw'
    rintro F g ⟨f1,f4,f7,f19,f20,f21,f25,f26,hg,gZ,j,hj,f27,gV,Xb⟩
    have zV:=Za gV
    by_cases xH:j<L.length
    ·have Zmk:(j:Int)<L.length:=by omega
     obtain⟨b2,o2,rfl,I0,_,hwc⟩:=hwc (by intro e;rw[e]at xH;simp at xH)
     have r1:rd g ⟨b2,o2+j*8,none⟩ 8=some (Zn L[j]):=by rw[JD hg (by exact I0)];exact hwc j xH
     have Aw:(LL.take i).flatten++L.take (j+1)=((LL.take i).flatten++L.take j)++[L[j]]:=by rw[Yg L j xH,List.append_assoc]
     have xI:L[j]∈LL.flatten:=List.mem_flatten.2 ⟨L,m7,List.getElem_mem xH⟩
     obtain⟨v,hv⟩:=Zy (L[j])
     rw[←hv]at r1 Aw xI
     have XN:QW slot ((LL.take i).flatten++L.take (j+1))=Qo slot (QW slot ((LL.take i).flatten++L.take j)) v:=by
      rw[Aw];unfold QW;rw[List.foldl_append];rfl
     have ML:QX ((LL.take i).flatten++L.take (j+1))=decide (Z6 v):=by rw[Aw,Av,Xb,Bool.true_and];simp[QX]
     obtain⟨B,hB⟩:=Zy (QW slot ((LL.take i).flatten++L.take j))
     rw[←hB]at gV XN
     unfold Zn at r1
     simp -implicitDefEqProofs only[go_sem,↓reduceIte,f1,f4,f7,f19,f20,f21,f25,f26,f27,Zmk,Int.toNat_natCast,r1]
     refine (MV T _ v).use ?_
     rintro _ g1 ⟨rfl,b1⟩
     have jx:Zg g.size g g1:=(Zg.push (Nat.le_refl _) _).trans (b1.mono (by simp))
     have y0:g1[g.size]? = some (.cells (Zn v).toArray 146):=b1.get (by simp) Zb
     have z1:=jx.size
     have OP:=hg.trans (jx.mono hg.size)
     have gZ1:=jx.get (Za gZ) gZ
     have gV1:=jx.get zV gV
     have z0:=Za y0
     by_cases c1:Z6 v
     ·rw[decide_eq_true c1]at ML
      have y1:V.hc g1 ⟨g.size,0,none⟩=some (.int .i64 v.slot):=by rw[Zh y0];rfl
      have y2:rd g1 ⟨g.size,1,none⟩ 2=some (Je v.b):=by rw[Z5 y0 (by simp[Zn])];rfl
      have y3:rd g1 ⟨h.size+1,1,none⟩ 2=some (Je B.b):=by rw[Z5 gV1 (by simp[Zn])];rfl
      by_cases c2:v.slot=slot
      ·simp -implicitDefEqProofs only[go_sem,↓reduceIte,f1,f4,f7,f19,f20,f21,f25,f26,f27,c1,y1,c2,y2,y3]
       refine (U7 T _ v.b B.b).use ?_
       rintro _ g2 ⟨rfl,td⟩
       have z2:=td.size
       have QL:=OP.trans (td.mono OP.size)
       have gZ2:=td.get (Za gZ1) gZ1
       have gV2:=td.get (Za gV1) gV1
       have y02:=td.get z0 y0
       by_cases c3:below B.b v.b
       ·have mQ:=(VD v.b B.b).2 c3
        have rV:=Zp y02 (n:=8) rfl
        have wV:=ZS gV2 0 (Zn v)
        rw[ZP (by simp[Zn]),if_pos ⟨by simp[Zn],rfl⟩]at wV
        have tO:Qo slot B v=v:=by unfold Qo;rw[if_pos ⟨c2,c3⟩]
        rw[tO]at XN
        unfold Zn at rV wV
        simp -implicitDefEqProofs only[go_sem,↓reduceIte,f1,f4,f7,f19,f20,f21,f25,f26,f27,mQ,rV,wV]
        refine⟨⟨f1,f4,f7,f19,f20,f21,f25,f26,QL.Zl (by omega) _,?_,j+1,xH,rfl,?_,ML⟩,?_⟩
        ·rw[Array.getElem?_setIfInBounds,if_neg (by omega)];exact gZ2
        ·rw[XN];exact mY gV2
        ·simp only[vi,Zk,↓reduceIte,f27];omega
       ·have mQ:¬0<Nb v.b B.b:=fun h=>c3 ((VD v.b B.b).1 h)
        have tO:Qo slot B v=B:=by unfold Qo;rw[if_neg (fun h=>c3 h.2)]
        rw[tO]at XN
        simp -implicitDefEqProofs only[go_sem,↓reduceIte,f1,f4,f7,f19,f20,f21,f25,f26,f27,mQ]
        refine⟨⟨f1,f4,f7,f19,f20,f21,f25,f26,QL,gZ2,j+1,xH,rfl,?_,ML⟩,?_⟩
        ·rw[XN];exact gV2
        ·simp only[vi,Zk,↓reduceIte,f27];omega
      ·have tO:Qo slot B v=B:=by unfold Qo;rw[if_neg (fun h=>c2 h.1)]
       rw[tO]at XN
       simp -implicitDefEqProofs only[go_sem,↓reduceIte,f1,f4,f7,f19,f20,f21,f25,f26,f27,c1,y1,c2]
       refine⟨⟨f1,f4,f7,f19,f20,f21,f25,f26,OP,gZ1,j+1,xH,rfl,?_,ML⟩,?_⟩
       ·rw[XN];exact gV1
       ·simp only[vi,Zk,↓reduceIte,f27];omega
     ·have hf:=Fb xI c1
      rw[hf,if_neg (by decide)]at mZ
      have wz1:=wz g1 gZ1 [.int .i64 0,.int .i64 0,.int .i64 0,.int .i64 0,.int .i64 0] rfl rfl
      have zl:=Za gZ1
      simp -implicitDefEqProofs only[go_sem,↓reduceIte,f1,f4,f7,c1,wz1,zl,mZ]
      exact⟨rfl,OP.Zl (Nat.le_refl _) _⟩
    ·have Zmm:¬(j:Int)<L.length:=by omega
     obtain rfl:j=L.length:=by omega
     rw[List.take_length,←xE]at gV Xb
     simp -implicitDefEqProofs only[go_sem,↓reduceIte,f1,f4,f7,f19,f20,f21,f25,f26,f27,Zmm]
     refine⟨⟨f1,f4,f7,f19,f20,hg,gZ,i+1,ZD,rfl,gV,Xb⟩,?_⟩
     simp only[vi,Zk,↓reduceIte,f21];omega
   ·have YJ:¬(i:Int)<LL.length:=by omega
    obtain rfl:i=LL.length:=by omega
    rw[List.take_length]at gV Xb
    rw[Xb,if_pos rfl]at mZ
    rw[mZ,if_pos rfl,if_pos rfl]
    obtain⟨B,hB⟩:=Zy (QW slot LL.flatten)
    rw[←hB]at gV ⊢
    have r1:rd g ⟨h.size+1,3,none⟩ 5=some (G9 B):=by rw[Z5 gV (by simp[Zn])];rfl
    have r2:V.hc g ⟨h.size+1,1,none⟩=some (.int .i64 B.b.r):=by rw[Zh gV];rfl
    have wB:=wz g gZ (G9 B) rfl rfl
    have zl:=Za gZ
    unfold G9 at r1 wB ⊢
    simp -implicitDefEqProofs only[go_sem,↓reduceIte,f1,f4,f7,f19,f20,f21,YJ]
    refine VS.w (h.size) [] (.q 0 (.q 2 (.q 3 (.or 1 (.or 4 (.q 5 (.s 6 (.q 7 (.q 8 .nil)))) (.s 6 (.s 4 (.q 5 (.q 7 (.q 8 .nil)))))) (.s 4 (.q 5 (.s 1 (.s 6 (.q 7 (.q 8 .nil)))))))))) mixed (by kernel_rfl) ?_
    simp -implicitDefEqProofs only[go_sem,↓reduceIte,f4,f7,r1,r2,wB,zl]
    have Ax:=hg.Zl (Nat.le_refl _) (.cells #[.int .i64 B.k,.int .i64 B.c,.int .i64 B.s,.int .i64 B.nm,.int .i64 B.v] 49)
    exact⟨⟨Ax,Ax⟩,Ax⟩
end Go.Proofs.YtpomedigibbeeaaGreatDoor
