/- Ballots and votes: what the small functions compute; no condition but those in the statements. -/
import Derived.Test.YtkfhncfkagcamaaGreatDoorVst
import Derived.Test.YtkfhncfkagcamaaGreatDoorW13
import Derived.Test.YtkfhncfkagcamaaGreatDoorLchks
namespace Go.Proofs.YtkfhncfkagcamaaGreatDoor
open Go Go.V
set_option linter.unusedSimpArgs false
set_option linter.unusedVariables false
set_option maxRecDepth 100000
structure XO where
 r:Int
 n:Int
structure Vt where
 slot:Int
 b:XO
 k:Int
 c:Int
 s:Int
 nm:Int
 v:Int
def X9 (b:XO):List Value:=[.int .i64 b.r,.int .i64 b.n]
def Zm (v:Vt):List Value:=[.int .i64 v.slot,.int .i64 v.b.r,.int .i64 v.b.n,.int .i64 v.k,.int .i64 v.c,.int .i64 v.s,.int .i64 v.nm,.int .i64 v.v]
def ZR (b:XO):Prop:=(1≤b.r∧b.r≤65536)∧(0≤b.n∧b.n≤4)
instance (b:XO):Decidable (ZR b):=by unfold ZR;infer_instance
def Yb (v:Vt):Prop:=(0≤v.slot∧v.slot≤39)∧ZR v.b∧YI v.k v.c v.s v.nm v.v=0
instance (v:Vt):Decidable (Yb v):=by unfold Yb;infer_instance
def below (a b:XO):Prop:=a.r<b.r∨(a.r=b.r∧a.n<b.n)
instance (a b:XO):Decidable (below a b):=by unfold below;infer_instance
def SQ (a b:Int):Int:=if a<b then -1 else if b<a then 1 else 0
def OH (a b:XO):Int:=if SQ a.r b.r=0 then SQ a.n b.n else SQ a.r b.r
theorem Vw (a b:XO):0<OH a b↔below b a:=by
 unfold OH SQ below
 repeat' split
 all_goals omega
theorem PK (a b:XO):OH a b<0↔below a b:=by
 unfold OH SQ below
 repeat' split
 all_goals omega
theorem EM (T:World) (h:Hp) (a:Int):Zd Tryz.prog T 153 #[.int .i64 a] h fun v' h'=>v'=.bool false∧h'=h:=by
 refine Zd.Zi (args:=[_]) Tryz.func153 rfl rfl rfl rfl ?_
 simp -implicitDefEqProofs only[go_sem,↓reduceIte]
theorem WU (T:World) (h:Hp) (a b:Int):Zd Tryz.prog T 141 #[.int .i64 a,.int .i64 b] h fun v' h'=>v'=.int .i64 (SQ a b)∧h'=h:=by
 refine Zd.Zi (args:=[_,_]) Tryz.func141 rfl rfl rfl rfl ?_
 simp -implicitDefEqProofs only[go_sem,↓reduceIte]
 refine (EM T _ _).pure ?_
 simp -implicitDefEqProofs only[go_sem,↓reduceIte]
 refine (EM T _ _).pure ?_
 unfold SQ
 by_cases q1:a<b
 ·simp -implicitDefEqProofs only[go_sem,↓reduceIte,q1]
 ·by_cases q2:b<a
  ·simp -implicitDefEqProofs only[go_sem,↓reduceIte,q1,q2]
  ·simp -implicitDefEqProofs only[go_sem,↓reduceIte,q1,q2]
theorem mF (T:World) (h:Hp) (b:Nat) (x y:Int) (h0:hc h ⟨b,0,none⟩=some (.int .i64 x)) (h1:hc h ⟨b,1,none⟩=some (.int .i64 y)):Zd Tryz.prog T 152 #[.slice (some ⟨b,0,none⟩) 2 2] h fun v' h'=>v'=.int .i64 (if x=0 then y else x)∧h'=h:=by
 refine Zd.Zi (args:=[_]) Tryz.func152 rfl rfl rfl rfl ?_
 simp -implicitDefEqProofs only[go_sem,↓reduceIte]
 refine VS.rounds 3 rfl ?_
 by_cases q1:x=0
 ·by_cases q2:y=0
  ·simp -implicitDefEqProofs only[go_sem,↓reduceIte,h0,h1,q1,q2,Int.reduceAdd]
  ·simp -implicitDefEqProofs only[go_sem,↓reduceIte,h0,h1,q1,q2,Int.reduceAdd]
 ·simp -implicitDefEqProofs only[go_sem,↓reduceIte,h0,h1,q1]
theorem Vx (T:World) (h:Hp) (b:XO):Zd Tryz.prog T 135 #[.agg (X9 b).toArray] h fun v' h'=>v'=.bool (decide (ZR b))∧h'=h.push (.cells (X9 b).toArray 128):=by
 refine Zd.Zi (args:=[_]) Tryz.func135 rfl rfl rfl rfl ?_
 unfold X9
 by_cases q1:1≤b.r
 ·by_cases q2:b.r≤65536
  ·by_cases q3:0≤b.n
   ·by_cases q4:b.n<5
    ·have e:ZR b:=⟨⟨q1,q2⟩,q3,by omega⟩
     simp -implicitDefEqProofs only[go_sem,↓reduceIte,q1,q2,q3,q4,e]
    ·have e:¬ZR b:=by unfold ZR;omega
     simp -implicitDefEqProofs only[go_sem,↓reduceIte,q1,q2,q3,q4,e]
   ·have e:¬ZR b:=by unfold ZR;omega
    simp -implicitDefEqProofs only[go_sem,↓reduceIte,q1,q2,q3,e]
  ·have e:¬ZR b:=by unfold ZR;omega
   simp -implicitDefEqProofs only[go_sem,↓reduceIte,q1,q2,e]
 ·have e:¬ZR b:=by unfold ZR;omega
  simp -implicitDefEqProofs only[go_sem,↓reduceIte,q1,e]
theorem UZ (T:World) (h:Hp) (a b:XO):Zd Tryz.prog T 136 #[.agg (X9 a).toArray,.agg (X9 b).toArray] h fun v' h'=>v'=.int .i64 (OH a b)∧Ze h.size h h':=by
 refine Zd.Zi (args:=[_,_]) Tryz.func136 rfl rfl rfl rfl ?_
 unfold X9
 simp -implicitDefEqProofs only[go_sem,↓reduceIte]
 refine VS.w (h.size+2) [] (.q 0 (.q 1 (.q 2 (.q 3 (.q 5 (.q 6 (.q 7 (.q 8 (.s 4 (.s 9 (.s 10 (.s 11 (.q 12 .nil))))))))))))) mixed (by kernel_rfl) ?_
 simp -implicitDefEqProofs only[go_sem,↓reduceIte]
 refine (WU T _ _ _).pure ?_
 simp -implicitDefEqProofs only[go_sem,↓reduceIte]
 refine (WU T _ _ _).pure ?_
 simp -implicitDefEqProofs only[go_sem,↓reduceIte]
 refine⟨(Ze.refl _ _).Yg (by simp) _,?_⟩
 refine (mF T _ _ (SQ a.r b.r) (SQ a.n b.n) ?_ ?_).pure ?_
 ·simp -implicitDefEqProofs only[go_sem,↓reduceIte]
 ·simp -implicitDefEqProofs only[go_sem,↓reduceIte]
 unfold OH
 simp -implicitDefEqProofs only[go_sem,↓reduceIte]
 refine⟨(Ze.refl _ _).Yg (by simp) _,?_⟩
 (repeat' (first|exact Ze.refl _ _|assumption|refine Ze.add ?_ _|refine Ze.Zk ?_ (by first|omega|(simp;omega)) _|refine Ze.trans (by assumption) ?_))
theorem MK (T:World) (h:Hp) (v:Vt):Zd Tryz.prog T 138 #[.agg (Zm v).toArray] h fun v' h'=>v'=.bool (decide (Yb v))∧Ze h.size h h':=by
 refine Zd.Zi (args:=[_]) Tryz.func138 rfl rfl rfl rfl ?_
 unfold Zm
 by_cases q1:0≤v.slot
 ·by_cases q2:v.slot<40
  ·simp -implicitDefEqProofs only[go_sem,↓reduceIte,q1,q2]
   refine (Vx T _ v.b).use ?_
   rintro _ _ ⟨rfl,rfl⟩
   unfold X9
   by_cases q3:ZR v.b
   ·simp -implicitDefEqProofs only[go_sem,↓reduceIte,q3]
    refine (JX T _ v.k v.c v.s v.nm v.v).use ?_
    rintro _ _ ⟨rfl,rfl⟩
    by_cases q4:YI v.k v.c v.s v.nm v.v=0
    ·have e:Yb v:=⟨⟨q1,by omega⟩,q3,q4⟩
     simp -implicitDefEqProofs only[go_sem,↓reduceIte,q4,e]
     (repeat' (first|exact Ze.refl _ _|assumption|refine Ze.add ?_ _|refine Ze.Zk ?_ (by first|omega|(simp;omega)) _|refine Ze.trans (by assumption) ?_))
    ·have e:¬Yb v:=fun h=>q4 h.2.2
     simp -implicitDefEqProofs only[go_sem,↓reduceIte,q4,e]
     (repeat' (first|exact Ze.refl _ _|assumption|refine Ze.add ?_ _|refine Ze.Zk ?_ (by first|omega|(simp;omega)) _|refine Ze.trans (by assumption) ?_))
   ·have e:¬Yb v:=fun h=>q3 h.2.1
    simp -implicitDefEqProofs only[go_sem,↓reduceIte,q3,e]
  ·have e:¬Yb v:=by unfold Yb;omega
   simp -implicitDefEqProofs only[go_sem,↓reduceIte,q1,q2,e]
 ·have e:¬Yb v:=by unfold Yb;omega
  simp -implicitDefEqProofs only[go_sem,↓reduceIte,q1,e]
theorem QR {h:Hp} {v:Value} {l:List Vt} (s:Ts Zm 8 h v l):∃p cap,v=.slice p l.length cap∧(l≠[]→∃b o,p=some ⟨b,o,none⟩∧b<h.size∧(∀i (hi:i<l.length),hc h ⟨b,o+i*8,none⟩=some (.int .i64 l[i].slot))∧∀i (hi:i<l.length),rd h ⟨b,o+i*8,none⟩ 8=some (Zm l[i])):=by
 obtain⟨p,cap,hv,UA⟩:=Ts.open (enc:=Zm) (n:=8) (fun _=>rfl) (by decide) s
 refine⟨p,cap,hv,fun Yr=>?_⟩
 obtain⟨b,o,hp,hb,Yx⟩:=UA Yr
 exact⟨b,o,hp,hb,fun i hi=>(Yx i hi).hc (i:=0) rfl,fun i hi=>(Yx i hi).rd (by simp[Zm]) rfl⟩
def OI (l:List Vt) (j:Nat):Int:=((l[j]?).map (·.slot)).getD (-1)
def WV (l:List Vt) (i:Nat):Int:=if i=0 then -1 else OI l (i-1)
def Ta (p:XO) (l:List Vt) (i:Nat):Bool:=match l[i]? with
 | some v=>decide (Yb v∧¬below p v.b∧(i=0∨OI l (i-1)<v.slot))
 | none=>true
def XE (p:XO) (l:List Vt):Int:=if ¬ZR p∧¬(p.r=0∧p.n=0) then 5 else if (List.range l.length).all (Ta p l)=true then 0 else 5
theorem OJ {l:List Vt} {j:Nat} (hj:j<l.length):OI l j=l[j].slot:=by
 unfold OI;rw[List.getElem?_eq_getElem hj];rfl
theorem LS {p:XO} {l:List Vt} {i:Nat} (hi:i<l.length):Ta p l i=true↔Yb l[i]∧¬below p l[i].b∧(i=0∨OI l (i-1)<l[i].slot):=by
 unfold Ta
 rw[List.getElem?_eq_getElem hi]
 simp only[decide_eq_true_eq]
theorem Hk {p:XO} {l:List Vt} {i:Nat} (hi:i<l.length):Ta p l i=true↔Yb l[i]∧¬below p l[i].b∧WV l i<l[i].slot:=by
 rw[LS hi]
 unfold WV
 by_cases h0:i=0
 ·rw[if_pos h0]
  constructor
  ·rintro⟨h1,h2,_⟩;exact⟨h1,h2,by have:=h1.1.1;omega⟩
  ·rintro⟨h1,h2,_⟩;exact⟨h1,h2,.inl h0⟩
 ·rw[if_neg h0]
  constructor
  ·rintro⟨h1,h2,h3⟩;exact⟨h1,h2,h3.resolve_left h0⟩
  ·rintro⟨h1,h2,h3⟩;exact⟨h1,h2,.inr h3⟩
theorem Nw {p:XO} {l:List Vt} (hp:¬(¬ZR p∧¬(p.r=0∧p.n=0))) (hg:∀j,j<l.length→Ta p l j=true):XE p l=0:=by
 unfold XE
 rw[if_neg hp,if_pos (List.all_eq_true.2 fun i hi=>hg i (List.mem_range.1 hi))]
theorem QS {p:XO} {l:List Vt} {i:Nat} (hi:i<l.length) (hb:Ta p l i=false):XE p l=5:=by
 unfold XE
 split
 ·rfl
 ·rw[if_neg]
  intro h
  have:=List.all_eq_true.1 h i (List.mem_range.2 hi)
  rw[hb]at this;cases this
def YJ (p:XO) (v:Value):List Value:=[.int .i64 p.r,.int .i64 p.n,v]
theorem Rc (T:World) (h:Hp) (p:XO) (u:Value) (l:List Vt) (s:Ts Zm 8 h u l) (hlen:l.length≤4611686018427387904) :
  Zd Tryz.prog T 134 #[.agg (YJ p u).toArray] h fun v' h'=>v'=.int .i64 (XE p l)∧Ze h.size h h':=by
 obtain⟨pv,cv,rfl,Yx⟩:=QR s
 refine Zd.Zi (args:=[_]) Tryz.func134 rfl rfl rfl rfl ?_
 unfold YJ
 by_cases z:p.r=0∧p.n=0
 ·obtain⟨z1,z2⟩:=z
  have HX:¬(¬ZR p∧¬(p.r=0∧p.n=0)):=fun h=>h.2 ⟨z1,z2⟩
  simp -implicitDefEqProofs only[go_sem,↓reduceIte,z1,z2]
  obtain⟨H,hH⟩:=Zu (h.push (.cells [.int .i64 0,.int .i64 0,.slice pv l.length cv].toArray 131):Hp)
  have x0:H[h.size]? = some (.cells (YJ p (.slice pv l.length cv)).toArray 131):=by rw[hH];unfold YJ;rw[z1,z2];exact Zb
  have Am:Ze h.size h H:=by rw[hH];(repeat' (first|exact Ze.refl _ _|assumption|refine Ze.add ?_ _|refine Ze.Zk ?_ (by first|omega|(simp;omega)) _|refine Ze.trans (by assumption) ?_))
  rw[←hH]
  clear hH
  have hz:=Za x0
  refine VS.ZU (fun F g=>Ze H.size H g∧F 1=.pointer (some ⟨h.size,0,none⟩)∧F 17=.slice pv l.length cv∧F 18=.int .i64 l.length∧∃i:Nat,i≤l.length∧F 19=.int .i64 i∧F 3=.int .i64 (WV l i)∧∀j,j<i→Ta p l j=true)
   (fun F _=>l.length-(vi (F 19)).toNat) rfl ⟨Ze.refl _ _,rfl,rfl,rfl,0,by omega,rfl,rfl,fun j hj=>by omega⟩ ?_
  rintro F g ⟨hg,f1,f17,f18,i,hi,f19,f3,YH⟩
  have S8:=hg.size
  have GI:Ze h.size h g:=Am.trans (hg.mono (by omega))
  by_cases ZA:i<l.length
  ·have ZH:(i:Int)<l.length:=by omega
   obtain⟨bb,oo,rfl,Ut,LU,Yx⟩:=Yx (by intro e;rw[e]at ZA;simp at ZA)
   have Zmb:bb<H.size:=by have:=Am.size;omega
   have r1:rd g ⟨bb,oo+i*8,none⟩ 8=some (Zm l[i]):=by
    rw[XB GI (by exact Ut)];exact Yx i ZA
   have rp:rd g ⟨h.size,0,none⟩ 2=some [.int .i64 p.r,.int .i64 p.n]:=by rw[XB hg (by exact hz),Z0 x0 (by simp[YJ])];rfl
   have hsl:=OJ ZA
   have gl:=Hk (p:=p) ZA
   obtain⟨v,hv⟩:=Zu (l[i])
   rw[←hv]at r1 gl hsl
   unfold Zm at r1
   have YM:WV l (i+1)=v.slot:=by unfold WV;rw[if_neg (by omega),Nat.add_sub_cancel];exact hsl
   simp -implicitDefEqProofs only[go_sem,↓reduceIte,f1,f17,f18,f19,ZH,r1]
   refine (MK T _ v).use ?_
   rintro _ g1 ⟨rfl,b1⟩
   have b1s:=b1.size
   simp only[Array.size_push]at b1s
   have y0:g1[g.size]? = some (.cells [.int .i64 v.slot,.int .i64 v.b.r,.int .i64 v.b.n,.int .i64 v.k,.int .i64 v.c,.int .i64 v.s,.int .i64 v.nm,.int .i64 v.v].toArray 161):=b1.get (by simp) Zb
   have y1:hc g1 ⟨g.size,0,none⟩=some (.int .i64 v.slot):=by rw[Zg y0];rfl
   have y2:rd g1 ⟨g.size,1,none⟩ 2=some [.int .i64 v.b.r,.int .i64 v.b.n]:=by rw[Z0 y0 (by simp)];rfl
   have jn:Ze g.size g g1:=(Ze.push (Nat.le_refl _) _).trans (b1.mono (by simp))
   have y3:rd g1 ⟨h.size,0,none⟩ 2=some [.int .i64 p.r,.int .i64 p.n]:=by rw[XB jn (by show h.size<g.size;omega)];exact rp
   have Q3:Ze h.size h g1:=GI.trans (jn.mono (by omega))
   have Om:Ze H.size H g1:=hg.trans (jn.mono (by omega))
   by_cases c1:Yb v
   ·by_cases c2:v.slot≤WV l i
    ·have e:=QS (p:=p) ZA (by cases Ee:Ta p l i with|false=>rfl|true=>exact absurd (gl.1 Ee).2.2 (by omega))
     simp -implicitDefEqProofs only[go_sem,↓reduceIte,f1,f3,c1,c2,y1,e,Q3]
    ·simp -implicitDefEqProofs only[go_sem,↓reduceIte,f1,f3,c1,c2,y1,y2,y3]
     refine (UZ T _ v.b p).use ?_
     rintro _ g2 ⟨rfl,b2⟩
     have y4:hc g2 ⟨g.size,0,none⟩=some (.int .i64 v.slot):=by rw[b2.hc (by show g.size<g1.size;omega)];exact y1
     have TG:Ze h.size h g2:=Q3.trans (b2.mono (by have:=Q3.size;omega))
     have QD:Ze H.size H g2:=Om.trans (b2.mono (by have:=Om.size;omega))
     by_cases c3:below p v.b
     ·have e:=QS (p:=p) ZA (by cases Ee:Ta p l i with|false=>rfl|true=>exact absurd c3 (gl.1 Ee).2.1)
      have mG:=(Vw v.b p).2 c3
      simp -implicitDefEqProofs only[go_sem,↓reduceIte,mG,e,TG]
     ·have mG:¬0<OH v.b p:=fun h=>c3 ((Vw v.b p).1 h)
      simp -implicitDefEqProofs only[go_sem,↓reduceIte,mG,f1,f17,f18,f19,y4]
      refine⟨⟨QD,f1,f17,f18,i+1,ZA,rfl,by rw[YM];rfl,fun j hj=>?_⟩,?_⟩
      ·by_cases Wn:j=i
       ·subst Wn;exact gl.2 ⟨c1,c3,by omega⟩
       ·exact YH j (by omega)
      ·simp only[vi,Zh,↓reduceIte,f19];omega
   ·have e:=QS (p:=p) ZA (by cases Ee:Ta p l i with|false=>rfl|true=>exact absurd (gl.1 Ee).1 c1)
    simp -implicitDefEqProofs only[go_sem,↓reduceIte,c1,e,Q3]
  ·have YE:¬(i:Int)<l.length:=by omega
   obtain rfl:i=l.length:=by omega
   have e:=Nw HX YH
   simp -implicitDefEqProofs only[go_sem,↓reduceIte,f17,f18,f19,YE,e,GI]
 ·have z':¬p.r=0∨¬p.n=0:=by omega
  by_cases q:ZR p
  ·have HX:¬(¬ZR p∧¬(p.r=0∧p.n=0)):=fun h=>h.1 q
   have zz:(p.r=0∧p.n=0)=False:=eq_false z
   by_cases z1:p.r=0
   ·have z2:¬p.n=0:=fun e=>z ⟨z1,e⟩
    exact absurd q.1.1 (by omega)
   ·simp -implicitDefEqProofs only[go_sem,↓reduceIte,z1]
    refine (Vx T _ p).use ?_
    rintro _ _ ⟨rfl,rfl⟩
    simp -implicitDefEqProofs only[go_sem,↓reduceIte,q]
    obtain⟨H,hH⟩:=Zu ((h.push (.cells [.int .i64 p.r,.int .i64 p.n,.slice pv l.length cv].toArray 131)).push (.cells (X9 p).toArray 128):Hp)
    have x0:H[h.size]? = some (.cells (YJ p (.slice pv l.length cv)).toArray 131):=by rw[hH];simp only[Array.getElem?_push,Array.size_push,IntWalk.iteOmega,↓reduceIte];rfl
    have Am:Ze h.size h H:=by rw[hH];(repeat' (first|exact Ze.refl _ _|assumption|refine Ze.add ?_ _|refine Ze.Zk ?_ (by first|omega|(simp;omega)) _|refine Ze.trans (by assumption) ?_))
    rw[←hH]
    clear hH
    have hz:=Za x0
    refine VS.ZU (fun F g=>Ze H.size H g∧F 1=.pointer (some ⟨h.size,0,none⟩)∧F 17=.slice pv l.length cv∧F 18=.int .i64 l.length∧∃i:Nat,i≤l.length∧F 19=.int .i64 i∧F 3=.int .i64 (WV l i)∧∀j,j<i→Ta p l j=true)
     (fun F _=>l.length-(vi (F 19)).toNat) rfl ⟨Ze.refl _ _,rfl,rfl,rfl,0,by omega,rfl,rfl,fun j hj=>by omega⟩ ?_
    rintro F g ⟨hg,f1,f17,f18,i,hi,f19,f3,YH⟩
    have S8:=hg.size
    have GI:Ze h.size h g:=Am.trans (hg.mono (by omega))
    by_cases ZA:i<l.length
    ·have ZH:(i:Int)<l.length:=by omega
     obtain⟨bb,oo,rfl,Ut,LU,Yx⟩:=Yx (by intro e;rw[e]at ZA;simp at ZA)
     have Zmb:bb<H.size:=by have:=Am.size;omega
     have r1:rd g ⟨bb,oo+i*8,none⟩ 8=some (Zm l[i]):=by
      rw[XB GI (by exact Ut)];exact Yx i ZA
     have rp:rd g ⟨h.size,0,none⟩ 2=some [.int .i64 p.r,.int .i64 p.n]:=by rw[XB hg (by exact hz),Z0 x0 (by simp[YJ])];rfl
     have hsl:=OJ ZA
     have gl:=Hk (p:=p) ZA
     obtain⟨v,hv⟩:=Zu (l[i])
     rw[←hv]at r1 gl hsl
     unfold Zm at r1
     have YM:WV l (i+1)=v.slot:=by unfold WV;rw[if_neg (by omega),Nat.add_sub_cancel];exact hsl
     simp -implicitDefEqProofs only[go_sem,↓reduceIte,f1,f17,f18,f19,ZH,r1]
     refine (MK T _ v).use ?_
     rintro _ g1 ⟨rfl,b1⟩
     have b1s:=b1.size
     simp only[Array.size_push]at b1s
     have y0:g1[g.size]? = some (.cells [.int .i64 v.slot,.int .i64 v.b.r,.int .i64 v.b.n,.int .i64 v.k,.int .i64 v.c,.int .i64 v.s,.int .i64 v.nm,.int .i64 v.v].toArray 161):=b1.get (by simp) Zb
     have y1:hc g1 ⟨g.size,0,none⟩=some (.int .i64 v.slot):=by rw[Zg y0];rfl
     have y2:rd g1 ⟨g.size,1,none⟩ 2=some [.int .i64 v.b.r,.int .i64 v.b.n]:=by rw[Z0 y0 (by simp)];rfl
     have jn:Ze g.size g g1:=(Ze.push (Nat.le_refl _) _).trans (b1.mono (by simp))
     have y3:rd g1 ⟨h.size,0,none⟩ 2=some [.int .i64 p.r,.int .i64 p.n]:=by rw[XB jn (by show h.size<g.size;omega)];exact rp
     have Q3:Ze h.size h g1:=GI.trans (jn.mono (by omega))
     have Om:Ze H.size H g1:=hg.trans (jn.mono (by omega))
     by_cases c1:Yb v
     ·by_cases c2:v.slot≤WV l i
      ·have e:=QS (p:=p) ZA (by cases Ee:Ta p l i with|false=>rfl|true=>exact absurd (gl.1 Ee).2.2 (by omega))
       simp -implicitDefEqProofs only[go_sem,↓reduceIte,f1,f3,c1,c2,y1,e,Q3]
      ·simp -implicitDefEqProofs only[go_sem,↓reduceIte,f1,f3,c1,c2,y1,y2,y3]
       refine (UZ T _ v.b p).use ?_
       rintro _ g2 ⟨rfl,b2⟩
       have y4:hc g2 ⟨g.size,0,none⟩=some (.int .i64 v.slot):=by rw[b2.hc (by show g.size<g1.size;omega)];exact y1
       have TG:Ze h.size h g2:=Q3.trans (b2.mono (by have:=Q3.size;omega))
       have QD:Ze H.size H g2:=Om.trans (b2.mono (by have:=Om.size;omega))
       by_cases c3:below p v.b
       ·have e:=QS (p:=p) ZA (by cases Ee:Ta p l i with|false=>rfl|true=>exact absurd c3 (gl.1 Ee).2.1)
        have mG:=(Vw v.b p).2 c3
        simp -implicitDefEqProofs only[go_sem,↓reduceIte,mG,e,TG]
       ·have mG:¬0<OH v.b p:=fun h=>c3 ((Vw v.b p).1 h)
        simp -implicitDefEqProofs only[go_sem,↓reduceIte,mG,f1,f17,f18,f19,y4]
        refine⟨⟨QD,f1,f17,f18,i+1,ZA,rfl,by rw[YM];rfl,fun j hj=>?_⟩,?_⟩
        ·by_cases Wn:j=i
         ·subst Wn;exact gl.2 ⟨c1,c3,by omega⟩
         ·exact YH j (by omega)
        ·simp only[vi,Zh,↓reduceIte,f19];omega
     ·have e:=QS (p:=p) ZA (by cases Ee:Ta p l i with|false=>rfl|true=>exact absurd (gl.1 Ee).1 c1)
      simp -implicitDefEqProofs only[go_sem,↓reduceIte,c1,e,Q3]
    ·have YE:¬(i:Int)<l.length:=by omega
     obtain rfl:i=l.length:=by omega
     have e:=Nw HX YH
     simp -implicitDefEqProofs only[go_sem,↓reduceIte,f17,f18,f19,YE,e,GI]
  ·have e:XE p l=5:=by unfold XE;rw[if_pos ⟨q,z⟩]
   by_cases z1:p.r=0
   ·have z2:¬p.n=0:=fun e=>z ⟨z1,e⟩
    have hb:=Vx T (h.push (.cells [.int .i64 0,.int .i64 p.n,.slice pv l.length cv].toArray 131)) p
    simp -implicitDefEqProofs only[go_sem,↓reduceIte,z1,z2]
    unfold X9 at hb
    rw[z1]at hb
    refine hb.use ?_
    rintro _ _ ⟨rfl,rfl⟩
    simp -implicitDefEqProofs only[go_sem,↓reduceIte,q,e]
   ·simp -implicitDefEqProofs only[go_sem,↓reduceIte,z1]
    refine (Vx T _ p).use ?_
    rintro _ _ ⟨rfl,rfl⟩
    simp -implicitDefEqProofs only[go_sem,↓reduceIte,q,e]
theorem WW (T:World) (h:Hp) (u:Value) (l:List Vt) (s:Ts Zm 8 h u l) (hl:l.length≤2199023255552) :
  Zd Tryz.prog T 137 #[u] h fun v' h'=>Jh h.size 161 Zm 8 h' v' l∧Ze h.size h h':=by
 obtain⟨p,c,rfl,UA⟩:=QR s
 refine Zd.Zi (args:=[_]) Tryz.func137 rfl rfl rfl rfl ?_
 cases p with
 | none=>
  have:l=[]:=by
   cases l with
   | nil=>rfl
   | cons x l=>obtain⟨b,o,hp,_⟩:=UA (by simp);cases hp
  subst this
  simp -implicitDefEqProofs only[go_sem,↓reduceIte]
  exact Jh.nil _ _ _ _ _
 | some a=>
  simp -implicitDefEqProofs only[go_sem,↓reduceIte]
  refine Sy (E:=161) (B:=h.size) (n:=8) (bytes:=64) TU Tryz.underlying129 PB bT rfl bQ (fun _=>rfl) (Jh.Ip _ _ Zm 8 _ _) (by simp) (s.Z4 (Ze.push (Nat.le_refl _) _)) (by simp;omega) (by omega) ?_
  intro v' h' ho hb _
  simp -implicitDefEqProofs only[go_sem,↓reduceIte]
  exact⟨by simpa using ho,(Ze.push (Nat.le_refl _) _).trans hb⟩
def Yv (p:XO) (l:List Vt) (b:XO):Int:=if XE p l≠0 then 5 else if ¬ZR b then 2 else if below b p then 7 else 0
theorem Nx (p:XO) (l:List Vt):XE p l=0∨XE p l=5:=by
 unfold XE
 repeat' split
 all_goals simp
def EN (B:Nat) (h':Hp) (v':Value) (p:XO) (l:List Vt) (b:XO):Prop:=∃w1 w2,v'=.tuple [.agg (YJ (if Yv p l b=0 then b else ⟨0,0⟩) w1).toArray,w2,.int .i64 (Yv p l b)].toArray ∧
 Jh B 161 Zm 8 h' w1 (if Yv p l b=0 then l else [])∧Jh B 161 Zm 8 h' w2 (if Yv p l b=0 then l else [])
theorem Tc (T:World) (h:Hp) (p:XO) (u:Value) (l:List Vt) (b:XO) (s:Ts Zm 8 h u l) (hl:l.length≤2199023255552) :
  Zd Tryz.prog T 114 #[.agg (YJ p u).toArray,.agg (X9 b).toArray] h fun v' h'=>EN h.size h' v' p l b∧Ze h.size h h':=by
 obtain⟨pu,cu,rfl,UA⟩:=QR s
 refine Zd.XM (args:=[_,_]) Tryz.func114 rfl rfl rfl rfl ?_
 unfold YJ X9
 simp -implicitDefEqProofs only[go_sem,↓reduceIte]
 have Vy:Ze h.size h ((((h.push (.cells [.int .i64 p.r,.int .i64 p.n,.slice pu l.length cu].toArray 131)).push (.cells [.int .i64 b.r,.int .i64 b.n].toArray 128)).push (.cells [.int .i64 0,.int .i64 0,.slice none 0 0].toArray 131))):=by (repeat' (first|exact Ze.refl _ _|assumption|refine Ze.add ?_ _|refine Ze.Zk ?_ (by first|omega|(simp;omega)) _|refine Ze.trans (by assumption) ?_))
 refine (Rc T _ p _ l (s.Z4 Vy) (by omega)).use ?_
 rintro _ g1 ⟨rfl,b1⟩
 have x0:g1[h.size]? = some (.cells (YJ p (.slice pu l.length cu)).toArray 131):=b1.get (by simp only[Array.size_push];omega) (by simp only[Array.getElem?_push,Array.size_push,IntWalk.iteOmega,↓reduceIte,YJ])
 have x1:g1[h.size+1]? = some (.cells [.int .i64 b.r,.int .i64 b.n].toArray 128):=b1.get (by simp only[Array.size_push];omega) (by simp only[Array.getElem?_push,Array.size_push,IntWalk.iteOmega,↓reduceIte])
 have x2:g1[h.size+2]? = some (.cells [.int .i64 0,.int .i64 0,.slice none 0 0].toArray 131):=b1.get (by simp only[Array.size_push];omega) (by simp only[Array.getElem?_push,Array.size_push,IntWalk.iteOmega,↓reduceIte])
 have Q3:Ze h.size h g1:=Vy.trans (b1.mono (by simp;omega))
 have z1:=Za x2
 clear b1 Vy
 have fin:∀(G:Hp) (w:List Value),w.length=3→w.all Z5=true→G[h.size+2]? = some (.cells [.int .i64 0,.int .i64 0,.slice none 0 0].toArray 131)→wr G ⟨h.size+1+1,0,none⟩ w=some (G.setIfInBounds (h.size+1+1) (.cells w.toArray 131)):=by
  intro G w h3 h1 hx
  rw[ZP (b:=h.size+1+1) hx 0 w,ZK (by rw[h3];rfl),if_pos ⟨by rw[h3];simp,h1⟩]
 unfold EN
 rcases Nx p l with e0|e0
 ·have r1:=Zo x1 (n:=2) rfl
  simp -implicitDefEqProofs only[go_sem,↓reduceIte,e0,r1]
  refine (Vx T _ b).use ?_
  rintro _ _ ⟨rfl,rfl⟩
  by_cases q1:ZR b
  ·have rp:rd g1 ⟨h.size,0,none⟩ 2=some [.int .i64 p.r,.int .i64 p.n]:=by rw[Z0 x0 (by simp[YJ])];rfl
   have z2:h.size<g1.size:=by omega
   have z3:h.size+1<g1.size:=by omega
   unfold X9
   simp -implicitDefEqProofs only[go_sem,↓reduceIte,q1,r1,rp,z2,z3]
   refine (UZ T _ b p).use ?_
   rintro _ g2 ⟨rfl,b2⟩
   have EO:Ze g1.size g1 g2:=(Ze.push (Nat.le_refl _) _).trans (b2.mono (by simp))
   have zR:=EO.get z2 x0
   have xq:=EO.get z3 x1
   have zS:=EO.get z1 x2
   have TG:=Q3.trans (EO.mono Q3.size)
   have z5:=Za zS
   by_cases q2:below b p
   ·have e:Yv p l b=7:=by unfold Yv;rw[if_neg (by rw[e0];decide),if_neg (fun h=>h q1),if_pos q2]
    have w2:=fin g2 [.int .i64 0,.int .i64 0,.slice none 0 0] rfl rfl zS
    have tq:OH b p<0:=(PK b p).2 q2
    simp -implicitDefEqProofs only[go_sem,↓reduceIte,tq,e,w2,z5]
    refine⟨⟨_,_,rfl,Jh.nil _ _ _ _ _,Jh.nil _ _ _ _ _⟩,?_⟩
    exact TG.Zk (by omega) _
   ·have e:Yv p l b=0:=by unfold Yv;rw[if_neg (by rw[e0];decide),if_neg (fun h=>h q1),if_neg q2]
    have r1':=Zo xq (n:=2) rfl
    have rv:hc g2 ⟨h.size,2,none⟩=some (.slice pu l.length cu):=by rw[Zg zR];rfl
    have tq:¬OH b p<0:=fun h=>q2 ((PK b p).1 h)
    simp -implicitDefEqProofs only[go_sem,↓reduceIte,tq]
    refine VS.w (h.size+2) [] (.q 0 (.q 1 (.q 2 (.q 5 (.q 6 (.s 3 (.q 4 (.s 7 (.s 8 (.q 9 (.q 10 .nil))))))))))) mixed (by kernel_rfl) ?_
    have z6:h.size<h.size+2:=by omega
    have z7:h.size+1<h.size+2:=by omega
    simp -implicitDefEqProofs only[go_sem,↓reduceIte,r1',rv,z6,z7]
    refine (WW T _ _ l (s.Z4 TG) hl).use ?_
    rintro w1 g3 ⟨o1,b3⟩
    obtain⟨p1,c1,rfl,_⟩:=o1.open
    have b3':Ze (h.size+2) g2 g3:=b3.mono (by omega)
    simp -implicitDefEqProofs only[go_sem,↓reduceIte]
    refine⟨b3',?_⟩
    refine (WW T _ _ l ((s.Z4 TG).Z4 b3) hl).use ?_
    rintro w2 g4 ⟨o2,b4⟩
    have b3s:=b3.size
    have b4s:=b4.size
    have An:Ze (h.size+2) g2 g4:=b3'.trans (b4.mono (by omega))
    have Zd5:g4[h.size+2]? = some (.cells [.int .i64 0,.int .i64 0,.slice none 0 0].toArray 131):=b4.get (by omega) (b3.get z5 zS)
    have z8:=Za Zd5
    have wf:=fin g4 [.int .i64 b.r,.int .i64 b.n,.slice p1 l.length c1] rfl rfl Zd5
    have cG:=TG.trans ((b3.trans (b4.mono b3s)).mono TG.size)
    simp -implicitDefEqProofs only[go_sem,↓reduceIte,e,wf,z8]
    refine⟨An,An.Zk (by omega) _,⟨_,_,rfl,?_,?_⟩,?_⟩
    ·exact (((o1.Z4 b4 (Nat.le_refl _)).mono (B':=h.size+1+1+1) (by omega)).ZQ (by omega) _).mono (by omega)
    ·exact ((o2.mono (B':=h.size+1+1+1) (by omega)).ZQ (by omega) _).mono (by omega)
    ·exact cG.Zk (by omega) _
  ·have e:Yv p l b=2:=by unfold Yv;rw[if_neg (by rw[e0];decide),if_pos q1]
   have w2:=fin g1 [.int .i64 0,.int .i64 0,.slice none 0 0] rfl rfl x2
   simp -implicitDefEqProofs only[go_sem,↓reduceIte,q1,e,w2,z1]
   exact⟨⟨_,_,rfl,Jh.nil _ _ _ _ _,Jh.nil _ _ _ _ _⟩,(Q3.Zk (by omega) _).Yg (by simp;omega) _⟩
 ·have e:Yv p l b=5:=by unfold Yv;rw[if_pos (by rw[e0];decide)]
  have w2:=fin g1 [.int .i64 0,.int .i64 0,.slice none 0 0] rfl rfl x2
  simp -implicitDefEqProofs only[go_sem,↓reduceIte,e0,e,w2,z1]
  exact⟨⟨_,_,rfl,Jh.nil _ _ _ _ _,Jh.nil _ _ _ _ _⟩,Q3.Zk (by omega) _⟩
def zT (l:List Vt):Prop:=∀i j (hi:i<l.length) (hj:j<l.length),i<j→l[i].slot<l[j].slot
theorem PM {p:XO} {l:List Vt} (h:XE p l=0):∀j,j<l.length→Ta p l j=true:=by
 intro j hj
 unfold XE at h
 split at h
 ·cases h
 ·split at h
  ·rename_i YH
   exact List.all_eq_true.1 YH j (List.mem_range.2 hj)
  ·cases h
theorem LV {p:XO} {l:List Vt} (h:XE p l=0):zT l:=by
 have hg:=PM h
 intro i j
 induction j with
 | zero=>intro _ _ h;omega
 | succ j ih=>
  intro hi hj ji
  have h1:=(LS hj).1 (hg _ hj)
  have h2:OI l j<l[j+1].slot:=by
   rcases h1.2.2 with h|h
   ·omega
   ·simpa using h
  rw[OJ (by omega)]at h2
  by_cases e:i=j
  ·subst e;exact h2
  ·exact Int.lt_trans (ih hi (by omega) (by omega)) h2
theorem Ao {p:XO} {l:List Vt} (h:XE p l=0):∀x∈l,Yb x:=by
 intro x hx
 obtain⟨j,hj,rfl⟩:=List.mem_iff_getElem.1 hx
 exact ((LS hj).1 (PM h j hj)).1
def QF (l:List Vt) (v:Vt):List Vt:=l.filter (fun x=>decide (x.slot<v.slot))++v :: l.filter (fun x=>decide (v.slot<x.slot))
theorem Ny {α:Type} (q:α→Bool) (l:List α) (i:Nat) (h1:∀j (hj:j<l.length),j<i→q l[j]=true) (h2:∀j (hj:j<l.length),i≤j→q l[j]=false):l.filter q=l.take i:=by
 conv=>lhs;rw[←List.take_append_drop i l]
 rw[List.filter_append,List.filter_eq_self.2,List.filter_eq_nil_iff.2,List.append_nil]
 ·intro x hx
  obtain⟨j,hj,rfl⟩:=List.mem_iff_getElem.1 hx
  rw[List.getElem_drop]
  rw[h2 _ (by rw[List.length_drop]at hj;omega) (by omega)]
  decide
 ·intro x hx
  obtain⟨j,hj,rfl⟩:=List.mem_iff_getElem.1 hx
  rw[List.length_take]at hj
  rw[List.getElem_take]
  exact h1 _ (by omega) (by omega)
theorem Nz {α:Type} (q:α→Bool) (l:List α) (i:Nat) (h1:∀j (hj:j<l.length),j<i→q l[j]=false) (h2:∀j (hj:j<l.length),i≤j→q l[j]=true):l.filter q=l.drop i:=by
 conv=>lhs;rw[←List.take_append_drop i l]
 rw[List.filter_append,List.filter_eq_nil_iff.2,List.filter_eq_self.2,List.nil_append]
 ·intro x hx
  obtain⟨j,hj,rfl⟩:=List.mem_iff_getElem.1 hx
  rw[List.getElem_drop]
  exact h2 _ (by rw[List.length_drop]at hj;omega) (by omega)
 ·intro x hx
  obtain⟨j,hj,rfl⟩:=List.mem_iff_getElem.1 hx
  rw[List.length_take]at hj
  rw[List.getElem_take,h1 _ (by omega) (by omega)]
  decide
theorem mH {l:List Vt} (hs:zT l) {v:Vt} {i:Nat} (hi:i<l.length) (he:l[i].slot=v.slot):QF l v=l.set i v:=by
 have a1:l.filter (fun x=>decide (x.slot<v.slot))=l.take i:=Ny _ _ _
  (fun j hj Wn=>decide_eq_true (by have:=hs j i hj hi Wn;omega))
  (fun j hj ji=>decide_eq_false (by
    by_cases e:i=j
    ·subst e;omega
    ·have:=hs i j hi hj (by omega);omega))
 have a2:l.filter (fun x=>decide (v.slot<x.slot))=l.drop (i+1):=Nz _ _ _
  (fun j hj Wn=>decide_eq_false (by
    by_cases e:j=i
    ·subst e;omega
    ·have:=hs j i hj hi (by omega);omega))
  (fun j hj ji=>decide_eq_true (by have:=hs i j hi hj (by omega);omega))
 rw[QF,a1,a2,List.set_eq_take_append_cons_drop,if_pos hi]
theorem mI {l:List Vt} (hs:zT l) {v:Vt} {i:Nat} (hi:i≤l.length) (h1:∀j (hj:j<l.length),j<i→l[j].slot<v.slot) (h2:∀j (hj:j<l.length),i≤j→v.slot<l[j].slot):QF l v=l.take i++v :: l.drop i:=by
 have a1:l.filter (fun x=>decide (x.slot<v.slot))=l.take i:=Ny _ _ _ (fun j hj Wn=>decide_eq_true (h1 j hj Wn)) (fun j hj ji=>decide_eq_false (by have:=h2 j hj ji;omega))
 have a2:l.filter (fun x=>decide (v.slot<x.slot))=l.drop i:=Nz _ _ _ (fun j hj Wn=>decide_eq_false (by have:=h1 j hj Wn;omega)) (fun j hj ji=>decide_eq_true (h2 j hj ji))
 rw[QF,a1,a2]
def YY:List Nat→Nat
 | []=>0
 | x :: l=>x+256*YY l
def Dg (l:List Nat):Prop:=∀x∈l,x<256
theorem Dg.getD {l:List Nat} (w:Dg l) (i:Nat):l.getD i 0<256:=ZF w i
theorem Dg.set {l:List Nat} {x:Nat} (w:Dg l) (i:Nat) (hx:x<256):Dg (l.set i x):=by
 intro y hy
 rcases List.mem_or_eq_of_mem_set hy with h|h
 ·exact w y h
 ·rw[h];exact hx
theorem tC {l:List Nat} (w:Dg l):YY l<256 ^ l.length:=by
 induction l with
 | nil=>simp[YY]
 | cons x l ih=>
  have h1:=ih fun y hy=>w y (List.mem_cons_of_mem _ hy)
  have h2:=w x List.mem_cons_self
  simp only[YY,List.length_cons,Nat.pow_succ]
  omega
theorem Ap {l:List Nat} (w:Dg l) (i:Nat):l.getD i 0=YY l/256 ^ i%256:=by
 induction l generalizing i with
 | nil=>simp[YY]
 | cons x l ih=>
  have hx:=w x List.mem_cons_self
  cases i with
  | zero=>simp only[List.getD_cons_zero,YY,Nat.pow_zero,Nat.div_one];omega
  | succ i=>
   rw[List.getD_cons_succ,ih (fun y hy=>w y (List.mem_cons_of_mem _ hy)) i,YY,Nat.pow_succ,Nat.mul_comm (256 ^ i) 256,←Nat.div_div_eq_div_mul]
   congr 2
   omega
theorem getD_none {l:List Nat} {i:Nat} (hi:¬i<l.length):l.getD i 0=0:=by
 rw[List.getD_eq_getElem?_getD,List.getElem?_eq_none (by omega)];rfl
def uv (x:Nat):Value:=.int .u64 (x:Nat)
def GJ (n top:Nat):List Nat:=[n%67108864,n/67108864%67108864,n/4503599627370496%67108864,n/302231454903657293676544%67108864,n/20282409603651670423947251286016+top*16777216]
theorem ML (x n:Nat) (hn:n≤64):Yz .u64 (x:Int) (n:Int)=((x*2 ^ n%18446744073709551616:Nat):Int):=by
 rw[Ge .u64 x n (by show n≤64;omega),Pk];rfl
theorem SF (x n:Nat) (hn:n≤64):Xa .u64 (x:Int) (n:Int)=((x/2 ^ n:Nat):Int):=by
 rw[Sx .u64 x n (by show n≤64;omega),Nat.shiftRight_eq_div_pow]
theorem T4 (x:Nat) (hx:x<18446744073709551616):Z8 .and .u64 (x:Int) 67108863=((x%67108864:Nat):Int):=by
 have h:=rZ x 67108863 hx (by decide)
 have e:x &&& 67108863=x%67108864:=Nat.and_two_pow_sub_one_eq_mod x 26
 rw[e]at h
 exact h
theorem cH (L b:Nat) (hL:L<72057594037927936) (hb:b<256):Z8 .or .u64 ((L*256:Nat):Int) (b:Int)=((L*256+b:Nat):Int):=by
 rw[By _ _ (by omega) (by omega),JP (k:=8) (by omega) (by omega)]
theorem Zd6 (L:Nat) (hL:L<72057594037927936):Yz .u64 (L:Int) 8=((L*256:Nat):Int):=by
 have h:=ML L 8 (by decide)
 rw[show L*2 ^ 8%18446744073709551616=L*256 by omega]at h
 exact h
theorem EP {l:List Nat} {m:Nat} (hm:m<l.length):YY (l.drop m)=l.getD m 0+256*YY (l.drop (m+1)):=by
 rw[List.drop_eq_getElem_cons hm]
 have e:l.getD m 0=l[m]:=by rw[List.getD_eq_getElem?_getD,List.getElem?_eq_getElem hm];rfl
 rw[e];rfl
theorem Dg.drop {l:List Nat} (w:Dg l) (i:Nat):Dg (l.drop i):=fun x hx=>w x (List.mem_of_mem_drop hx)
theorem U0 {l:List Nat} (w:Dg l) {n:Nat} (hn:l.length≤n):YY l<256 ^ n:=Nat.lt_of_lt_of_le (tC w) (Nat.pow_le_pow_right (by omega) hn)
set_option maxHeartbeats 1000000 in
theorem OK (T:World) (h:Hp) (v:Value) (l:List Nat) (top:Nat) (s:Bs h v l) (hl:l.length=16) (ht:top≤1) :
  Zd Tryz.prog T 118 #[v,.int .u64 top] h fun v' h'=>v'=.agg ((GJ (YY l) top).map uv).toArray∧Ze h.size h h':=by
 have wb:=s.byte
 obtain⟨p,c,rfl,hc⟩:=s.Us
 obtain⟨bb,oo,rfl,Ut,hc⟩:=hc (by intro e;subst e;simp at hl)
 obtain⟨lo,hi,rfl,hlo,hhi⟩:∃lo hi:List Nat,l=lo++hi∧lo.length=8∧hi.length=8:=⟨l.take 8,l.drop 8,(List.take_append_drop 8 l).symm,by rw[List.length_take];omega,by rw[List.length_drop];omega⟩
 have wlo:Dg lo:=fun x hx=>wb x (List.mem_append_left _ hx)
 have whi:Dg hi:=fun x hx=>wb x (List.mem_append_right _ hx)
 refine Zd.Zi (args:=[_,_]) Tryz.func118 rfl rfl rfl rfl ?_
 simp -implicitDefEqProofs only[go_sem,↓reduceIte]
 obtain⟨Z,hZ⟩:∃Z:Obj,Z=.cells #[.int .u64 0,.int .u64 0,.int .u64 0,.int .u64 0,.int .u64 0] 211:=⟨_,rfl⟩
 refine VS.ZU (fun F g=>g=h.push (.cells #[.int .u64 0,.int .u64 0,.int .u64 0,.int .u64 0,.int .u64 0] 211)∧F 0=.slice (some ⟨bb,oo,none⟩) (lo++hi).length c∧F 1=.int .u64 top∧F 4=.pointer (some ⟨h.size,0,none⟩)∧∃j:Nat,j≤8∧F 7=.int .i64 ((j:Int)-1)∧F 5=.int .u64 (YY (lo.drop j):Nat)∧F 6=.int .u64 (YY (hi.drop j):Nat))
  (fun F _=>(vi (F 7)+1).toNat) rfl ⟨rfl,rfl,rfl,rfl,8,by omega,rfl,by rw[List.drop_of_length_le (by omega)];rfl,by rw[List.drop_of_length_le (by omega)];rfl⟩ ?_
 rintro F g ⟨rfl,f0,f1,f4,j,hj,f7,f5,f6⟩
 by_cases ZA:0<j
 ·obtain⟨m,rfl⟩:∃m,j=m+1:=⟨j-1,by omega⟩
  have e1:((m+1:Nat):Int)-1=(m:Nat):=by omega
  rw[e1]at f7
  have g1:=hc m (by omega)
  have g2:=hc (8+m) (by omega)
  have d1:(lo++hi).getD m 0=lo.getD m 0:=by rw[List.getD_eq_getElem?_getD,List.getElem?_append_left (by omega),List.getD_eq_getElem?_getD]
  have d2:(lo++hi).getD (8+m) 0=hi.getD m 0:=by rw[List.getD_eq_getElem?_getD,List.getElem?_append_right (by omega),hlo,Nat.add_sub_cancel_left,List.getD_eq_getElem?_getD]
  rw[d1]at g1
  rw[d2]at g2
  have x1:=wlo.getD m
  have x2:=whi.getD m
  have n1:YY (lo.drop m)=YY (lo.drop (m+1))*256+lo.getD m 0:=by rw[EP (l:=lo) (by omega)];omega
  have n2:YY (hi.drop m)=YY (hi.drop (m+1))*256+hi.getD m 0:=by rw[EP (l:=hi) (by omega)];omega
  have b1:=U0 (wlo.drop (m+1)) (n:=7) (by rw[List.length_drop];omega)
  have b2:=U0 (whi.drop (m+1)) (n:=7) (by rw[List.length_drop];omega)
  rw[show 256 ^ 7=72057594037927936 from rfl]at b1 b2
  have s1:=Zd6 _ b1
  have s2:=Zd6 _ b2
  have o1:=cH _ _ b1 x1
  have o2:=cH _ _ b2 x2
  have em:(8:Int)+(m:Int)=((8+m:Nat):Int):=by omega
  have k1:(m:Int)<(lo++hi).length:=by omega
  have k2:((8+m:Nat):Int)<(lo++hi).length:=by omega
  have k0:(0:Int)≤m:=by omega
  have Zme:bb<h.size:=Ut
  have m1:((lo.getD m 0:Nat):Int)%18446744073709551616=(lo.getD m 0:Nat):=by omega
  have m2:((hi.getD m 0:Nat):Int)%18446744073709551616=(hi.getD m 0:Nat):=by omega
  simp -implicitDefEqProofs only[go_sem,↓reduceIte,f0,f1,f4,f5,f6,f7,m1,m2,k0,k1,k2,em,Int.toNat_natCast,Zme,g1,g2,s1,s2,o1,o2]
  refine⟨⟨rfl,f0,f1,f4,m,by omega,rfl,?_,?_⟩,?_⟩
  ·rw[n1];rfl
  ·rw[n2];rfl
  ·simp only[vi,Zh,↓reduceIte,f7];omega
 ·obtain rfl:j=0:=by omega
  rw[List.drop_zero]at f5 f6
  have k0:¬(0:Int)≤((0:Nat):Int)-1:=by omega
  have b1:=U0 wlo (n:=8) (by omega)
  have b2:=U0 whi (n:=8) (by omega)
  rw[show 256 ^ 8=18446744073709551616 from rfl]at b1 b2
  have Mk:YY (lo++hi)=YY lo+18446744073709551616*YY hi:=by
   have:∀a b:List Nat,YY (a++b)=YY a+256 ^ a.length*YY b:=by
    intro a b
    induction a with
    | nil=>simp[YY]
    | cons x a ih=>simp only[List.cons_append,YY,ih,List.length_cons,Nat.pow_succ,Nat.mul_add,Nat.add_assoc];congr 2;rw[←Nat.mul_assoc,Nat.mul_comm 256]
   rw[this,hlo]
  rw[Mk]
  generalize YY lo=L at *
  generalize YY hi=M at *
  have q1:=T4 L b1
  have q2:Xa .u64 (L:Int) 26=((L/2 ^ 26:Nat):Int):=SF L 26 (by decide)
  have q3:=T4 (L/2 ^ 26) (by omega)
  have q4:Xa .u64 (L:Int) 52=((L/2 ^ 52:Nat):Int):=SF L 52 (by decide)
  have q5:Yz .u64 (M:Int) 12=((M*2 ^ 12%18446744073709551616:Nat):Int):=ML M 12 (by decide)
  have q6:=By (L/2 ^ 52) (M*2 ^ 12%18446744073709551616) (by omega) (by omega)
  rw[Nat.or_comm,JP (k:=12) (by omega) (by omega)]at q6
  have q7:=T4 (M*2 ^ 12%18446744073709551616+L/2 ^ 52) (by omega)
  have q8:Xa .u64 (M:Int) 14=((M/2 ^ 14:Nat):Int):=SF M 14 (by decide)
  have q9:=T4 (M/2 ^ 14) (by omega)
  have q10:Xa .u64 (M:Int) 40=((M/2 ^ 40:Nat):Int):=SF M 40 (by decide)
  have q11:Yz .u64 (top:Int) 24=((top*2 ^ 24%18446744073709551616:Nat):Int):=ML top 24 (by decide)
  have q12:=By (M/2 ^ 40) (top*2 ^ 24%18446744073709551616) (by omega) (by omega)
  rw[Nat.or_comm,JP (k:=24) (by omega) (by omega)]at q12
  simp -implicitDefEqProofs only[go_sem,↓reduceIte,f0,f1,f4,f5,f6,f7,k0,q1,q2,q3,q4,q5,q6,q7,q8,q9,q10,q11,q12]
  have w1:L%67108864=(L+18446744073709551616*M)%67108864:=by omega
  have w2:L/2 ^ 26%67108864=(L+18446744073709551616*M)/67108864%67108864:=by omega
  have w3:(M*2 ^ 12%18446744073709551616+L/2 ^ 52)%67108864=(L+18446744073709551616*M)/4503599627370496%67108864:=by omega
  have w4:M/2 ^ 14%67108864=(L+18446744073709551616*M)/302231454903657293676544%67108864:=by omega
  have w5:top*2 ^ 24%18446744073709551616+M/2 ^ 40=(L+18446744073709551616*M)/20282409603651670423947251286016+top*16777216:=by omega
  rw[w1,w2,w3,w4,w5]
  rfl
def RF (l:List Nat) (i:Nat):List Nat:=
 if i<4 then (l.set i (l.getD i 0%67108864)).set (i+1) ((l.set i (l.getD i 0%67108864)).getD (i+1) 0+l.getD i 0/67108864)
 else (l.set i (l.getD i 0%67108864)).set 0 ((l.set i (l.getD i 0%67108864)).getD 0 0+5*(l.getD i 0/67108864))
def Jj (l:List Nat):Nat→List Nat
 | 0=>l
 | i+1=>RF (Jj l i) i
def Yi (K:Nat) (l:List Nat):Prop:=∀x∈l,x<K
theorem Yi.getD {K:Nat} {l:List Nat} (w:Yi K l) (hK:0<K) (i:Nat):l.getD i 0<K:=by
 by_cases hi:i<l.length
 ·have e:l.getD i 0=l[i]:=by rw[List.getD_eq_getElem?_getD,List.getElem?_eq_getElem hi];rfl
  rw[e];exact w _ (List.getElem_mem hi)
 ·rw[getD_none hi];exact hK
theorem Yi.set {K:Nat} {l:List Nat} (w:Yi K l) (i x:Nat) (hx:x<K):Yi K (l.set i x):=by
 intro y hy
 rcases List.mem_or_eq_of_mem_set hy with h|h
 ·exact w y h
 ·rw[h];exact hx
theorem Yi.mono {K K':Nat} {l:List Nat} (w:Yi K l) (h:K≤K'):Yi K' l:=fun x hx=>Nat.lt_of_lt_of_le (w x hx) h
theorem ID (l:List Nat) (i:Nat):(RF l i).length=l.length:=by
 unfold RF;split<;>simp
theorem Rd (l:List Nat):∀i,(Jj l i).length=l.length
 | 0=>rfl
 | i+1=>by rw[Jj,ID,Rd l i]
theorem fR {K:Nat} {l:List Nat} {i:Nat} (w:Yi K l) (h0:67108864≤K) (hK:K≤2 ^ 62):Yi (K+2 ^ 39) (RF l i):=by
 have hx:=w.getD (by omega) i
 have w1:Yi K (l.set i (l.getD i 0%67108864)):=w.set i _ (by omega)
 have hy:=w1.getD (by omega) (i+1)
 have hz:=w1.getD (by omega) 0
 unfold RF
 split
 ·exact (w1.mono (by omega)).set _ _ (by omega)
 ·exact (w1.mono (by omega)).set _ _ (by omega)
theorem Hl {K:Nat} {l:List Nat} (w:Yi K l) (h0:67108864≤K) (hK:K≤2 ^ 61):∀i,i≤5→Yi (K+i*2 ^ 39) (Jj l i)
 | 0,_=>by rw[Nat.zero_mul,Nat.add_zero];exact w
 | i+1,hi=>by
  have:=fR (i:=i) (Hl w h0 hK i (by omega)) (by omega) (by omega)
  rw[Jj]
  exact this.mono (by omega)
theorem PN {l:List Nat} {i j x:Nat} (h:i≠j):(l.set i x).getD j 0=l.getD j 0:=by
 rw[List.getD_eq_getElem?_getD,List.getD_eq_getElem?_getD,List.getElem?_set_ne h]
def Yd (l:List Nat):Obj:=.cells (l.map uv++[]).toArray 211
theorem cI (x:Nat):Xa .u64 (x:Int) 26=((x/67108864:Nat):Int):=SF x 26 (by decide)
set_option maxHeartbeats 1000000 in
theorem Aq (T:World) (h:Hp) (bk:Nat) (l:List Nat) (hl:l.length=5) (w:Yi (2 ^ 61) l) (hb:h[bk]? = some (Yd l)) :
  Zd Tryz.prog T 143 #[.pointer (some ⟨bk,0,none⟩)] h fun v' h'=>∃a,a=Jj l 5∧h'=h.setIfInBounds bk (Yd ((a.set 1 (a.getD 1 0+a.getD 0 0/67108864)).set 0 (a.getD 0 0%67108864))):=by
 refine Zd.Zi (args:=[_]) Tryz.func143 rfl rfl rfl rfl ?_
 simp -implicitDefEqProofs only[go_sem,↓reduceIte]
 refine VS.ZU (fun F g=>F 0=.pointer (some ⟨bk,0,none⟩)∧∃i:Nat,i≤5∧F 4=.int .i64 i∧g=h.setIfInBounds bk (Yd (Jj l i)))
  (fun F _=>5-(vi (F 4)).toNat) rfl ⟨rfl,0,by omega,rfl,(Uc hb).symm⟩ ?_
 rintro F g ⟨f0,i,hi,f4,rfl⟩
 have hx:=ZO (o:=Yd (Jj l i)) hb
 have hw:=Hl w (by decide) (by decide) i hi
 have hw2:=hw.getD (by omega) i
 have hln:(Jj l i).length=5:=by rw[Rd,hl]
 by_cases ZA:i<5
 ·have ZH:(i:Int)<5:=by omega
  have YM:Jj l (i+1)=RF (Jj l i) i:=rfl
  obtain⟨a,ha⟩:=Zu (Jj l i)
  rw[←ha]at hx hw hw2 hln YM ⊢
  obtain⟨G,hG⟩:=Zu (h.setIfInBounds bk (Yd a))
  rw[←hG]at hx ⊢
  have g1:=ZJ hx (i:=i) (by omega)
  unfold uv at g1
  obtain⟨x,qq⟩:=Zu (a.getD i 0)
  rw[←qq]at g1 hw2
  have e1:=cI x
  have e2:=T4 x (by omega)
  simp -implicitDefEqProofs only[go_sem,↓reduceIte,f0,f4,ZH,Int.toNat_natCast,Nat.zero_add,g1,e1]
  refine VS.w (bk+1) [8] (.q 0 (.q 1 (.q 2 (.q 3 (.q 4 (.q 5 (.q 6 (.q 7 (.w 8 .nil))))))))) mixed (by kernel_rfl) ?_
  have c1:Jn _ ⟨bk,i,none⟩ (.int .u64 (x%67108864:Nat))=_:=ZZ (f:=uv) hx (i:=i) (by omega) (x%67108864) rfl
  have Qm:=ZO (o:=.cells ((a.set i (x%67108864)).map uv++[]).toArray 211) hx
  have ER:=hw.set i (x%67108864) (by omega)
  have UA:RF a i=if i<4 then (a.set i (x%67108864)).set (i+1) ((a.set i (x%67108864)).getD (i+1) 0+x/67108864) else (a.set i (x%67108864)).set 0 ((a.set i (x%67108864)).getD 0 0+5*(x/67108864)):=by rw[qq];rfl
  have mq:(a.set i (x%67108864)).length=5:=by rw[List.length_set,hln]
  obtain⟨a1,ha1⟩:=Zu (a.set i (x%67108864))
  rw[←ha1]at Qm ER UA mq c1
  obtain⟨G1,jo⟩:=Zu (G.setIfInBounds bk (.cells (a1.map uv++[]).toArray 211))
  rw[←jo]at Qm c1
  by_cases h4:i<4
  ·have zU:(i:Int)<4:=by omega
   rw[if_pos h4]at UA
   simp -implicitDefEqProofs only[go_sem,↓reduceIte,f0,f4,ZH,Int.toNat_natCast,Nat.zero_add,g1,e1,e2,c1,zU]
   refine VS.w (bk+1) [10] (.q 0 (.q 1 (.q 2 (.q 3 (.q 4 (.q 5 (.q 6 (.q 7 (.q 8 (.q 9 (.w 10 .nil))))))))))) mixed (by kernel_rfl) ?_
   have g2:=ZJ Qm (i:=i+1) (by omega)
   unfold uv at g2
   have hy:=ER.getD (by omega) (i+1)
   obtain⟨y,hyy⟩:=Zu (a1.getD (i+1) 0)
   rw[←hyy]at g2 hy UA
   have e3:(y:Int)+((x/67108864:Nat):Int)=((y+x/67108864:Nat):Int):=by omega
   have e4:((y+x/67108864:Nat):Int)%18446744073709551616=((y+x/67108864:Nat):Int):=by omega
   have ei:(i:Int)+1=((i+1:Nat):Int):=rfl
   have hi1:((i+1:Nat):Int)<5:=by omega
   have c2:Jn G1 ⟨bk,i+1,none⟩ (.int .u64 (y+x/67108864:Nat))=_:=ZZ (f:=uv) Qm (i:=i+1) (by omega) (y+x/67108864) rfl
   simp -implicitDefEqProofs only[go_sem,↓reduceIte,f0,f4,ZH,ei,hi1,Int.toNat_natCast,Nat.zero_add,g2,e3,e4,c2]
   refine⟨⟨f0,i+1,ZA,rfl,?_⟩,?_⟩
   ·rw[jo,set_set,hG,set_set,YM,UA];rfl
   ·simp only[vi,Zh,↓reduceIte,f4];omega
  ·have zU:¬(i:Int)<4:=by omega
   rw[if_neg h4]at UA
   simp -implicitDefEqProofs only[go_sem,↓reduceIte,f0,f4,ZH,Int.toNat_natCast,Nat.zero_add,g1,e1,e2,c1,zU]
   refine VS.w (bk+1) [9] (.q 0 (.q 1 (.q 2 (.q 3 (.q 4 (.q 5 (.q 6 (.q 7 (.q 8 (.w 9 .nil)))))))))) mixed (by kernel_rfl) ?_
   have g2:=ZJ Qm (i:=0) (by omega)
   unfold uv at g2
   have hy:=ER.getD (by omega) 0
   obtain⟨y,hyy⟩:=Zu (a1.getD 0 0)
   rw[←hyy]at g2 hy UA
   have e5:(5:Int)*((x/67108864:Nat):Int)=((5*(x/67108864):Nat):Int):=by omega
   have e6:((5*(x/67108864):Nat):Int)%18446744073709551616=((5*(x/67108864):Nat):Int):=by omega
   have e3:(y:Int)+((5*(x/67108864):Nat):Int)=((y+5*(x/67108864):Nat):Int):=by omega
   have e4:((y+5*(x/67108864):Nat):Int)%18446744073709551616=((y+5*(x/67108864):Nat):Int):=by omega
   have c2:Jn G1 ⟨bk,0,none⟩ (.int .u64 (y+5*(x/67108864):Nat))=_:=ZZ (f:=uv) Qm (i:=0) (by omega) (y+5*(x/67108864)) rfl
   simp -implicitDefEqProofs only[go_sem,↓reduceIte,f0,f4,ZH,Int.toNat_natCast,Nat.zero_add,g2,e3,e4,e5,e6,c2]
   refine⟨⟨f0,i+1,ZA,rfl,?_⟩,?_⟩
   ·rw[jo,set_set,hG,set_set,YM,UA];rfl
   ·simp only[vi,Zh,↓reduceIte,f4];omega
 ·have YE:¬(i:Int)<5:=by omega
  obtain rfl:i=5:=by omega
  obtain⟨a,ha⟩:=Zu (Jj l 5)
  rw[←ha]at hx hw hw2 hln ⊢
  obtain⟨G,hG⟩:=Zu (h.setIfInBounds bk (Yd a))
  rw[←hG]at hx ⊢
  have g0:=ZJ hx (i:=0) (by omega)
  have g1:=ZJ hx (i:=1) (by omega)
  have y0:=hw.getD (by omega) 0
  have y1:=hw.getD (by omega) 1
  unfold uv at g0 g1
  obtain⟨x,qq⟩:=Zu (a.getD 0 0)
  obtain⟨y,hyy⟩:=Zu (a.getD 1 0)
  rw[←qq]at g0 y0
  rw[←hyy]at g1 y1
  have e1:=cI x
  have e2:=T4 x (by omega)
  have e3:(y:Int)+((x/67108864:Nat):Int)=((y+x/67108864:Nat):Int):=by omega
  have e4:((y+x/67108864:Nat):Int)%18446744073709551616=((y+x/67108864:Nat):Int):=by omega
  have c5:((5:Nat):Int)=5:=rfl
  rw[c5]at f4 YE
  simp -implicitDefEqProofs only[go_sem,↓reduceIte,f0,f4,YE]
  refine VS.w (bk+1) [12] (.q 0 (.q 1 (.q 2 (.q 3 (.q 4 (.q 5 (.q 6 (.q 7 (.q 8 (.q 9 (.q 10 (.q 11 (.w 12 .nil))))))))))))) mixed (by kernel_rfl) ?_
  have c1:Jn G ⟨bk,1,none⟩ (.int .u64 (y+x/67108864:Nat))=_:=ZZ (f:=uv) hx (i:=1) (by omega) (y+x/67108864) rfl
  have Qm:=ZO (o:=.cells ((a.set 1 (y+x/67108864)).map uv++[]).toArray 211) hx
  have mq:(a.set 1 (y+x/67108864)).length=5:=by rw[List.length_set,hln]
  obtain⟨a1,ha1⟩:=Zu (a.set 1 (y+x/67108864))
  rw[←ha1]at Qm mq c1
  obtain⟨G1,jo⟩:=Zu (G.setIfInBounds bk (.cells (a1.map uv++[]).toArray 211))
  rw[←jo]at Qm c1
  have g2:=ZJ Qm (i:=0) (by omega)
  unfold uv at g2
  have g2e:a1.getD 0 0=x:=by rw[ha1,PN (by decide),←qq]
  rw[g2e]at g2
  simp -implicitDefEqProofs only[go_sem,↓reduceIte,f0,Nat.zero_add,g0,g1,e1,e3,e4,c1]
  refine VS.w (bk+1) [7] (.q 0 (.q 1 (.q 2 (.q 3 (.q 4 (.q 5 (.q 6 (.w 7 .nil)))))))) mixed (by kernel_rfl) ?_
  have c2:Jn G1 ⟨bk,0,none⟩ (.int .u64 (x%67108864:Nat))=_:=ZZ (f:=uv) Qm (i:=0) (by omega) (x%67108864) rfl
  simp -implicitDefEqProofs only[go_sem,↓reduceIte,f0,Nat.zero_add,g2,e2,c2]
  rw[jo,set_set,hG,set_set,ha1]
  exact⟨a,rfl,by rw[←qq,←hyy];rfl⟩
theorem getD_set_ne {l:List Nat} {i j x:Nat} (h:i≠j):(l.set i x).getD j 0=l.getD j 0:=by
 rw[List.getD_eq_getElem?_getD,List.getD_eq_getElem?_getD,List.getElem?_set_ne h]
def H16:Nat:=256 ^ 16
def Vz:Nat:=4*256 ^ 16-5
def Yk:List Nat→Nat
 | []=>0
 | x :: l=>x+67108864*Yk l
theorem PO:Vz=1361129467683753853853498429727072845819:=rfl
theorem Ar {a b c d e:Nat}:∃q r0 r1 r2 r3 r4:Nat,Jj [a,b,c,d,e] 5=[r0,r1,r2,r3,r4]∧Yk [a,b,c,d,e]=Yk [r0,r1,r2,r3,r4]+Vz*q∧r1<67108864∧r2<67108864∧r3<67108864∧r4<67108864∧r0≤67108863+5*q∧q≤(e+(d+(c+(b+a/67108864)/67108864)/67108864)/67108864)/67108864:=by
 refine⟨(e+(d+(c+(b+a/67108864)/67108864)/67108864)/67108864)/67108864,a%67108864+5*((e+(d+(c+(b+a/67108864)/67108864)/67108864)/67108864)/67108864),(b+a/67108864)%67108864,(c+(b+a/67108864)/67108864)%67108864,(d+(c+(b+a/67108864)/67108864)/67108864)%67108864,(e+(d+(c+(b+a/67108864)/67108864)/67108864)/67108864)%67108864,?_,?_,Nat.mod_lt _ (by decide),Nat.mod_lt _ (by decide),Nat.mod_lt _ (by decide),Nat.mod_lt _ (by decide),by omega,Nat.le_refl _⟩
 ·rfl
 ·simp only[Yk,PO]
  omega
theorem Mo {l:List Nat} (h:l.length=5):∃a b c d e,l=[a,b,c,d,e]:=by
 match l,h with
 | [a,b,c,d,e],_=>exact⟨a,b,c,d,e,rfl⟩
def Y3 (l:List Nat):List Nat:=((Jj l 5).set 1 ((Jj l 5).getD 1 0+(Jj l 5).getD 0 0/67108864)).set 0 ((Jj l 5).getD 0 0%67108864)
theorem Yi.Mo {K a b c d e:Nat} (ha:a<K) (hb:b<K) (hc:c<K) (hd:d<K) (he:e<K):Yi K [a,b,c,d,e]:=by
 intro x hx
 simp only[List.mem_cons,List.not_mem_nil,or_false]at hx
 rcases hx with rfl|rfl|rfl|rfl|rfl<;>assumption
theorem Yi.tD {K a b c d e:Nat} (w:Yi K [a,b,c,d,e]):a<K∧b<K∧c<K∧d<K∧e<K:=
 ⟨w a (by simp),w b (by simp),w c (by simp),w d (by simp),w e (by simp)⟩
theorem SG {l:List Nat} (hl:l.length=5) (w:Yi (2 ^ 61) l):(Y3 l).length=5∧Yi 134217728 (Y3 l)∧Yk (Y3 l)%Vz=Yk l%Vz∧Yk (Y3 l)<4*H16+2 ^ 44:=by
 obtain⟨a,b,c,d,e,rfl⟩:=Mo hl
 obtain⟨wa,wb,wc,wd,we⟩:=w.tD
 obtain⟨q,r0,r1,r2,r3,r4,hc,hv,h1,h2,h3,h4,h0,hq⟩:=@Ar a b c d e
 have hL:Y3 [a,b,c,d,e]=[r0%67108864,r1+r0/67108864,r2,r3,r4]:=by unfold Y3;rw[hc];rfl
 have hq':q<2 ^ 36:=by omega
 have hr:r0/67108864<8192:=by omega
 have Mk:Yk [r0%67108864,r1+r0/67108864,r2,r3,r4]=Yk [r0,r1,r2,r3,r4]:=by simp only[Yk];omega
 rw[hL]
 refine⟨rfl,Yi.Mo (by omega) (by omega) (by omega) (by omega) (by omega),?_,?_⟩
 ·rw[Mk,hv,Nat.add_mul_mod_self_left]
 ·rw[Mk]
  have e16:H16=340282366920938463463374607431768211456:=rfl
  rw[e16]
  have h0':r0<549755813888:=by omega
  clear hv hc hq hq' hL Mk h0
  simp only[Yk]
  omega
def Tv (a b:Nat) (out:List Nat) (i k:Nat):List Nat:=if i+k<5 then out.set (i+k) (out.getD (i+k) 0+a*b) else out.set (i+k-5) (out.getD (i+k-5) 0+5*a*b)
def T5 (a:Nat) (bs out:List Nat) (i:Nat):Nat→List Nat
 | 0=>out
 | k+1=>Tv a (bs.getD k 0) (T5 a bs out i k) i k
def UF (xs bs:List Nat):Nat→List Nat
 | 0=>[0,0,0,0,0]
 | i+1=>T5 (xs.getD i 0) bs (UF xs bs i) i 5
theorem GK (a b:Nat) (out:List Nat) (i k:Nat):(Tv a b out i k).length=out.length:=by unfold Tv;split<;>simp
theorem Wz (a:Nat) (bs out:List Nat) (i:Nat):∀k,(T5 a bs out i k).length=out.length
 | 0=>rfl
 | k+1=>by rw[T5,GK,Wz a bs out i k]
theorem WB (xs bs:List Nat):∀i,(UF xs bs i).length=5
 | 0=>rfl
 | i+1=>by rw[UF,Wz,WB xs bs i]
theorem OL {a b:Nat} (ha:a<268435456) (hb:b<67108864):a*b<18014398509481984:=
 Nat.lt_of_le_of_lt (Nat.mul_le_mul (Nat.le_of_lt_succ (show a<268435455+1 from ha)) (Nat.le_of_lt_succ (show b<67108863+1 from hb))) (by decide)
theorem LW {a b:Nat} (ha:a<268435456) (hb:b<67108864):5*a*b<90071992547409920:=by
 have:=OL ha hb
 rw[Nat.mul_assoc];omega
theorem mJ {K a b:Nat} {out:List Nat} {i k:Nat} (w:Yi K out) (hK:0<K) (ha:a<268435456) (hb:b<67108864):Yi (K+90071992547409920) (Tv a b out i k):=by
 have h1:=OL ha hb
 have h2:=LW ha hb
 have q1:=w.getD hK (i+k)
 have q2:=w.getD hK (i+k-5)
 unfold Tv
 split
 ·exact (w.mono (by omega)).set _ _ (by omega)
 ·exact (w.mono (by omega)).set _ _ (by omega)
theorem GL {K a:Nat} {bs out:List Nat} {i:Nat} (w:Yi K out) (hK:0<K) (ha:a<268435456) (hb:Yi 67108864 bs):∀k,Yi (K+k*90071992547409920) (T5 a bs out i k)
 | 0=>by rw[Nat.zero_mul];exact w
 | k+1=>by
  rw[T5,Nat.add_mul,Nat.one_mul,←Nat.add_assoc]
  exact mJ (GL w hK ha hb k) (by omega) ha (hb.getD (by omega) k)
theorem GM {xs bs:List Nat} (ha:Yi 268435456 xs) (hb:Yi 67108864 bs):∀i,Yi (1+i*450359962737049600) (UF xs bs i)
 | 0=>Yi.Mo (by omega) (by omega) (by omega) (by omega) (by omega)
 | i+1=>by
  rw[UF]
  exact (GL (GM ha hb i) (by omega) (ha.getD (by omega) i) hb 5).mono (by omega)
theorem OM:∀{l:List Nat} {i x:Nat},i<l.length→Yk (l.set i (l.getD i 0+x))=Yk l+x*67108864 ^ i
 | y :: l,0,x,_=>by simp only[List.set_cons_zero,List.getD_cons_zero,Yk,Nat.pow_zero,Nat.mul_one];omega
 | y :: l,i+1,x,h=>by
  simp only[List.set_cons_succ,List.getD_cons_succ,Yk]
  rw[OM (l:=l) (i:=i) (x:=x) (by simpa using h),Nat.pow_succ,←Nat.mul_assoc]
  omega
theorem X5:67108864 ^ 5=Vz+5:=rfl
theorem Zeb (v a b y P:Nat):(v+5*a*b*y)%P=(v+a*b*(y*(P+5)))%P:=by
 have e:a*b*(y*(P+5))=5*a*b*y+P*(a*b*y):=by
  rw[Nat.mul_add,Nat.mul_add,Nat.add_comm]
  congr 1
  ·rw[Nat.mul_comm y 5,←Nat.mul_assoc,Nat.mul_comm (a*b) 5,←Nat.mul_assoc 5 a b]
  ·rw[Nat.mul_comm y P,←Nat.mul_assoc,Nat.mul_comm (a*b) P,Nat.mul_assoc]
 rw[e,←Nat.add_assoc,Nat.add_mul_mod_self_left]
theorem fS {a b:Nat} {out:List Nat} {i k:Nat} (hl:out.length=5) (hi:i<5) (hk:k<5):Yk (Tv a b out i k)%Vz=(Yk out+a*b*67108864 ^ (i+k))%Vz:=by
 unfold Tv
 split
 ·rename_i h
  rw[OM (by omega)]
 ·rename_i h
  rw[OM (by omega)]
  obtain⟨j,hj⟩:∃j,i+k=j+5:=⟨i+k-5,by omega⟩
  rw[hj,Nat.add_sub_cancel,Nat.pow_add,X5]
  exact Zeb _ _ _ _ _
def tE (bs:List Nat):Nat→Nat
 | 0=>0
 | k+1=>tE bs k+bs.getD k 0*67108864 ^ k
theorem ES {bs:List Nat} (h:bs.length=5):tE bs 5=Yk bs:=by
 obtain⟨a,b,c,d,e,rfl⟩:=Mo h
 simp only[tE,Yk,List.getD_cons_zero,List.getD_cons_succ]
 omega
theorem ET {a:Nat} {bs out:List Nat} {i:Nat} (hl:out.length=5) (hi:i<5):∀k,k≤5→Yk (T5 a bs out i k)%Vz=(Yk out+a*67108864 ^ i*tE bs k)%Vz
 | 0,_=>by rw[T5,tE,Nat.mul_zero,Nat.add_zero]
 | k+1,hk=>by
  rw[T5,fS (by rw[Wz,hl]) hi (by omega),Nat.add_mod,ET hl hi k (by omega),←Nat.add_mod,tE,Nat.mul_add,←Nat.add_assoc,Nat.pow_add]
  congr 2
  rw[Nat.mul_assoc,Nat.mul_assoc a]
  congr 1
  rw[←Nat.mul_assoc,Nat.mul_comm (bs.getD k 0),Nat.mul_assoc]
theorem EU {xs bs:List Nat} (hb:bs.length=5):∀i,i≤5→Yk (UF xs bs i)%Vz=(tE xs i*Yk bs)%Vz
 | 0,_=>by rw[tE,Nat.zero_mul];rfl
 | i+1,hi=>by
  rw[UF,ET (WB xs bs i) (by omega) 5 (by omega),Nat.add_mod,EU hb i (by omega),←Nat.add_mod,ES hb,tE,Nat.add_mul]
theorem Hm {xs bs:List Nat} (ha:xs.length=5) (hb:bs.length=5) (wa:Yi 268435456 xs) (wb:Yi 67108864 bs) :
  Yi (2 ^ 61) (UF xs bs 5)∧(UF xs bs 5).length=5∧Yk (UF xs bs 5)%Vz=Yk xs*Yk bs%Vz:=
 ⟨(GM wa wb 5).mono (by decide),WB xs bs 5,by rw[EU hb 5 (by omega),ES ha]⟩
def SR (m:List Nat):Nat→List Nat
 | 0=>m.set 0 (m.getD 0 0+5)
 | i+1=>((SR m i).set (i+1) ((SR m i).getD (i+1) 0+(SR m i).getD i 0/67108864)).set i ((SR m i).getD i 0%67108864)
theorem LX (m:List Nat):∀i,(SR m i).length=m.length
 | 0=>by simp[SR]
 | i+1=>by rw[SR,List.length_set,List.length_set,LX m i]
theorem mK {m:List Nat} (w:Yi 134217728 m):∀i,i≤10→Yi (134217728+6+i*8) (SR m i)
 | 0,_=>(w.mono (by omega)).set _ _ (by have:=w.getD (by omega) 0;omega)
 | i+1,hi=>by
  have h:=mK w i (by omega)
  have q1:=h.getD (by omega) (i+1)
  have q2:=h.getD (by omega) i
  rw[SR]
  exact ((h.mono (by omega)).set _ _ (by omega)).set _ _ (by omega)
def T6 (m:List Nat):List Nat:=if (SR m 4).getD 4 0/67108864=0 then m else (SR m 4).set 4 ((SR m 4).getD 4 0%67108864)
theorem Zmh {A B C P:Nat} (h1:A+5=B) (h2:B=C) (h3:C<P+5):A<P:=by omega
theorem Zmi {A B C q:Nat} (h1:A+5=B) (h2:B=C+1361129467683753853853498429727072845824*q) (hv:A<1361129467683753853853498429727072845824+2 ^ 44) (h0:¬q=0):q=1:=by omega
theorem Zmj {A B C P:Nat} (h1:A+5=B) (h2:B=C+(P+5)) (hv:A<P+5+2 ^ 44) (hP:2 ^ 45<P):A=C+P*1∧C<P:=by omega
theorem fU {m:List Nat} (hl:m.length=5) (w:Yi 134217728 m) (hv:Yk m<4*H16+2 ^ 44):(T6 m).length=5∧Yi 134217728 (T6 m)∧Yk (T6 m)=Yk m%Vz:=by
 obtain⟨a,b,c,d,e,rfl⟩:=Mo hl
 obtain⟨wa,wb,wc,wd,we⟩:=w.tD
 obtain⟨t0,ht0⟩:∃t,t=a+5:=⟨_,rfl⟩
 obtain⟨t1,ht1⟩:∃t,t=b+t0/67108864:=⟨_,rfl⟩
 obtain⟨t2,ht2⟩:∃t,t=c+t1/67108864:=⟨_,rfl⟩
 obtain⟨t3,ht3⟩:∃t,t=d+t2/67108864:=⟨_,rfl⟩
 obtain⟨t4,ht4⟩:∃t,t=e+t3/67108864:=⟨_,rfl⟩
 have hY:SR [a,b,c,d,e] 4=[t0%67108864,t1%67108864,t2%67108864,t3%67108864,t4]:=by rw[ht4,ht3,ht2,ht1,ht0];rfl
 have hW:T6 [a,b,c,d,e]=if t4/67108864=0 then [a,b,c,d,e] else [t0%67108864,t1%67108864,t2%67108864,t3%67108864,t4%67108864]:=by unfold T6;rw[hY];rfl
 have e16:H16=340282366920938463463374607431768211456:=rfl
 rw[hW]
 have hs:Yk [a,b,c,d,e]+5=Yk [t0%67108864,t1%67108864,t2%67108864,t3%67108864,t4]:=by simp only[Yk];omega
 have hx:Yk [t0%67108864,t1%67108864,t2%67108864,t3%67108864,t4]=Yk [t0%67108864,t1%67108864,t2%67108864,t3%67108864,t4%67108864]+(Vz+5)*(t4/67108864):=by rw[PO];simp only[Yk];omega
 have hb4:Yk [t0%67108864,t1%67108864,t2%67108864,t3%67108864,t4%67108864]<Vz+5:=by rw[PO];simp only[Yk];omega
 have hH:4*H16=Vz+5:=rfl
 rw[hH]at hv
 split
 ·rename_i h0
  refine⟨rfl,w,?_⟩
  rw[h0,Nat.mul_zero,Nat.add_zero]at hx
  rw[Nat.mod_eq_of_lt (Zmh hs hx hb4)]
 ·rename_i h0
  refine⟨rfl,Yi.Mo (by omega) (by omega) (by omega) (by omega) (by omega),?_⟩
  have h1:t4/67108864=1:=by
   rw[PO]at hx hv
   exact Zmi hs hx hv h0
  rw[h1,Nat.mul_one]at hx
  obtain⟨hk,hC⟩:=Zmj hs hx hv (by rw[PO];decide)
  rw[hk,Nat.add_mul_mod_self_left,Nat.mod_eq_of_lt hC]
theorem EV (T:World) (h:Hp) (bk:Nat) (l:List Nat) (hl:l.length=5) (w:Yi (2 ^ 61) l) (hb:h[bk]? = some (Yd l)) :
  Zd Tryz.prog T 143 #[.pointer (some ⟨bk,0,none⟩)] h fun v' h'=>h'=h.setIfInBounds bk (Yd (Y3 l)):=
 (Aq T h bk l hl w hb).mono fun v' h' ⟨a,ha,hh⟩=>by subst ha;exact hh
theorem GN {l:List Nat} {i:Nat} (hi:i<l.length):nth (l.map uv) i=some (.int .u64 (l.getD i 0:Nat)):=by
 rw[Yj,List.getElem?_map,List.getElem?_eq_getElem hi,List.getD_eq_getElem?_getD,List.getElem?_eq_getElem hi];rfl
theorem T7 {g:Hp} {b:Nat} {l:List Nat} (hl:l.length=5) (hx:g[b]? = some (Yd l)):rd g ⟨b,0,none⟩ 5=some (l.map uv):=by
 unfold Yd at hx
 rw[List.append_nil]at hx
 exact Zo hx (by simpa using hl)
set_option maxHeartbeats 1000000 in
theorem EW (T:World) (h:Hp) (xs bs:List Nat) (ha:xs.length=5) (hb:bs.length=5) (wa:Yi 268435456 xs) (wb:Yi 67108864 bs) :
  Zd Tryz.prog T 119 #[.agg (xs.map uv).toArray,.agg (bs.map uv).toArray] h fun v' h'=>v'=.agg ((Y3 (UF xs bs 5)).map uv).toArray∧Ze h.size h h':=by
 have la:(xs.map uv).length=5:=by simpa using ha
 have lb:(bs.map uv).length=5:=by simpa using hb
 have ta:(xs.map uv).take 5=xs.map uv:=List.take_of_length_le (by omega)
 refine Zd.Zi (args:=[_,_]) Tryz.func119 rfl rfl rfl rfl ?_
 simp -implicitDefEqProofs only[go_sem,↓reduceIte,la,lb,ta]
 obtain⟨H,hH⟩:=Zu (((((h.push (.cells (xs.map uv).toArray 211)).push (.cells (bs.map uv).toArray 211)).push (.cells #[.int .u64 0,.int .u64 0,.int .u64 0,.int .u64 0,.int .u64 0] 211)).push (.cells #[.int .u64 0,.int .u64 0,.int .u64 0,.int .u64 0,.int .u64 0] 211)):Hp)
 have HB:Ze h.size h H:=by rw[hH];exact (((Ze.push (Nat.le_refl _) _).Yg (by simp) _).Yg (by simp;omega) _).Yg (by simp;omega) _
 have Hs:H.size=h.size+1+1+1+1:=by rw[hH];simp
 have H1:H[h.size+1]? = some (Yd bs):=by
  rw[hH,Zq (by simp),Zq (by simp)]
  have:=Zb (h:=h.push (.cells (xs.map uv).toArray 211)) (o:=.cells (bs.map uv).toArray 211)
  rw[Array.size_push]at this
  rw[this];unfold Yd;rw[List.append_nil]
 have H3:H[h.size+1+1+1]? = some (Yd (UF xs bs 0)):=by
  have:=Zb (h:=(((h.push (.cells (xs.map uv).toArray 211)).push (.cells (bs.map uv).toArray 211)).push (.cells #[.int .u64 0,.int .u64 0,.int .u64 0,.int .u64 0,.int .u64 0] 211))) (o:=.cells #[.int .u64 0,.int .u64 0,.int .u64 0,.int .u64 0,.int .u64 0] 211)
  rw[Array.size_push,Array.size_push,Array.size_push]at this
  rw[hH,this];rfl
 have H2:H[h.size+1+1]? = some (Yd [0,0,0,0,0]):=by
  have:=Zb (h:=((h.push (.cells (xs.map uv).toArray 211)).push (.cells (bs.map uv).toArray 211))) (o:=.cells #[.int .u64 0,.int .u64 0,.int .u64 0,.int .u64 0,.int .u64 0] 211)
  rw[Array.size_push,Array.size_push]at this
  rw[hH,Zq (by simp),this];rfl
 rw[←hH]
 clear hH
 obtain⟨bo,hbo⟩:=Zu (h.size+1+1+1)
 obtain⟨br,hbr⟩:=Zu (h.size+1+1)
 obtain⟨bb,Ut⟩:=Zu (h.size+1)
 rw[←hbo]at H3 ⊢
 rw[←hbr]at H2 ⊢
 rw[←Ut]at H1 ⊢
 refine VS.ZU (fun F g=>F 3=.pointer (some ⟨bb,0,none⟩)∧F 4=.pointer (some ⟨br,0,none⟩)∧F 5=.pointer (some ⟨bo,0,none⟩)∧F 10=.agg (xs.map uv).toArray∧∃i:Nat,i≤5∧F 11=.int .i64 i∧g=H.setIfInBounds bo (Yd (UF xs bs i)))
  (fun F _=>5-(vi (F 11)).toNat) rfl ⟨rfl,rfl,rfl,rfl,0,by omega,rfl,(Uc H3).symm⟩ ?_
 rintro F g ⟨f3,f4,f5,f10,i,hi,f11,rfl⟩
 by_cases ZA:i<5
 ·have ZH:(i:Int)<5:=by omega
  have n1:=GN (l:=xs) (i:=i) (by omega)
  have H1':(H.setIfInBounds bo (Yd (UF xs bs i)))[bb]? = some (Yd bs):=by rw[Array.getElem?_setIfInBounds,if_neg (by omega)];exact H1
  have r1:=T7 hb H1'
  have wA:=wa.getD (by omega) i
  have EX:UF xs bs (i+1)=T5 (xs.getD i 0) bs (UF xs bs i) i 5:=rfl
  obtain⟨a,hax⟩:=Zu (xs.getD i 0)
  rw[←hax]at n1 wA EX
  simp -implicitDefEqProofs only[go_sem,↓reduceIte,f3,f4,f5,f10,f11,ZH,Int.toNat_natCast,n1,r1]
  have wO:Yi (1+i*450359962737049600) (UF xs bs i):=GM wa wb i
  have lO:=WB xs bs i
  obtain⟨o,ho⟩:=Zu (UF xs bs i)
  rw[←ho]at EX wO lO ⊢
  refine VS.ZU (fun F g=>F 3=.pointer (some ⟨bb,0,none⟩)∧F 4=.pointer (some ⟨br,0,none⟩)∧F 5=.pointer (some ⟨bo,0,none⟩)∧F 10=.agg (xs.map uv).toArray∧F 11=.int .i64 i∧F 6=.int .i64 i∧F 7=.int .u64 a∧F 15=.agg (bs.map uv).toArray∧∃k:Nat,k≤5∧F 16=.int .i64 k∧g=H.setIfInBounds bo (Yd (T5 a bs o i k)))
   (fun F _=>5-(vi (F 16)).toNat) rfl ⟨f3,f4,f5,f10,f11,rfl,rfl,rfl,0,by omega,rfl,rfl⟩ ?_
  clear f3 f4 f5 f10 f11 F
  rintro F g ⟨f3,f4,f5,f10,f11,f6,f7,f15,k,hk,f16,rfl⟩
  by_cases hlk:k<5
  ·have Zed:(k:Int)<5:=by omega
   have n2:=GN (l:=bs) (i:=k) (by omega)
   have wB:=wb.getD (by omega) k
   have Tw:T5 a bs o i (k+1)=Tv a (bs.getD k 0) (T5 a bs o i k) i k:=rfl
   obtain⟨b,tj⟩:=Zu (bs.getD k 0)
   rw[←tj]at n2 wB Tw
   have wR:=GL wO (by omega) wA wb (i:=i) k
   have lR:(T5 a bs o i k).length=5:=by rw[Wz,lO]
   have hx:(H.setIfInBounds bo (Yd (T5 a bs o i k)))[bo]? = some (Yd (T5 a bs o i k)):=ZO H3
   have hp:=OL wA wB
   have hp5:=LW wA wB
   obtain⟨r,hr⟩:=Zu (T5 a bs o i k)
   rw[←hr]at Tw wR lR hx ⊢
   obtain⟨G,hG⟩:=Zu (H.setIfInBounds bo (Yd r))
   rw[←hG]at hx ⊢
   have eik:(i:Int)+(k:Int)=((i+k:Nat):Int):=rfl
   by_cases h5:i+k<5
   ·have zW:((i+k:Nat):Int)<5:=by omega
    have g1:=ZJ hx (i:=i+k) (by omega)
    have y1:=wR.getD (by omega) (i+k)
    unfold uv at g1
    have hs:Tv a b r i k=r.set (i+k) (r.getD (i+k) 0+a*b):=by unfold Tv;rw[if_pos h5]
    rw[hs]at Tw
    obtain⟨y,hy⟩:=Zu (r.getD (i+k) 0)
    rw[←hy]at g1 y1 Tw
    have e1:(a:Int)*(b:Int)=((a*b:Nat):Int):=(Int.natCast_mul a b).symm
    have e2:((a*b:Nat):Int)%18446744073709551616=((a*b:Nat):Int):=by omega
    obtain⟨p,hp'⟩:=Zu (a*b)
    rw[←hp']at e1 e2 hp Tw
    have e3:(y:Int)+(p:Int)=((y+p:Nat):Int):=rfl
    have e4:((y+p:Nat):Int)%18446744073709551616=((y+p:Nat):Int):=by omega
    have c1:Jn G ⟨bo,i+k,none⟩ (.int .u64 (y+p:Nat))=_:=ZZ (f:=uv) hx (i:=i+k) (by omega) (y+p) rfl
    simp -implicitDefEqProofs only[go_sem,↓reduceIte,f3,f4,f5,f6,f7,f10,f11,f15,f16,Zed,Int.toNat_natCast,n2,eik,zW,g1,e1,e2,e3,e4,c1]
    refine⟨⟨f3,f4,f5,f10,f11,f6,f7,f15,k+1,hlk,rfl,?_⟩,?_⟩
    ·rw[hG,set_set,Tw];rfl
    ·simp only[vi,Zh,↓reduceIte,f16];omega
   ·have zW:¬((i+k:Nat):Int)<5:=by omega
    have g1:=ZJ hx (i:=i+k-5) (by omega)
    have y1:=wR.getD (by omega) (i+k-5)
    unfold uv at g1
    have hs:Tv a b r i k=r.set (i+k-5) (r.getD (i+k-5) 0+5*a*b):=by unfold Tv;rw[if_neg h5]
    rw[hs]at Tw
    obtain⟨y,hy⟩:=Zu (r.getD (i+k-5) 0)
    rw[←hy]at g1 y1 Tw
    have e0:(5:Int)*(a:Int)=((5*a:Nat):Int):=rfl
    have qs:((5*a:Nat):Int)%18446744073709551616=((5*a:Nat):Int):=by omega
    have e1:((5*a:Nat):Int)*(b:Int)=((5*a*b:Nat):Int):=(Int.natCast_mul (5*a) b).symm
    have e2:((5*a*b:Nat):Int)%18446744073709551616=((5*a*b:Nat):Int):=by omega
    obtain⟨p,hp'⟩:=Zu (5*a*b)
    rw[←hp']at e1 e2 hp5 Tw
    have e3:(y:Int)+(p:Int)=((y+p:Nat):Int):=rfl
    have e4:((y+p:Nat):Int)%18446744073709551616=((y+p:Nat):Int):=by omega
    have e5:((i+k:Nat):Int)-5=((i+k-5:Nat):Int):=by omega
    have e6:((i+k-5:Nat):Int)<5:=by omega
    have c1:Jn G ⟨bo,i+k-5,none⟩ (.int .u64 (y+p:Nat))=_:=ZZ (f:=uv) hx (i:=i+k-5) (by omega) (y+p) rfl
    simp -implicitDefEqProofs only[go_sem,↓reduceIte,f3,f4,f5,f6,f7,f10,f11,f15,f16,Zed,Int.toNat_natCast,n2,eik,zW,g1,e0,qs,e1,e2,e3,e4,e5,e6,c1]
    refine⟨⟨f3,f4,f5,f10,f11,f6,f7,f15,k+1,hlk,rfl,?_⟩,?_⟩
    ·rw[hG,set_set,Tw];rfl
    ·simp only[vi,Zh,↓reduceIte,f16];omega
  ·have YE:¬(k:Int)<5:=by omega
   obtain rfl:k=5:=by omega
   have c5:((5:Nat):Int)=5:=rfl
   rw[c5]at f16 YE
   simp -implicitDefEqProofs only[go_sem,↓reduceIte,f3,f4,f5,f10,f11,f16,YE]
   refine⟨⟨f3,f4,f5,f10,i+1,ZA,rfl,?_⟩,?_⟩
   ·rw[EX]
   ·simp only[vi,Zh,↓reduceIte,f11];omega
 ·have YE:¬(i:Int)<5:=by omega
  obtain rfl:i=5:=by omega
  have c5:((5:Nat):Int)=5:=rfl
  rw[c5]at f11 YE
  have hx:(H.setIfInBounds bo (Yd (UF xs bs 5)))[bo]? = some (Yd (UF xs bs 5)):=ZO H3
  have Rz:(H.setIfInBounds bo (Yd (UF xs bs 5)))[br]? = some (Yd [0,0,0,0,0]):=by rw[Array.getElem?_setIfInBounds,if_neg (by omega)];exact H2
  have zX:Ze h.size h (H.setIfInBounds bo (Yd (UF xs bs 5))):=HB.Zk (by omega) _
  obtain⟨w1,w2,w3⟩:=Hm ha hb wa wb
  obtain⟨o,ho⟩:=Zu (UF xs bs 5)
  rw[←ho]at hx Rz zX w1 w2 ⊢
  generalize H.setIfInBounds bo (Yd o)=G at *
  simp -implicitDefEqProofs only[go_sem,↓reduceIte,f3,f4,f5,f10,f11,YE]
  refine (EV T G bo o w2 w1 hx).use ?_
  rintro _ _ rfl
  obtain⟨m1,m2,m3⟩:=SG w2 w1
  have As:(G.setIfInBounds bo (Yd (Y3 o)))[bo]? = some (Yd (Y3 o)):=ZO hx
  have CJ:(G.setIfInBounds bo (Yd (Y3 o)))[br]? = some (Yd [0,0,0,0,0]):=by rw[Array.getElem?_setIfInBounds,if_neg (by omega)];exact Rz
  have HB3:Ze h.size h (G.setIfInBounds bo (Yd (Y3 o))):=zX.Zk (by omega) _
  generalize G.setIfInBounds bo (Yd (Y3 o))=G2 at *
  have r3:=T7 m1 As
  have lc:((Y3 o).map uv).length=5:=by simpa using m1
  have w4:=ZP (h:=G2) (b:=br) (l:=([0,0,0,0,0].map uv)) (by unfold Yd at CJ;rw[List.append_nil]at CJ;exact CJ) 0 ((Y3 o).map uv)
  have ho4:((Y3 o).map uv).all Z5=true:=by simp[uv,Z5]
  rw[if_pos ⟨by simp[lc],ho4⟩,ZK (by simp[lc])]at w4
  have tc:((Y3 o).map uv).take 5=(Y3 o).map uv:=List.take_of_length_le (by omega)
  have hlr:=Za CJ
  simp -implicitDefEqProofs only[go_sem,↓reduceIte,f3,f4,f5,r3,w4,lc,tc,hlr]
  exact HB3.Zk (by omega) _
theorem EY (T:World) (h:Hp) (xs:List Nat) (ha:xs.length=5) (wa:Yi 268435456 xs) :
  Zd Tryz.prog T 120 #[.agg (xs.map uv).toArray] h fun v' h'=>v'=.agg ((T6 (Y3 xs)).map uv).toArray∧Ze h.size h h':=by
 have la:(xs.map uv).length=5:=by simpa using ha
 refine Zd.Zi (args:=[_]) Tryz.func120 rfl rfl rfl rfl ?_
 simp -implicitDefEqProofs only[go_sem,↓reduceIte,la]
 obtain⟨H,hH⟩:=Zu (((h.push (.cells (xs.map uv).toArray 211)).push (.cells #[.int .u64 0,.int .u64 0,.int .u64 0,.int .u64 0,.int .u64 0] 211)):Hp)
 have HB:Ze h.size h H:=by rw[hH];exact ((Ze.push (Nat.le_refl _) _).Yg (by simp) _)
 have Hs:H.size=h.size+1+1:=by rw[hH];simp
 have H0:H[h.size]? = some (Yd xs):=by
  rw[hH,Zq (by simp),Zb];unfold Yd;rw[List.append_nil]
 have H1:H[h.size+1]? = some (Yd [0,0,0,0,0]):=by
  have:=Zb (h:=(h.push (.cells (xs.map uv).toArray 211))) (o:=.cells #[.int .u64 0,.int .u64 0,.int .u64 0,.int .u64 0,.int .u64 0] 211)
  rw[Array.size_push]at this
  rw[hH,this];rfl
 rw[←hH]
 clear hH
 refine (EV T H h.size xs ha (wa.mono (by decide)) H0).use ?_
 rintro _ _ rfl
 obtain⟨m1,m2,m3,m4⟩:=SG ha (wa.mono (by decide))
 have Tb:(H.setIfInBounds h.size (Yd (Y3 xs)))[h.size]? = some (Yd (Y3 xs)):=ZO H0
 have Qm:(H.setIfInBounds h.size (Yd (Y3 xs)))[h.size+1]? = some (Yd [0,0,0,0,0]):=by rw[Array.getElem?_setIfInBounds,if_neg (by omega)];exact H1
 have zX:Ze h.size h (H.setIfInBounds h.size (Yd (Y3 xs))):=HB.Zk (Nat.le_refl _) _
 have Hs2:(H.setIfInBounds h.size (Yd (Y3 xs))).size=h.size+1+1:=by rw[Array.size_setIfInBounds];exact Hs
 obtain⟨m,hm⟩:=Zu (Y3 xs)
 rw[←hm]at Tb Qm zX Hs2 m1 m2 m3 m4 ⊢
 generalize H.setIfInBounds h.size (Yd m)=G at *
 have r0:=T7 m1 Tb
 have lm:(m.map uv).length=5:=by simpa using m1
 have hom:(m.map uv).all Z5=true:=by simp[uv,Z5]
 have lp:Yl [Value.int .u64 0,.int .u64 0,.int .u64 0,.int .u64 0,.int .u64 0] 0 (m.map uv)=m.map uv:=ZK lm
 have n0:=GN (l:=m) (i:=0) (by omega)
 have y0:=m2.getD (by omega) 0
 have hw0:SR m 0=m.set 0 (m.getD 0 0+5):=rfl
 obtain⟨y,hy⟩:=Zu (m.getD 0 0)
 rw[←hy]at n0 y0 hw0
 have e1:(y:Int)+5=((y+5:Nat):Int):=rfl
 have e2:((y+5:Nat):Int)%18446744073709551616=((y+5:Nat):Int):=by omega
 simp -implicitDefEqProofs only[go_sem,↓reduceIte,r0,lm,hom,Hs2,lp,n0,e1,e2]
 have hms:(m.map uv).set 0 (.int .u64 (y+5:Nat))=(m.set 0 (y+5)).map uv:=by rw[List.map_set];rfl
 rw[hms,←hw0]
 obtain⟨J,hJ⟩:=Zu (G.push (.cells ((SR m 0).map uv).toArray 211))
 have J3:J[h.size+1+1]? = some (Yd (SR m 0)):=by
  rw[hJ,←Hs2,Zb];unfold Yd;rw[List.append_nil]
 have J0:J[h.size]? = some (Yd m):=by rw[hJ,Zq (by omega)];exact Tb
 have J1:J[h.size+1]? = some (Yd [0,0,0,0,0]):=by rw[hJ,Zq (by omega)];exact Qm
 have JB:Ze h.size h J:=by rw[hJ];exact zX.Yg (by omega) _
 rw[←hJ]
 clear hJ
 obtain⟨b3,hb3⟩:∃b,b=h.size+1+1:=⟨_,rfl⟩
 obtain⟨b2,Ie⟩:∃b,b=h.size+1:=⟨_,rfl⟩
 rw[←hb3]at J3 ⊢
 rw[←Ie]at J1 ⊢
 refine VS.ZU (fun F g=>F 1=.pointer (some ⟨h.size,0,none⟩)∧F 2=.pointer (some ⟨b2,0,none⟩)∧F 3=.pointer (some ⟨b3,0,none⟩)∧∃i:Nat,i≤4∧F 11=.int .i64 i∧g=J.setIfInBounds b3 (Yd (SR m i)))
  (fun F _=>4-(vi (F 11)).toNat) rfl ⟨rfl,rfl,rfl,0,by omega,rfl,(Uc J3).symm⟩ ?_
 rintro F g ⟨f1,f2,f3,i,hi,f11,rfl⟩
 have hx:(J.setIfInBounds b3 (Yd (SR m i)))[b3]? = some (Yd (SR m i)):=ZO J3
 have wY:=mK m2 i (by omega)
 have lY:(SR m i).length=5:=by rw[LX,m1]
 by_cases ZA:i<4
 ·have ZH:(i:Int)<4:=by omega
  have YM:SR m (i+1)=((SR m i).set (i+1) ((SR m i).getD (i+1) 0+(SR m i).getD i 0/67108864)).set i ((SR m i).getD i 0%67108864):=rfl
  obtain⟨r,hr⟩:=Zu (SR m i)
  rw[←hr]at hx wY lY YM ⊢
  obtain⟨G1,jo⟩:=Zu (J.setIfInBounds b3 (Yd r))
  rw[←jo]at hx ⊢
  have g1:=ZJ hx (i:=i+1) (by omega)
  have g0:=ZJ hx (i:=i) (by omega)
  have q1:=wY.getD (by omega) (i+1)
  have q0:=wY.getD (by omega) i
  unfold uv at g0 g1
  obtain⟨a,hax⟩:=Zu (r.getD i 0)
  obtain⟨b,tj⟩:=Zu (r.getD (i+1) 0)
  rw[←hax]at g0 q0 YM
  rw[←tj]at g1 q1 YM
  have s1:=cI a
  have s2:=T4 a (by omega)
  have t1:(b:Int)+((a/67108864:Nat):Int)=((b+a/67108864:Nat):Int):=rfl
  have t2:((b+a/67108864:Nat):Int)%18446744073709551616=((b+a/67108864:Nat):Int):=by omega
  have ei:(i:Int)+1=((i+1:Nat):Int):=rfl
  have cJ:((i+1:Nat):Int)<5:=by omega
  have Zmn:(i:Int)<5:=by omega
  have c1:Jn G1 ⟨b3,i+1,none⟩ (.int .u64 (b+a/67108864:Nat))=_:=ZZ (f:=uv) hx (i:=i+1) (by omega) (b+a/67108864) rfl
  have GO:=ZO (o:=.cells ((r.set (i+1) (b+a/67108864)).map uv++[]).toArray 211) hx
  have l1:(r.set (i+1) (b+a/67108864)).length=5:=by rw[List.length_set,lY]
  have v1:(r.set (i+1) (b+a/67108864)).getD i 0=a:=by rw[PN (by omega),←hax]
  obtain⟨r1,jq⟩:=Zu (r.set (i+1) (b+a/67108864))
  rw[←jq]at c1 GO l1 v1 YM
  obtain⟨G2,bZ⟩:=Zu (G1.setIfInBounds b3 (.cells (r1.map uv++[]).toArray 211))
  rw[←bZ]at c1 GO
  have g2:=ZJ GO (i:=i) (by omega)
  unfold uv at g2
  rw[v1]at g2
  have c2:Jn G2 ⟨b3,i,none⟩ (.int .u64 (a%67108864:Nat))=_:=ZZ (f:=uv) GO (i:=i) (by omega) (a%67108864) rfl
  simp -implicitDefEqProofs only[go_sem,↓reduceIte,f1,f2,f3,f11,ZH]
  refine VS.w (b3+1) [10] (.q 0 (.q 1 (.q 2 (.q 3 (.q 4 (.q 5 (.q 6 (.q 7 (.q 8 (.q 9 (.w 10 .nil))))))))))) mixed (by kernel_rfl) ?_
  simp -implicitDefEqProofs only[go_sem,↓reduceIte,f1,f2,f3,f11,ei,cJ,Zmn,Int.toNat_natCast,Nat.zero_add,g0,g1,s1,t1,t2,c1,g2,s2,c2]
  refine⟨⟨f1,f2,f3,i+1,ZA,rfl,?_⟩,?_⟩
  ·rw[bZ,set_set,jo,set_set,YM];rfl
  ·simp only[vi,Zh,↓reduceIte,f11];omega
 ·have YE:¬(i:Int)<4:=by omega
  obtain rfl:i=4:=by omega
  have c4:((4:Nat):Int)=4:=rfl
  rw[c4]at f11 YE
  have hW:T6 m=if (SR m 4).getD 4 0/67108864=0 then m else (SR m 4).set 4 ((SR m 4).getD 4 0%67108864):=rfl
  have fV:(J.setIfInBounds b3 (Yd (SR m 4)))[h.size]? = some (Yd m):=by rw[Array.getElem?_setIfInBounds,if_neg (by omega)];exact J0
  have GO:(J.setIfInBounds b3 (Yd (SR m 4)))[b2]? = some (Yd [0,0,0,0,0]):=by rw[Array.getElem?_setIfInBounds,if_neg (by omega)];exact J1
  have HB3:Ze h.size h (J.setIfInBounds b3 (Yd (SR m 4))):=JB.Zk (by omega) _
  obtain⟨r,hr⟩:=Zu (SR m 4)
  rw[←hr]at hx wY lY fV GO HB3 hW ⊢
  generalize J.setIfInBounds b3 (Yd r)=G1 at *
  have g4:=ZJ hx (i:=4) (by omega)
  have q4:=wY.getD (by omega) 4
  unfold uv at g4
  obtain⟨a,hax⟩:=Zu (r.getD 4 0)
  rw[←hax]at g4 q4 hW
  have s1:=cI a
  have s2:=T4 a (by omega)
  have w4:=fun (k:List Nat) (hk:k.length=5)=>ZP (h:=G1) (b:=b2) (l:=([0,0,0,0,0].map uv)) (by unfold Yd at GO;rw[List.append_nil]at GO;exact GO) 0 (k.map uv)
  have h2s:=Za GO
  by_cases h0:a/67108864=0
  ·have h0':((a/67108864:Nat):Int)=0:=by omega
   rw[if_pos h0]at hW
   have w5:=w4 m m1
   rw[if_pos ⟨by simp[lm],hom⟩,ZK (by simp[lm])]at w5
   have r1:=T7 m1 fV
   have tm:(m.map uv).take 5=m.map uv:=List.take_of_length_le (by omega)
   simp -implicitDefEqProofs only[go_sem,↓reduceIte,f1,f2,f3,f11,YE,g4,s1,h0',r1,w5,lm,tm,h2s]
   exact⟨by rw[hW],HB3.Zk (by omega) _⟩
  ·have h0':¬((a/67108864:Nat):Int)=0:=by omega
   rw[if_neg h0]at hW
   have c1:Jn G1 ⟨b3,4,none⟩ (.int .u64 (a%67108864:Nat))=_:=ZZ (f:=uv) hx (i:=4) (by omega) (a%67108864) rfl
   have hz:=ZO (o:=.cells ((r.set 4 (a%67108864)).map uv++[]).toArray 211) hx
   have l1:(r.set 4 (a%67108864)).length=5:=by rw[List.length_set,lY]
   have HB4:Ze h.size h (G1.setIfInBounds b3 (.cells ((r.set 4 (a%67108864)).map uv++[]).toArray 211)):=HB3.Zk (by omega) _
   have At:(G1.setIfInBounds b3 (.cells ((r.set 4 (a%67108864)).map uv++[]).toArray 211))[b2]? = some (Yd [0,0,0,0,0]):=by rw[Array.getElem?_setIfInBounds,if_neg (by omega)];exact GO
   rw[hW]
   obtain⟨r1,jq⟩:=Zu (r.set 4 (a%67108864))
   rw[←jq]at c1 hz l1 HB4 At ⊢
   generalize G1.setIfInBounds b3 (.cells (r1.map uv++[]).toArray 211)=G2 at *
   have r4:=T7 l1 hz
   have lr:(r1.map uv).length=5:=by simpa using l1
   have hor:(r1.map uv).all Z5=true:=by simp[uv,Z5]
   have w5:=ZP (h:=G2) (b:=b2) (l:=([0,0,0,0,0].map uv)) (by unfold Yd at At;rw[List.append_nil]at At;exact At) 0 (r1.map uv)
   rw[if_pos ⟨by simp[lr],hor⟩,ZK (by simp[lr])]at w5
   have tm:(r1.map uv).take 5=r1.map uv:=List.take_of_length_le (by omega)
   have Zmo:=Za At
   simp -implicitDefEqProofs only[go_sem,↓reduceIte,f1,f2,f3,f11,YE,g4,s1,s2,h0',Nat.zero_add,c1,r4,w5,lr,tm,Zmo]
   exact HB4.Zk (by omega) _
def mL (key:List Nat) (i:Nat):Nat:=if i%4=3 then key.getD i 0%16 else if i%4=0∧0<i then key.getD i 0/4*4 else key.getD i 0
def XX (key:List Nat):List Nat:=(List.range 16).map (mL key)
def Zef (data:List Nat) (k:Nat):List Nat:=(data.drop (16*k)).take 16++[1]
def mM (r:Nat) (data:List Nat):Nat→Nat
 | 0=>0
 | k+1=>(mM r data k+YY (Zef data k))*r%Vz
def tF (key data:List Nat):Nat:=mM (YY (XX key)) data ((data.length+15)/16)+YY ((key.drop 16).take 16)
def Au (key data:List Nat):List Nat:=(List.range 16).map fun i=>tF key data/256 ^ i%256
theorem IE (key:List Nat):(XX key).length=16:=by simp[XX]
theorem NB (key data:List Nat):(Au key data).length=16:=by simp[Au]
theorem SI {h:Hp} {p:Option Addr} {c n:Nat} {l:List Nat} (s:Bs h (.slice p n c) l) {m:Nat} (hm:m≤l.length) (c':Nat):Bs h (.slice p m c') (l.take m):=by
 refine⟨?_,fun x hx=>s.byte x (List.mem_of_mem_take hx)⟩
 obtain⟨p',cap,hv,hl,hc⟩:=s.sl
 simp only[Value.slice.injEq]at hv
 obtain⟨rfl,_,rfl⟩:=hv
 refine⟨_,c',by rw[List.length_take,Nat.min_eq_left hm],by simp,fun Yr=>?_⟩
 obtain⟨b,o,rfl,Yx⟩:=hc (by intro e;simp at e;subst e;simp at Yr)
 refine⟨b,o,rfl,fun i hi=>?_⟩
 have bJ:i<m∧i<l.length:=by rw[List.length_map,List.length_take]at hi;omega
 rw[Yx i (by simp;omega)]
 simp
theorem zY {h:Hp} {p:Option Addr} {c n:Nat} {l:List Nat} (s:Bs h (.slice p n c) l) (hn:l.length=n) {k m:Nat} (hk:k+m≤n) (Jg:n≤c) (c':Nat):Bs h (.slice (BZ p 1 c k) m c') ((l.drop k).take m):=
 SI (SD s hn (k:=k) (by omega) Jg c') (by rw[List.length_drop];omega) c'
def WX (key data:List Nat):Int:=if key.length≠32∨4000<data.length then 1 else 0
def mN (B:Nat) (h:Hp) (v:Value) (key data:List Nat):Prop:=∃w,v=.tuple #[w,.int .i64 (WX key data)]∧Z1 B 5 h w (if WX key data=0 then Au key data else [])
def XY:List (Option IntKind):=rep 32 [some .i64]++rep 8 [none]
theorem Ud:∀{ks:List (Option IntKind)} {vs:List Value} (i:Nat) (v:Value),Yp ks vs=true→(∀k,ks[i]? = some k→Uk k v=true)→Yp ks (vs.set i v)=true:=by
 intro ks
 induction ks with
 | nil=>intro vs i v h _;cases vs<;>simp[Yp]at h ⊢
 | cons k ks ih=>
  intro vs i v h hk
  cases vs with
  | nil=>simp[Yp]at h
  | cons x vs=>
   simp only[Yp,Bool.and_eq_true]at h
   cases i with
   | zero=>simp only[List.set_cons_zero,Yp,Bool.and_eq_true];exact⟨hk k rfl,h.2⟩
   | succ i=>simp only[List.set_cons_succ,Yp,Bool.and_eq_true];exact⟨h.1,ih i v h.2 (fun k' Pv=>hk k' (by simpa using Pv))⟩
theorem J7 {i:Nat} (hi:i<32) (n:Int):∀k,XY[i]? = some k→Uk k (.int .i64 n)=true:=by
 intro k hk
 have:∀i<32,XY[i]? = some (some .i64):=by decide
 rw[this i hi]at hk
 obtain rfl:=Option.some.inj hk
 rfl
theorem EZ {i:Nat} (h1:32≤i) (b:Bool):∀k,XY[i]? = some k→Uk k (.bool b)=true:=by
 intro k hk
 have:∀j<8,XY[32+j]? = some none:=by decide
 by_cases h2:i<40
 ·have:=this (i-32) (by omega)
  rw[show 32+(i-32)=i by omega]at this
  rw[this]at hk
  obtain rfl:=Option.some.inj hk
  rfl
 ·rw[List.getElem?_eq_none (by show 40≤i;omega)]at hk;cases hk
theorem VA {g:Hp} {b:Nat} {o:Obj} (hx:g[b]? = some o):g.setIfInBounds b o=g:=by
 apply Array.ext_getElem?
 intro i
 rw[Array.getElem?_setIfInBounds]
 by_cases hb:b=i
 ·subst hb;rw[if_pos rfl,if_pos (Za hx),hx]
 ·rw[if_neg hb]
structure Zeg where
 cells:List Value
 code:Int
 val:Int
def T8 (cs:List Value) (k c n v:Nat):List Value × Int:=
 if k=1 then (cs.set n (.int .i64 v),v) else if k=2 then (cs,ci cs n) else (cs.set (32+n) (.bool true),0)
def U1 (cs:List Value) (k c s n v:Nat):Zeg:=
 if k=0 then ⟨cs,0,0⟩ else
 if (s:Int)+1=ci cs (8+c) then ⟨cs,ci cs (16+c*2),ci cs (16+c*2+1)⟩ else
 if (s:Int)<ci cs (8+c) then ⟨cs,7,0⟩ else
 if cb cs (32+c)=true then ⟨cs,11,0⟩ else
 ⟨((((T8 cs k c n v).1.set (8+c) (.int .i64 ((s:Int)+1))).set (16+c*2) (.int .i64 0)).set (16+c*2+1) (.int .i64 (T8 cs k c n v).2)),0,(T8 cs k c n v).2⟩
def NC (cs:List Value) (k c s n v:Int):Int:=if Qr cs=true then 5 else YI k c s n v
def JA:List Value:=rep 32 [Value.int .i64 0]++rep 8 [Value.bool false]
def doL (cs:List Value) (k c s n v:Int):List Value:=
 if NC cs k c s n v=0 then [.agg (U1 cs k.toNat c.toNat s.toNat n.toNat v.toNat).cells.toArray,.agg [.int .i64 (U1 cs k.toNat c.toNat s.toNat n.toNat v.toNat).code,.int .i64 (U1 cs k.toNat c.toNat s.toNat n.toNat v.toNat).val].toArray,.int .i64 0]
  else [.agg JA.toArray,.agg [.int .i64 0,.int .i64 0].toArray,.int .i64 (NC cs k c s n v)]
def xr (v':Value) (cs:List Value) (k c s n v:Int):Prop:=v'=.tuple (doL cs k c s n v).toArray
theorem PQ {k c s n v:Int} (h:YI k c s n v=0):∃k' c' s' n' v':Nat,k=k'∧c=c'∧s=s'∧n=n'∧v=v'∧k'≤3∧c'≤7∧s'≤1048576∧n'≤7∧v'≤1073741824:=by
 have:0≤k∧k≤3∧0≤c∧c≤7∧0≤s∧s≤1048576∧0≤n∧n≤7∧0≤v∧v≤1073741824:=by
  unfold YI at h
  repeat' split at h
  all_goals omega
 exact⟨k.toNat,c.toNat,s.toNat,n.toNat,v.toNat,by omega,by omega,by omega,by omega,by omega,by omega,by omega,by omega,by omega,by omega⟩
theorem Hn {cs:List Value} {i j:Nat} {x:Value} (h:i≠j):ci (cs.set i x) j=ci cs j:=by
 unfold ci
 rw[Yj,Yj,List.getElem?_set_ne h]
theorem ints_set {cs:List Value} {j:Nat} (hj:j<cs.length) (x:Int) (hi:∀i,i<32→nth cs i=some (.int .i64 (ci cs i))):∀i,i<32→nth (cs.set j (.int .i64 x)) i=some (.int .i64 (ci (cs.set j (.int .i64 x)) i)):=by
 intro i h32
 by_cases e:j=i
 ·subst e
  have:nth (cs.set j (.int .i64 x)) j=some (.int .i64 x):=by rw[Yj,List.getElem?_set_self hj]
  unfold ci
  rw[this]
 ·rw[Hn e,Yj,List.getElem?_set_ne e,←Yj];exact hi i h32
theorem fW (cs:List Value) (k c n v:Nat) (x:Value) (hn:n≤7) (hc:c≤7):T8 (cs.set (8+c) x) k c n v=((T8 cs k c n v).1.set (8+c) x,(T8 cs k c n v).2):=by
 unfold T8
 by_cases k1:k=1
 ·rw[if_pos k1,if_pos k1,List.set_comm _ _ (by omega)]
 ·rw[if_neg k1,if_neg k1]
  by_cases k2:k=2
  ·rw[if_pos k2,if_pos k2,Hn (by omega)]
  ·rw[if_neg k2,if_neg k2,List.set_comm _ _ (by omega)]
theorem E6 {cs:List Value} (hf:Yp XY cs=true) (k c n v:Nat) (hn:n≤7):Yp XY (T8 cs k c n v).1=true:=by
 unfold T8
 by_cases k1:k=1
 ·rw[if_pos k1];exact Ud n _ hf (J7 (by omega) _)
 ·rw[if_neg k1]
  by_cases k2:k=2
  ·rw[if_pos k2];exact hf
  ·rw[if_neg k2];exact Ud (32+n) _ hf (EZ (by omega) _)
theorem fX {cs:List Value} (hf:Yp XY cs=true) (k c s n v:Nat) (hn:n≤7) (hc:c≤7):Yp XY (U1 cs k c s n v).cells=true:=by
 unfold U1
 repeat' split
 all_goals first|exact hf|skip
 exact Ud _ _ (Ud _ _ (Ud _ _ (E6 hf k c n v hn) (J7 (by omega) _)) (J7 (by omega) _)) (J7 (by omega) _)
theorem E7 (T:World) (h:Hp) (b:Nat) (cs:List Value) (k c s n v:Nat) (hl:cs.length=40) (hi:∀i,i<32→nth cs i=some (.int .i64 (ci cs i))) (hn:n≤7) (hk:1≤k) (hk3:k≤3) (hx:h[b]? = some (.cells cs.toArray 61)) :
  Zd Tryz.prog T 61 #[.pointer (some ⟨b,0,none⟩),.agg (Qi k c s n v).toArray] h fun v' h'=>v'=.agg [.int .i64 0,.int .i64 (T8 cs k c n v).2].toArray∧Ze h.size (h.setIfInBounds b (.cells (T8 cs k c n v).1.toArray 61)) h':=by
 refine Zd.Zi (args:=[_,_]) Tryz.func61 rfl rfl rfl rfl ?_
 have hb:=Za hx
 have hn8:(n:Int)<8:=by omega
 unfold Qi T8
 by_cases k1:k=1
 ·subst k1
  simp +contextual -implicitDefEqProofs only[go_sem,↓reduceIte]
  refine VS.w (h.size+2) [8] (.q 0 (.q 1 (.q 2 (.q 3 (.q 4 (.q 5 (.q 6 (.q 7 (.w 8 .nil))))))))) mixed (by kernel_rfl) ?_
  have w1:=Yq hx n (.int .i64 v)
  rw[if_pos ⟨by omega,rfl⟩]at w1
  have nn:nth (cs.set n (.int .i64 (v:Int))) n=some (.int .i64 v):=by rw[Yj,List.getElem?_set_self (by omega)]
  simp +contextual -implicitDefEqProofs only[go_sem,↓reduceIte,hn8,w1,hb]
  refine VS.w (h.size+2) [8] (.q 0 (.q 1 (.q 2 (.q 3 (.q 4 (.q 5 (.q 6 (.q 7 (.w 8 .nil))))))))) mixed (by kernel_rfl) ?_
  simp +contextual -implicitDefEqProofs only[go_sem,↓reduceIte,hn8,hb,nn]
  try exact ((Ze.push (by simp) _).Yg (by simp) _)
 ·by_cases k2:k=2
  ·subst k2
   have nn:=hi n (by omega)
   have x1:hc h ⟨b,n,none⟩=some (.int .i64 (ci cs n)):=by rw[Zg hx];exact nn
   have xt:=VA hx
   simp +contextual -implicitDefEqProofs only[go_sem,↓reduceIte,xt]
   refine VS.w (h.size+2) [8] (.q 0 (.q 1 (.q 2 (.q 3 (.q 4 (.q 5 (.q 6 (.q 7 (.w 8 .nil))))))))) mixed (by kernel_rfl) ?_
   simp +contextual -implicitDefEqProofs only[go_sem,↓reduceIte,hn8,hb,x1]
  ·have k3:k=3:=by omega
   subst k3
   have w1:=Yq hx (32+n) (.bool true)
   rw[if_pos ⟨by omega,rfl⟩]at w1
   simp +contextual -implicitDefEqProofs only[go_sem,↓reduceIte]
   refine VS.w (h.size+2) [6] (.q 0 (.q 1 (.q 2 (.q 3 (.q 4 (.q 5 (.w 6 .nil))))))) mixed (by kernel_rfl) ?_
   simp +contextual -implicitDefEqProofs only[go_sem,↓reduceIte,hn8,w1,hb]
   try exact ((Ze.push (by simp) _).Yg (by simp) _)
theorem Av (T:World) (h:Hp) (cs:List Value) (k c s n v:Int) (hf:Yp XY cs=true) (hi:∀i,i<32→nth cs i=some (.int .i64 (ci cs i))) (hb:∀i,32≤i→i<40→nth cs i=some (.bool (cb cs i))) :
  Zd Tryz.prog T 38 #[.agg cs.toArray,.agg (Qi k c s n v).toArray] h fun v' h'=>xr v' cs k c s n v∧Ze h.size h h':=by
 have hl:cs.length=40:=YK hf
 have tk:=Xg hl
 have Xd:=Ln hf
 refine Zd.XM (args:=[_,_]) Tryz.func38 rfl rfl rfl rfl ?_
 unfold Qi
 simp +contextual -implicitDefEqProofs only[go_sem,↓reduceIte,hl,tk]
 refine (fy T _ cs hl hi).use ?_
 rintro _ _ ⟨rfl,rfl⟩
 unfold xr doL NC
 by_cases e1:Qr cs=true
 ·simp +contextual -implicitDefEqProofs only[go_sem,↓reduceIte,e1]
  refine⟨rfl,?_⟩
  (repeat' (first|exact Ze.refl _ _|assumption|refine Ze.add ?_ _|refine Ze.Zk ?_ (by first|omega|(simp;omega)) _|refine Ze.trans (by assumption) ?_))
 ·have e1:Qr cs=false:=by simpa using e1
  simp +contextual -implicitDefEqProofs only[go_sem,↓reduceIte,e1]
  refine (JX T _ k c s n v).use ?_
  rintro _ _ ⟨rfl,rfl⟩
  unfold Qi
  by_cases e2:YI k c s n v=0
  ·obtain⟨k,c,s,n,v,rfl,rfl,rfl,rfl,rfl,y1,y2,y3,y4,y5⟩:=PQ e2
   simp only[Int.toNat_natCast]
   have X4:JA=[.int .i64 0,.int .i64 0,.int .i64 0,.int .i64 0,.int .i64 0,.int .i64 0,.int .i64 0,.int .i64 0,.int .i64 0,.int .i64 0,.int .i64 0,.int .i64 0,.int .i64 0,.int .i64 0,.int .i64 0,.int .i64 0,.int .i64 0,.int .i64 0,.int .i64 0,.int .i64 0,.int .i64 0,.int .i64 0,.int .i64 0,.int .i64 0,.int .i64 0,.int .i64 0,.int .i64 0,.int .i64 0,.int .i64 0,.int .i64 0,.int .i64 0,.int .i64 0,.bool false,.bool false,.bool false,.bool false,.bool false,.bool false,.bool false,.bool false]:=rfl
   obtain⟨H,hH⟩:=Zu (((((((h.push (.cells cs.toArray 61)).push (.cells [.int .i64 k,.int .i64 c,.int .i64 s,.int .i64 n,.int .i64 v].toArray 47)).push (.cells [.int .i64 0,.int .i64 0,.int .i64 0,.int .i64 0,.int .i64 0,.int .i64 0,.int .i64 0,.int .i64 0,.int .i64 0,.int .i64 0,.int .i64 0,.int .i64 0,.int .i64 0,.int .i64 0,.int .i64 0,.int .i64 0,.int .i64 0,.int .i64 0,.int .i64 0,.int .i64 0,.int .i64 0,.int .i64 0,.int .i64 0,.int .i64 0,.int .i64 0,.int .i64 0,.int .i64 0,.int .i64 0,.int .i64 0,.int .i64 0,.int .i64 0,.int .i64 0,.bool false,.bool false,.bool false,.bool false,.bool false,.bool false,.bool false,.bool false].toArray 61)).push (.cells [.int .i64 0,.int .i64 0].toArray 40)).push (.cells cs.toArray 61)).push (.cells [.int .i64 k,.int .i64 c,.int .i64 s,.int .i64 n,.int .i64 v].toArray 47)):Hp)
   have x0:H[h.size]? = some (.cells cs.toArray 61):=by rw[hH];simp only[Array.getElem?_push,Array.size_push,IntWalk.iteOmega,↓reduceIte]
   have x1:H[h.size+1]? = some (.cells [.int .i64 k,.int .i64 c,.int .i64 s,.int .i64 n,.int .i64 v].toArray 47):=by rw[hH];simp only[Array.getElem?_push,Array.size_push,IntWalk.iteOmega,↓reduceIte]
   have x2:H[h.size+2]? = some (.cells JA.toArray 61):=by rw[hH,X4];simp only[Array.getElem?_push,Array.size_push,IntWalk.iteOmega,↓reduceIte]
   have x3:H[h.size+3]? = some (.cells [.int .i64 0,.int .i64 0].toArray 40):=by rw[hH];simp only[Array.getElem?_push,Array.size_push,IntWalk.iteOmega,↓reduceIte]
   have hHs:H.size=h.size+6:=by rw[hH];simp
   have Am:Ze h.size h H:=by rw[hH];(repeat' (first|exact Ze.refl _ _|assumption|refine Ze.add ?_ _|refine Ze.Zk ?_ (by first|omega|(simp;omega)) _|refine Ze.trans (by assumption) ?_))
   rw[←hH]
   clear hH X4
   have c1:hc H ⟨h.size+1,0,none⟩=some (.int .i64 k):=by rw[Zg x1];rfl
   have c2:hc H ⟨h.size+1,1,none⟩=some (.int .i64 c):=by rw[Zg x1];rfl
   have c3:hc H ⟨h.size+1,2,none⟩=some (.int .i64 s):=by rw[Zg x1];rfl
   have cc:(c:Int)<8:=by omega
   have Zei:=hi (8+c) (by omega)
   have lx:hc H ⟨h.size,8+c,none⟩=some (.int .i64 (ci cs (8+c))):=by rw[Zg x0];exact Zei
   have fin:∀(G:Hp) (D:List Value) (a b:Int),D.length=40→D.all Z5=true→G[h.size+2]? = some (.cells JA.toArray 61)→G[h.size+3]? = some (.cells [.int .i64 0,.int .i64 0].toArray 40) →
     wr G ⟨h.size+1+1,0,none⟩ D=some (G.setIfInBounds (h.size+1+1) (.cells D.toArray 61)) ∧
     wr (G.setIfInBounds (h.size+1+1) (.cells D.toArray 61)) ⟨h.size+1+1+1,0,none⟩ [.int .i64 a,.int .i64 b]=some ((G.setIfInBounds (h.size+1+1) (.cells D.toArray 61)).setIfInBounds (h.size+1+1+1) (.cells [.int .i64 a,.int .i64 b].toArray 40)):=by
    intro G D a b d1 d2 g2 g3
    refine⟨?_,?_⟩
    ·rw[ZP (b:=h.size+1+1) g2 0 D,ZK (by rw[d1];rfl),if_pos ⟨by rw[d1];exact Nat.le_refl _,d2⟩]
    ·rw[ZP (b:=h.size+1+1+1) (l:=[.int .i64 0,.int .i64 0]) (t:=40) (by rw[Array.getElem?_setIfInBounds,if_neg (by omega)];exact g3),if_pos ⟨by simp,rfl⟩]
     rfl
   have r0:=Zo x0 hl
   have fY:∀(G:Hp) (o o':Obj),Ze h.size h G→Ze h.size h ((G.setIfInBounds (h.size+1+1) o).setIfInBounds (h.size+1+1+1) o'):=fun G o o' hG=>(hG.Zk (by omega) _).Zk (by omega) _
   by_cases k0:k=0
   ·subst k0
    have ed:U1 cs 0 c s n v=⟨cs,0,0⟩:=rfl
    obtain⟨w2,w3⟩:=fin H cs 0 0 hl Xd x2 x3
    simp -implicitDefEqProofs only[go_sem,↓reduceIte,e2,c1,c2,cc,ed,r0,w2,w3,hl,hHs,tk,Am]
    exact fY H _ _ Am
   ·have k0':¬(k:Int)=0:=by omega
    simp -implicitDefEqProofs only[go_sem,↓reduceIte,e2,c1,c2,cc,k0']
    refine VS.q mixed (by kernel_rfl) ?_
    by_cases q1:(s:Int)+1=ci cs (8+c)
    ·have ed:U1 cs k c s n v=⟨cs,ci cs (16+c*2),ci cs (16+c*2+1)⟩:=by unfold U1;rw[if_neg k0,if_pos q1]
     obtain⟨w2,w3⟩:=fin H cs (ci cs (16+c*2)) (ci cs (16+c*2+1)) hl Xd x2 x3
     have ra:rd H ⟨h.size,16+c*2,none⟩ 2=some [.int .i64 (ci cs (16+c*2)),.int .i64 (ci cs (16+c*2+1))]:=by
      rw[Z0 x0 (by omega),Ef (hi _ (by omega)) (hi _ (by omega))]
     simp -implicitDefEqProofs only[go_sem,↓reduceIte,c3,lx,q1]
     refine VS.w (h.size+1+1) [] (.q 0 (.q 1 (.q 2 (.q 3 (.q 4 (.q 5 (.s 6 (.s 7 (.q 8 .nil))))))))) mixed (by kernel_rfl) ?_
     simp -implicitDefEqProofs only[go_sem,↓reduceIte,e2,c2,cc,ed,r0,ra,w2,w3,hl,hHs,tk,Am]
     exact fY H _ _ Am
    ·simp -implicitDefEqProofs only[go_sem,↓reduceIte,c3,lx,q1]
     refine VS.q mixed (by kernel_rfl) ?_
     by_cases q2:(s:Int)<ci cs (8+c)
     ·have ed:U1 cs k c s n v=⟨cs,7,0⟩:=by unfold U1;rw[if_neg k0,if_neg q1,if_pos q2]
      obtain⟨w2,w3⟩:=fin H cs 7 0 hl Xd x2 x3
      simp -implicitDefEqProofs only[go_sem,↓reduceIte,c3,lx,q2,e2,ed,r0,w2,w3,hl,hHs,tk,Am]
      exact fY H _ _ Am
     ·have rv:hc H ⟨h.size,32+c,none⟩=some (.bool (cb cs (32+c))):=by rw[Zg x0];exact hb _ (by omega) (by omega)
      by_cases q3:cb cs (32+c)=true
      ·have ed:U1 cs k c s n v=⟨cs,11,0⟩:=by unfold U1;rw[if_neg k0,if_neg q1,if_neg q2,if_pos q3]
       obtain⟨w2,w3⟩:=fin H cs 11 0 hl Xd x2 x3
       rw[q3]at rv
       simp -implicitDefEqProofs only[go_sem,↓reduceIte,c3,lx,q2,c2,cc,rv,e2,ed,r0,w2,w3,hl,hHs,tk,Am]
       exact fY H _ _ Am
      ·have q3':cb cs (32+c)=false:=by simpa using q3
       rw[q3']at rv
       have w1:=Yq x0 (8+c) (.int .i64 ((s:Int)+1))
       rw[if_pos ⟨by omega,rfl⟩]at w1
       have rc:=Zo x1 (n:=5) rfl
       have xq:(H.setIfInBounds h.size (.cells (cs.set (8+c) (.int .i64 ((s:Int)+1))).toArray 61))[h.size+1]? = some (.cells [.int .i64 k,.int .i64 c,.int .i64 s,.int .i64 n,.int .i64 v].toArray 47):=by rw[Array.getElem?_setIfInBounds,if_neg (by omega)];exact x1
       have rc':=Zo xq (n:=5) rfl
       simp -implicitDefEqProofs only[go_sem,↓reduceIte,c3,lx,q2,c2,cc,rv,w1,rc']
       have zR:(H.setIfInBounds h.size (.cells (cs.set (8+c) (.int .i64 ((s:Int)+1))).toArray 61))[h.size]? = some (.cells (cs.set (8+c) (.int .i64 ((s:Int)+1))).toArray 61):=by rw[Array.getElem?_setIfInBounds,if_pos rfl,if_pos (by omega)]
       have Q3:Ze h.size h (H.setIfInBounds h.size (.cells (cs.set (8+c) (.int .i64 ((s:Int)+1))).toArray 61)):=Am.Zk (Nat.le_refl _) _
       have zS:(H.setIfInBounds h.size (.cells (cs.set (8+c) (.int .i64 ((s:Int)+1))).toArray 61))[h.size+2]? = some (.cells JA.toArray 61):=by rw[Array.getElem?_setIfInBounds,if_neg (by omega)];exact x2
       have x3':(H.setIfInBounds h.size (.cells (cs.set (8+c) (.int .i64 ((s:Int)+1))).toArray 61))[h.size+3]? = some (.cells [.int .i64 0,.int .i64 0].toArray 40):=by rw[Array.getElem?_setIfInBounds,if_neg (by omega)];exact x3
       have hGs:(H.setIfInBounds h.size (.cells (cs.set (8+c) (.int .i64 ((s:Int)+1))).toArray 61)).size=h.size+6:=by rw[Array.size_setIfInBounds];exact hHs
       refine (E7 T _ h.size (cs.set (8+c) (.int .i64 ((s:Int)+1))) k c s n v (by rw[List.length_set];exact hl) (ints_set (by omega) _ hi) (by omega) (by omega) (by omega) zR).use ?_
       rintro _ g1 ⟨rfl,b1⟩
       rw[fW cs k c n v _ (by omega) (by omega)]at b1 ⊢
       have hfA:=E6 hf k c n v (by omega)
       have ed:U1 cs k c s n v=⟨((((T8 cs k c n v).1.set (8+c) (.int .i64 ((s:Int)+1))).set (16+c*2) (.int .i64 0)).set (16+c*2+1) (.int .i64 (T8 cs k c n v).2)),0,(T8 cs k c n v).2⟩:=by unfold U1;rw[if_neg k0,if_neg q1,if_neg q2,if_neg q3]
       obtain⟨A,hA⟩:=Zu ((T8 cs k c n v).1.set (8+c) (.int .i64 ((s:Int)+1)))
       obtain⟨a,ha⟩:=Zu ((T8 cs k c n v).2)
       rw[←hA,←ha]at ed
       simp only[←hA,←ha]at b1 ⊢
       have Zej:Yp XY A=true:=by rw[hA];exact Ud _ _ hfA (J7 (by omega) _)
       have ZxR:A.length=40:=YK Zej
       obtain⟨G,hG⟩:=Zu (H.setIfInBounds h.size (.cells (cs.set (8+c) (.int .i64 ((s:Int)+1))).toArray 61):Hp)
       rw[←hG]at b1 xq zS x3' Q3 hGs
       clear zR rc' hG
       rw[hGs]at b1
       have g0:g1[h.size]? = some (.cells A.toArray 61):=b1.get (by omega) (by rw[Array.getElem?_setIfInBounds,if_pos rfl,if_pos (by omega)])
       have g1c:=b1.get (k:=h.size+1) (by omega) (by rw[Array.getElem?_setIfInBounds,if_neg (by omega)];exact xq)
       have g2:=b1.get (k:=h.size+2) (by omega) (by rw[Array.getElem?_setIfInBounds,if_neg (by omega)];exact zS)
       have g3:=b1.get (k:=h.size+3) (by omega) (by rw[Array.getElem?_setIfInBounds,if_neg (by omega)];exact x3')
       have gs:h.size+6≤g1.size:=by have:=b1.size;rw[Array.size_setIfInBounds,hGs]at this;exact this
       have gB:Ze h.size h g1:=(Q3.Zk (Nat.le_refl _) _).trans (b1.mono (by omega))
       clear b1 Q3 xq zS x3' hGs
       have gc:hc g1 ⟨h.size+1,1,none⟩=some (.int .i64 c):=by rw[Zg g1c];rfl
       have wa:=ZP g0 (16+c*2) [.int .i64 0,.int .i64 a]
       rw[if_pos ⟨by simp only[List.length_cons,List.length_nil];omega,rfl⟩,Vl,Vl]at wa
       have wa:wr g1 ⟨h.size,16+c*2,none⟩ [.int .i64 0,.int .i64 a]=some (g1.setIfInBounds h.size (.cells ((A.set (16+c*2) (.int .i64 0)).set (16+c*2+1) (.int .i64 a)).toArray 61)):=by rw[wa];simp[Yl]
       simp -implicitDefEqProofs only[go_sem,↓reduceIte,gc,cc,wa]
       obtain⟨D,hD⟩:=Zu ((A.set (16+c*2) (.int .i64 0)).set (16+c*2+1) (.int .i64 a))
       have hfD:Yp XY D=true:=by rw[hD];exact Ud _ _ (Ud _ _ Zej (J7 (by omega) _)) (J7 (by omega) _)
       have tH:D.length=40:=YK hfD
       have Zek:=Ln hfD
       have xu:=Xg tH
       rw[←hD]at ed ⊢
       obtain⟨G,hG⟩:=Zu ((g1.setIfInBounds h.size (.cells D.toArray 61)).push (.cells [.int .i64 0,.int .i64 a].toArray 40):Hp)
       have n0:G[h.size]? = some (.cells D.toArray 61):=by rw[hG];simp only[Array.getElem?_push,Array.size_setIfInBounds,Array.getElem?_setIfInBounds,IntWalk.iteOmega,↓reduceIte]
       have n2:G[h.size+2]? = some (.cells JA.toArray 61):=by rw[hG];simp only[Array.getElem?_push,Array.size_setIfInBounds,Array.getElem?_setIfInBounds,IntWalk.iteOmega,↓reduceIte];exact g2
       have n3:G[h.size+3]? = some (.cells [.int .i64 0,.int .i64 0].toArray 40):=by rw[hG];simp only[Array.getElem?_push,Array.size_setIfInBounds,Array.getElem?_setIfInBounds,IntWalk.iteOmega,↓reduceIte];exact g3
       have n6:G[g1.size]? = some (.cells [.int .i64 0,.int .i64 a].toArray 40):=by rw[hG];simp only[Array.getElem?_push,Array.size_setIfInBounds,IntWalk.iteOmega,↓reduceIte]
       have nB:Ze h.size h G:=by rw[hG];exact (gB.Zk (Nat.le_refl _) _).Yg (by simp;omega) _
       have nS:G.size=g1.size+1:=by rw[hG];simp
       rw[←hG]
       have rA:=Zo n0 tH
       have rB:=Zo n6 (n:=2) rfl
       obtain⟨w2,w3⟩:=fin G D 0 a tH Zek n2 n3
       refine VS.w (h.size+1) [2,3,4] (.q 0 (.or 1 (.w 2 (.w 3 (.w 4 .nil))) (.s 2 (.s 1 (.w 3 (.w 4 .nil)))))) mixed (by kernel_rfl) ?_
       have z1:h.size<h.size+1:=by omega
       have z2:h.size+1+1<G.size:=by omega
       have z3:h.size+1+1+1<G.size:=by omega
       simp -implicitDefEqProofs only[go_sem,↓reduceIte,rA,rB,w2,w3,tH,xu,z1,z2,z3,ed]
       exact⟨fY G _ _ nB,fY G _ _ nB⟩
  ·simp +contextual -implicitDefEqProofs only[go_sem,↓reduceIte,e2]
   refine⟨rfl,?_⟩
   (repeat' (first|exact Ze.refl _ _|assumption|refine Ze.add ?_ _|refine Ze.Zk ?_ (by first|omega|(simp;omega)) _|refine Ze.trans (by assumption) ?_))
theorem mO {g:Hp} {b:Nat} {o o':Obj} (hx:g[b]? = some o'):(g.setIfInBounds b o)[b]? = some o:=by rw[Array.getElem?_setIfInBounds,if_pos rfl,if_pos (Za hx)]
def T9:Vt:=⟨0,⟨0,0⟩,0,0,0,0,0⟩
def GP (v:Vt):List Value:=[.int .i64 v.k,.int .i64 v.c,.int .i64 v.s,.int .i64 v.nm,.int .i64 v.v]
def NF (slot:Int) (Zel v:Vt):Vt:=if v.slot=slot∧below Zel.b v.b then v else Zel
def U2 (slot:Int) (l:List Vt):Vt:=l.foldl (NF slot) T9
def Um (l:List Vt):Bool:=l.all fun v=>decide (Yb v)
def SJ (slot:Int) (l:List Vt):Int:=if slot<0∨39<slot then 2 else if Um l=true then 0 else 5
def GQ (v':Value) (slot:Int) (l:List Vt):Prop:=
 v'=.tuple [.agg (GP (if SJ slot l=0 then U2 slot l else T9)).toArray,.bool (if SJ slot l=0 then decide (0<(U2 slot l).b.r) else false),.int .i64 (SJ slot l)].toArray
def Vss (h:Hp) (v:Value) (LL:List (List Vt)):Prop:=∃p c,v=.slice p LL.length c∧(LL≠[]→∃b o,p=some ⟨b,o,none⟩∧b<h.size∧∀i (hi:i<LL.length),∃w,hc h ⟨b,o+i,none⟩=some w∧Ts Zm 8 h w LL[i]∧LL[i].length≤2199023255552)
theorem fZ (LL:List (List Vt)) (i:Nat) (hi:i<LL.length):(LL.take (i+1)).flatten=(LL.take i).flatten++LL[i]:=by
 rw[Z9 LL i hi,List.flatten_append,List.flatten_singleton]
theorem Aw (a b:List Vt):Um (a++b)=(Um a&&Um b):=by simp[Um]
theorem GR {l:List Vt} {v:Vt} (hv:v∈l) (hm:¬Yb v):Um l=false:=by
 rw[Um,List.all_eq_false]
 exact⟨v,hv,by simpa using hm⟩
set_option maxHeartbeats 1000000 in
theorem tI (T:World) (h:Hp) (u:Value) (LL:List (List Vt)) (slot:Int) (s:Vss h u LL) (hL:LL.length≤4611686018427387904) :
  Zd Tryz.prog T 151 #[u,.int .i64 slot] h fun v' h'=>GQ v' slot LL.flatten∧Ze h.size h h':=by
 have tJ:SJ slot LL.flatten=if slot<0∨39<slot then 2 else if Um LL.flatten=true then 0 else 5:=rfl
 obtain⟨p,c,rfl,Yx⟩:=s
 refine Zd.XM (args:=[_,_]) Tryz.func151 rfl rfl rfl rfl ?_
 unfold GQ
 by_cases q1:slot<0
 ·rw[if_pos (.inl q1)]at tJ
  simp -implicitDefEqProofs only[go_sem,↓reduceIte,q1,tJ]
  rfl
 ·by_cases q2:39<slot
  ·rw[if_pos (.inr q2)]at tJ
   have xw:40≤slot:=by omega
   simp -implicitDefEqProofs only[go_sem,↓reduceIte,q1,xw,tJ]
   rfl
  ·rw[if_neg (by omega)]at tJ
   have xw:¬40≤slot:=by omega
   simp -implicitDefEqProofs only[go_sem,↓reduceIte,q1,xw]
   obtain⟨H,hH⟩:=Zu ((h.push (.cells #[.int .i64 0,.int .i64 0,.int .i64 0,.int .i64 0,.int .i64 0] 47)).push (.cells #[.int .i64 0,.int .i64 0,.int .i64 0,.int .i64 0,.int .i64 0,.int .i64 0,.int .i64 0,.int .i64 0] 161):Hp)
   have HB:Ze h.size h H:=by rw[hH];(repeat' (first|exact Ze.refl _ _|assumption|refine Ze.add ?_ _|refine Ze.Zk ?_ (by first|omega|(simp;omega)) _|refine Ze.trans (by assumption) ?_))
   have HZ:H[h.size]? = some (.cells (GP T9).toArray 47):=by rw[hH,Zq (by simp),Zb];rfl
   have HV:H[h.size+1]? = some (.cells (Zm T9).toArray 161):=by
    have:=Zb (h:=h.push (.cells #[.int .i64 0,.int .i64 0,.int .i64 0,.int .i64 0,.int .i64 0] 47)) (o:=.cells #[.int .i64 0,.int .i64 0,.int .i64 0,.int .i64 0,.int .i64 0,.int .i64 0,.int .i64 0,.int .i64 0] 161)
    rw[Array.size_push]at this
    rw[hH,this];rfl
   rw[←hH]
   clear hH
   have wz:∀g:Hp,g[h.size]? = some (.cells (GP T9).toArray 47)→∀w:List Value,w.length=5→w.all Z5=true→wr g ⟨h.size,0,none⟩ w=some (g.setIfInBounds h.size (.cells w.toArray 47)):=by
    intro g hg w h5 h1
    rw[ZP hg 0 w,ZK (by rw[h5];rfl),if_pos ⟨by rw[h5];exact Nat.le_refl _,h1⟩]
   refine VS.ZU (fun F g=>F 1=.int .i64 slot∧F 4=.pointer (some ⟨h.size,0,none⟩)∧F 7=.pointer (some ⟨h.size+1,0,none⟩)∧F 19=.slice p LL.length c∧F 20=.int .i64 LL.length∧Ze h.size h g∧g[h.size]? = some (.cells (GP T9).toArray 47)∧∃i:Nat,i≤LL.length∧F 21=.int .i64 i∧g[h.size+1]? = some (.cells (Zm (U2 slot (LL.take i).flatten)).toArray 161)∧Um (LL.take i).flatten=true)
    (fun F _=>LL.length-(vi (F 21)).toNat) rfl ⟨rfl,rfl,rfl,rfl,rfl,HB,HZ,0,by omega,rfl,HV,rfl⟩ ?_
   clear HB HZ HV H
   rintro F g ⟨f1,f4,f7,f19,f20,hg,gZ,i,hi,f21,gV,YH⟩
   have zV:=Za gV
   by_cases ZA:i<LL.length
   ·have ZH:(i:Int)<LL.length:=by omega
    obtain⟨bb,oo,rfl,Ut,Yx⟩:=Yx (by intro e;rw[e]at ZA;simp at ZA)
    obtain⟨w,hw,tw,hwl⟩:=Yx i ZA
    have hw':V.hc g ⟨bb,oo+i,none⟩=some w:=by rw[hg.hc (by exact Ut)];exact hw
    have xx:=fZ LL i ZA
    have mP:LL[i]∈LL:=List.getElem_mem ZA
    obtain⟨L,xy⟩:=Zu (LL[i])
    rw[←xy]at tw hwl xx mP
    obtain⟨pw,cw,rfl,hwc⟩:=QR tw
    simp -implicitDefEqProofs only[go_sem,↓reduceIte,f1,f4,f7,f19,f20,f21,ZH,Int.toNat_natCast,hw']
    refine VS.ZU (fun F g=>F 1=.int .i64 slot∧F 4=.pointer (some ⟨h.size,0,none⟩)∧F 7=.pointer (some ⟨h.size+1,0,none⟩)∧F 19=.slice (some ⟨bb,oo,none⟩) LL.length c∧F 20=.int .i64 LL.length∧F 21=.int .i64 i∧F 25=.slice pw L.length cw∧F 26=.int .i64 L.length∧Ze h.size h g∧g[h.size]? = some (.cells (GP T9).toArray 47)∧∃j:Nat,j≤L.length∧F 27=.int .i64 j∧g[h.size+1]? = some (.cells (Zm (U2 slot ((LL.take i).flatten++L.take j))).toArray 161)∧Um ((LL.take i).flatten++L.take j)=true)
     (fun F _=>L.length-(vi (F 27)).toNat) rfl ⟨f1,f4,f7,f19,f20,f21,rfl,rfl,hg,gZ,0,by omega,rfl,by rw[List.take_zero,List.append_nil];exact gV,by rw[List.take_zero,List.append_nil];exact YH⟩ ?_
    clear f1 f4 f7 f19 f20 f21 F hg gZ gV YH zV hw'
    rintro F g ⟨f1,f4,f7,f19,f20,f21,f25,f26,hg,gZ,j,hj,f27,gV,YH⟩
    have zV:=Za gV
    by_cases xz:j<L.length
    ·have Zmr:(j:Int)<L.length:=by omega
     obtain⟨b2,o2,rfl,Ie,_,hwc⟩:=hwc (by intro e;rw[e]at xz;simp at xz)
     have r1:rd g ⟨b2,o2+j*8,none⟩ 8=some (Zm L[j]):=by rw[XB hg (by exact Ie)];exact hwc j xz
     have Ax:(LL.take i).flatten++L.take (j+1)=((LL.take i).flatten++L.take j)++[L[j]]:=by rw[Z9 L j xz,List.append_assoc]
     have xC:L[j]∈LL.flatten:=List.mem_flatten.2 ⟨L,mP,List.getElem_mem xz⟩
     obtain⟨v,hv⟩:=Zu (L[j])
     rw[←hv]at r1 Ax xC
     have X3:U2 slot ((LL.take i).flatten++L.take (j+1))=NF slot (U2 slot ((LL.take i).flatten++L.take j)) v:=by
      rw[Ax];unfold U2;rw[List.foldl_append];rfl
     have My:Um ((LL.take i).flatten++L.take (j+1))=decide (Yb v):=by rw[Ax,Aw,YH,Bool.true_and];simp[Um]
     obtain⟨B,hB⟩:=Zu (U2 slot ((LL.take i).flatten++L.take j))
     rw[←hB]at gV X3
     unfold Zm at r1
     simp -implicitDefEqProofs only[go_sem,↓reduceIte,f1,f4,f7,f19,f20,f21,f25,f26,f27,Zmr,Int.toNat_natCast,r1]
     refine (MK T _ v).use ?_
     rintro _ g1 ⟨rfl,b1⟩
     have jn:Ze g.size g g1:=(Ze.push (Nat.le_refl _) _).trans (b1.mono (by simp))
     have y0:g1[g.size]? = some (.cells (Zm v).toArray 161):=b1.get (by simp) Zb
     have z1:=jn.size
     have Om:=hg.trans (jn.mono hg.size)
     have gZ1:=jn.get (Za gZ) gZ
     have gV1:=jn.get zV gV
     have z0:=Za y0
     by_cases c1:Yb v
     ·rw[decide_eq_true c1]at My
      have y1:V.hc g1 ⟨g.size,0,none⟩=some (.int .i64 v.slot):=by rw[Zg y0];rfl
      have y2:rd g1 ⟨g.size,1,none⟩ 2=some (X9 v.b):=by rw[Z0 y0 (by simp[Zm])];rfl
      have y3:rd g1 ⟨h.size+1,1,none⟩ 2=some (X9 B.b):=by rw[Z0 gV1 (by simp[Zm])];rfl
      by_cases c2:v.slot=slot
      ·simp -implicitDefEqProofs only[go_sem,↓reduceIte,f1,f4,f7,f19,f20,f21,f25,f26,f27,c1,y1,c2,y2,y3]
       refine (UZ T _ v.b B.b).use ?_
       rintro _ g2 ⟨rfl,sV⟩
       have z2:=sV.size
       have QD:=Om.trans (sV.mono Om.size)
       have gZ2:=sV.get (Za gZ1) gZ1
       have gV2:=sV.get (Za gV1) gV1
       have y02:=sV.get z0 y0
       by_cases c3:below B.b v.b
       ·have mG:=(Vw v.b B.b).2 c3
        have rV:=Zo y02 (n:=8) rfl
        have wV:=ZP gV2 0 (Zm v)
        rw[ZK (by simp[Zm]),if_pos ⟨by simp[Zm],rfl⟩]at wV
        have tK:NF slot B v=v:=by unfold NF;rw[if_pos ⟨c2,c3⟩]
        rw[tK]at X3
        unfold Zm at rV wV
        simp -implicitDefEqProofs only[go_sem,↓reduceIte,f1,f4,f7,f19,f20,f21,f25,f26,f27,mG,rV,wV]
        refine⟨⟨f1,f4,f7,f19,f20,f21,f25,f26,QD.Zk (by omega) _,?_,j+1,xz,rfl,?_,My⟩,?_⟩
        ·rw[Array.getElem?_setIfInBounds,if_neg (by omega)];exact gZ2
        ·rw[X3];exact mO gV2
        ·simp only[vi,Zh,↓reduceIte,f27];omega
       ·have mG:¬0<OH v.b B.b:=fun h=>c3 ((Vw v.b B.b).1 h)
        have tK:NF slot B v=B:=by unfold NF;rw[if_neg (fun h=>c3 h.2)]
        rw[tK]at X3
        simp -implicitDefEqProofs only[go_sem,↓reduceIte,f1,f4,f7,f19,f20,f21,f25,f26,f27,mG]
        refine⟨⟨f1,f4,f7,f19,f20,f21,f25,f26,QD,gZ2,j+1,xz,rfl,?_,My⟩,?_⟩
        ·rw[X3];exact gV2
        ·simp only[vi,Zh,↓reduceIte,f27];omega
      ·have tK:NF slot B v=B:=by unfold NF;rw[if_neg (fun h=>c2 h.1)]
       rw[tK]at X3
       simp -implicitDefEqProofs only[go_sem,↓reduceIte,f1,f4,f7,f19,f20,f21,f25,f26,f27,c1,y1,c2]
       refine⟨⟨f1,f4,f7,f19,f20,f21,f25,f26,Om,gZ1,j+1,xz,rfl,?_,My⟩,?_⟩
       ·rw[X3];exact gV1
       ·simp only[vi,Zh,↓reduceIte,f27];omega
     ·have hf:=GR xC c1
      rw[hf,if_neg (by decide)]at tJ
      have wz1:=wz g1 gZ1 [.int .i64 0,.int .i64 0,.int .i64 0,.int .i64 0,.int .i64 0] rfl rfl
      have zl:=Za gZ1
      simp -implicitDefEqProofs only[go_sem,↓reduceIte,f1,f4,f7,c1,wz1,zl,tJ]
      exact⟨rfl,Om.Zk (Nat.le_refl _) _⟩
    ·have Zmt:¬(j:Int)<L.length:=by omega
     obtain rfl:j=L.length:=by omega
     rw[List.take_length,←xx]at gV YH
     simp -implicitDefEqProofs only[go_sem,↓reduceIte,f1,f4,f7,f19,f20,f21,f25,f26,f27,Zmt]
     refine⟨⟨f1,f4,f7,f19,f20,hg,gZ,i+1,ZA,rfl,gV,YH⟩,?_⟩
     simp only[vi,Zh,↓reduceIte,f21];omega
   ·have YE:¬(i:Int)<LL.length:=by omega
    obtain rfl:i=LL.length:=by omega
    rw[List.take_length]at gV YH
    rw[YH,if_pos rfl]at tJ
    rw[tJ,if_pos rfl,if_pos rfl]
    obtain⟨B,hB⟩:=Zu (U2 slot LL.flatten)
    rw[←hB]at gV ⊢
    have r1:rd g ⟨h.size+1,3,none⟩ 5=some (GP B):=by rw[Z0 gV (by simp[Zm])];rfl
    have r2:V.hc g ⟨h.size+1,1,none⟩=some (.int .i64 B.b.r):=by rw[Zg gV];rfl
    have wB:=wz g gZ (GP B) rfl rfl
    have zl:=Za gZ
    unfold GP at r1 wB ⊢
    simp -implicitDefEqProofs only[go_sem,↓reduceIte,f1,f4,f7,f19,f20,f21,YE]
    refine VS.w (h.size) [] (.q 0 (.q 2 (.q 3 (.or 1 (.or 4 (.q 5 (.s 6 (.q 7 (.q 8 .nil)))) (.s 6 (.s 4 (.q 5 (.q 7 (.q 8 .nil)))))) (.s 4 (.q 5 (.s 1 (.s 6 (.q 7 (.q 8 .nil)))))))))) mixed (by kernel_rfl) ?_
    simp -implicitDefEqProofs only[go_sem,↓reduceIte,f4,f7,r1,r2,wB,zl]
    have Ay:=hg.Zk (Nat.le_refl _) (.cells #[.int .i64 B.k,.int .i64 B.c,.int .i64 B.s,.int .i64 B.nm,.int .i64 B.v] 47)
    exact⟨⟨Ay,Ay⟩,Ay⟩
end Go.Proofs.YtkfhncfkagcamaaGreatDoor
