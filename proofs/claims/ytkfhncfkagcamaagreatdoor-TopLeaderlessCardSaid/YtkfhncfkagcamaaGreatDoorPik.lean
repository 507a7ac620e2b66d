/- Ballots and votes: what the small functions compute; no condition but those in the statements. -/
import Derived.Test.YtkfhncfkagcamaaGreatDoorVst
import Derived.Test.YtkfhncfkagcamaaGreatDoorW13
import Derived.Test.YtkfhncfkagcamaaGreatDoorLchks
namespace Go.Proofs.YtkfhncfkagcamaaGreatDoor
open Go Go.V
set_option linter.unusedSimpArgs false
set_option linter.unusedVariables false
set_option maxRecDepth 100000
structure XK where
 r:Int
 n:Int
structure Vt where
 slot:Int
 b:XK
 k:Int
 c:Int
 s:Int
 nm:Int
 v:Int
def X3 (b:XK):List Value:=[.int .i64 b.r,.int .i64 b.n]
def Zo (v:Vt):List Value:=[.int .i64 v.slot,.int .i64 v.b.r,.int .i64 v.b.n,.int .i64 v.k,.int .i64 v.c,.int .i64 v.s,.int .i64 v.nm,.int .i64 v.v]
def ZU (b:XK):Prop:=(1≤b.r∧b.r≤65536)∧(0≤b.n∧b.n≤4)
instance (b:XK):Decidable (ZU b):=by unfold ZU;infer_instance
def Yb (v:Vt):Prop:=(0≤v.slot∧v.slot≤39)∧ZU v.b∧YL v.k v.c v.s v.nm v.v=0
instance (v:Vt):Decidable (Yb v):=by unfold Yb;infer_instance
def below (a b:XK):Prop:=a.r<b.r∨(a.r=b.r∧a.n<b.n)
instance (a b:XK):Decidable (below a b):=by unfold below;infer_instance
def SA (a b:Int):Int:=if a<b then -1 else if b<a then 1 else 0
def Ou (a b:XK):Int:=if SA a.r b.r=0 then SA a.n b.n else SA a.r b.r
theorem Vi (a b:XK):0<Ou a b↔below b a:=by
 unfold Ou SA below
 repeat' split
 all_goals omega
theorem Pq (a b:XK):Ou a b<0↔below a b:=by
 unfold Ou SA below
 repeat' split
 all_goals omega
theorem F9 (T:World) (h:Hp) (a:Int):Zc Tryz.prog T 153 #[.int .i64 a] h fun v' h'=>v'=.bool false∧h'=h:=by
 refine Zc.Zi (args:=[_]) Tryz.func153 rfl rfl rfl rfl ?_
 simp -implicitDefEqProofs only[go_sem,↓reduceIte]
theorem WE (T:World) (h:Hp) (a b:Int):Zc Tryz.prog T 141 #[.int .i64 a,.int .i64 b] h fun v' h'=>v'=.int .i64 (SA a b)∧h'=h:=by
 refine Zc.Zi (args:=[_,_]) Tryz.func141 rfl rfl rfl rfl ?_
 simp -implicitDefEqProofs only[go_sem,↓reduceIte]
 refine (F9 T _ _).pure ?_
 simp -implicitDefEqProofs only[go_sem,↓reduceIte]
 refine (F9 T _ _).pure ?_
 unfold SA
 by_cases q1:a<b
 ·simp -implicitDefEqProofs only[go_sem,↓reduceIte,q1]
 ·by_cases q2:b<a
  ·simp -implicitDefEqProofs only[go_sem,↓reduceIte,q1,q2]
  ·simp -implicitDefEqProofs only[go_sem,↓reduceIte,q1,q2]
theorem kC (T:World) (h:Hp) (b:Nat) (x y:Int) (h0:hc h ⟨b,0,none⟩=some (.int .i64 x)) (h1:hc h ⟨b,1,none⟩=some (.int .i64 y)):Zc Tryz.prog T 152 #[.slice (some ⟨b,0,none⟩) 2 2] h fun v' h'=>v'=.int .i64 (if x=0 then y else x)∧h'=h:=by
 refine Zc.Zi (args:=[_]) Tryz.func152 rfl rfl rfl rfl ?_
 simp -implicitDefEqProofs only[go_sem,↓reduceIte]
 refine VS.rounds 3 rfl ?_
 by_cases q1:x=0
 ·by_cases q2:y=0
  ·simp -implicitDefEqProofs only[go_sem,↓reduceIte,h0,h1,q1,q2,Int.reduceAdd]
  ·simp -implicitDefEqProofs only[go_sem,↓reduceIte,h0,h1,q1,q2,Int.reduceAdd]
 ·simp -implicitDefEqProofs only[go_sem,↓reduceIte,h0,h1,q1]
theorem Vj (T:World) (h:Hp) (b:XK):Zc Tryz.prog T 135 #[.agg (X3 b).toArray] h fun v' h'=>v'=.bool (decide (ZU b))∧h'=h.push (.cells (X3 b).toArray 128):=by
 refine Zc.Zi (args:=[_]) Tryz.func135 rfl rfl rfl rfl ?_
 unfold X3
 by_cases q1:1≤b.r
 ·by_cases q2:b.r≤65536
  ·by_cases q3:0≤b.n
   ·by_cases q4:b.n<5
    ·have e:ZU b:=⟨⟨q1,q2⟩,q3,by omega⟩
     simp -implicitDefEqProofs only[go_sem,↓reduceIte,q1,q2,q3,q4,e]
    ·have e:¬ZU b:=by unfold ZU;omega
     simp -implicitDefEqProofs only[go_sem,↓reduceIte,q1,q2,q3,q4,e]
   ·have e:¬ZU b:=by unfold ZU;omega
    simp -implicitDefEqProofs only[go_sem,↓reduceIte,q1,q2,q3,e]
  ·have e:¬ZU b:=by unfold ZU;omega
   simp -implicitDefEqProofs only[go_sem,↓reduceIte,q1,q2,e]
 ·have e:¬ZU b:=by unfold ZU;omega
  simp -implicitDefEqProofs only[go_sem,↓reduceIte,q1,e]
theorem UQ (T:World) (h:Hp) (a b:XK):Zc Tryz.prog T 136 #[.agg (X3 a).toArray,.agg (X3 b).toArray] h fun v' h'=>v'=.int .i64 (Ou a b)∧Zg h.size h h':=by
 refine Zc.Zi (args:=[_,_]) Tryz.func136 rfl rfl rfl rfl ?_
 unfold X3
 simp -implicitDefEqProofs only[go_sem,↓reduceIte]
 refine VS.w (h.size+2) [] (.q 0 (.q 1 (.q 2 (.q 3 (.q 5 (.q 6 (.q 7 (.q 8 (.s 4 (.s 9 (.s 10 (.s 11 (.q 12 .nil))))))))))))) mixed (by kernel_rfl) ?_
 simp -implicitDefEqProofs only[go_sem,↓reduceIte]
 refine (WE T _ _ _).pure ?_
 simp -implicitDefEqProofs only[go_sem,↓reduceIte]
 refine (WE T _ _ _).pure ?_
 simp -implicitDefEqProofs only[go_sem,↓reduceIte]
 refine⟨(Zg.refl _ _).Yh (by simp) _,?_⟩
 refine (kC T _ _ (SA a.r b.r) (SA a.n b.n) ?_ ?_).pure ?_
 ·simp -implicitDefEqProofs only[go_sem,↓reduceIte]
 ·simp -implicitDefEqProofs only[go_sem,↓reduceIte]
 unfold Ou
 simp -implicitDefEqProofs only[go_sem,↓reduceIte]
 refine⟨(Zg.refl _ _).Yh (by simp) _,?_⟩
 (repeat' (first|exact Zg.refl _ _|assumption|refine Zg.add ?_ _|refine Zg.Zm ?_ (by first|omega|(simp;omega)) _|refine Zg.trans (by assumption) ?_))
theorem Mt (T:World) (h:Hp) (v:Vt):Zc Tryz.prog T 138 #[.agg (Zo v).toArray] h fun v' h'=>v'=.bool (decide (Yb v))∧Zg h.size h h':=by
 refine Zc.Zi (args:=[_]) Tryz.func138 rfl rfl rfl rfl ?_
 unfold Zo
 by_cases q1:0≤v.slot
 ·by_cases q2:v.slot<40
  ·simp -implicitDefEqProofs only[go_sem,↓reduceIte,q1,q2]
   refine (Vj T _ v.b).use ?_
   rintro _ _ ⟨rfl,rfl⟩
   unfold X3
   by_cases q3:ZU v.b
   ·simp -implicitDefEqProofs only[go_sem,↓reduceIte,q3]
    refine (JQ T _ v.k v.c v.s v.nm v.v).use ?_
    rintro _ _ ⟨rfl,rfl⟩
    by_cases q4:YL v.k v.c v.s v.nm v.v=0
    ·have e:Yb v:=⟨⟨q1,by omega⟩,q3,q4⟩
     simp -implicitDefEqProofs only[go_sem,↓reduceIte,q4,e]
     (repeat' (first|exact Zg.refl _ _|assumption|refine Zg.add ?_ _|refine Zg.Zm ?_ (by first|omega|(simp;omega)) _|refine Zg.trans (by assumption) ?_))
    ·have e:¬Yb v:=fun h=>q4 h.2.2
     simp -implicitDefEqProofs only[go_sem,↓reduceIte,q4,e]
     (repeat' (first|exact Zg.refl _ _|assumption|refine Zg.add ?_ _|refine Zg.Zm ?_ (by first|omega|(simp;omega)) _|refine Zg.trans (by assumption) ?_))
   ·have e:¬Yb v:=fun h=>q3 h.2.1
    simp -implicitDefEqProofs only[go_sem,↓reduceIte,q3,e]
  ·have e:¬Yb v:=by unfold Yb;omega
   simp -implicitDefEqProofs only[go_sem,↓reduceIte,q1,q2,e]
 ·have e:¬Yb v:=by unfold Yb;omega
  simp -implicitDefEqProofs only[go_sem,↓reduceIte,q1,e]
theorem QG {h:Hp} {v:Value} {l:List Vt} (s:Ts Zo 8 h v l):∃p cap,v=.slice p l.length cap∧(l≠[]→∃b o,p=some ⟨b,o,none⟩∧b<h.size∧(∀i (hi:i<l.length),hc h ⟨b,o+i*8,none⟩=some (.int .i64 l[i].slot))∧∀i (hi:i<l.length),rd h ⟨b,o+i*8,none⟩ 8=some (Zo l[i])):=by
 obtain⟨p,cap,hv,Ur⟩:=Ts.open (enc:=Zo) (n:=8) (fun _=>rfl) (by decide) s
 refine⟨p,cap,hv,fun Ys=>?_⟩
 obtain⟨b,o,hp,hb,YO⟩:=Ur Ys
 exact⟨b,o,hp,hb,fun i hi=>(YO i hi).hc (i:=0) rfl,fun i hi=>(YO i hi).rd (by simp[Zo]) rfl⟩
def Ov (l:List Vt) (j:Nat):Int:=((l[j]?).map (·.slot)).getD (-1)
def WH (l:List Vt) (i:Nat):Int:=if i=0 then -1 else Ov l (i-1)
def VM (p:XK) (l:List Vt) (i:Nat):Bool:=match l[i]? with
 | some v=>decide (Yb v∧¬below p v.b∧(i=0∨Ov l (i-1)<v.slot))
 | none=>true
def XC (p:XK) (l:List Vt):Int:=if ¬ZU p∧¬(p.r=0∧p.n=0) then 5 else if (List.range l.length).all (VM p l)=true then 0 else 5
theorem Ox {l:List Vt} {j:Nat} (hj:j<l.length):Ov l j=l[j].slot:=by
 unfold Ov;rw[List.getElem?_eq_getElem hj];rfl
theorem Lv {p:XK} {l:List Vt} {i:Nat} (hi:i<l.length):VM p l i=true↔Yb l[i]∧¬below p l[i].b∧(i=0∨Ov l (i-1)<l[i].slot):=by
 unfold VM
 rw[List.getElem?_eq_getElem hi]
 simp only[decide_eq_true_eq]
theorem IJ {p:XK} {l:List Vt} {i:Nat} (hi:i<l.length):VM p l i=true↔Yb l[i]∧¬below p l[i].b∧WH l i<l[i].slot:=by
 rw[Lv hi]
 unfold WH
 by_cases h0:i=0
 ·rw[if_pos h0]
  constructor
  ·rintro⟨h1,h2,_⟩;exact⟨h1,h2,by have:=h1.1.1;omega⟩
  ·rintro⟨h1,h2,_⟩;exact⟨h1,h2,.inl h0⟩
 ·rw[if_neg h0]
  constructor
  ·rintro⟨h1,h2,h3⟩;exact⟨h1,h2,h3.resolve_left h0⟩
  ·rintro⟨h1,h2,h3⟩;exact⟨h1,h2,.inr h3⟩
theorem Ni {p:XK} {l:List Vt} (hp:¬(¬ZU p∧¬(p.r=0∧p.n=0))) (hg:∀j,j<l.length→VM p l j=true):XC p l=0:=by
 unfold XC
 rw[if_neg hp,if_pos (List.all_eq_true.2 fun i hi=>hg i (List.mem_range.1 hi))]
theorem QH {p:XK} {l:List Vt} {i:Nat} (hi:i<l.length) (hb:VM p l i=false):XC p l=5:=by
 unfold XC
 split
 ·rfl
 ·rw[if_neg]
  intro h
  have:=List.all_eq_true.1 h i (List.mem_range.2 hi)
  rw[hb]at this;cases this
def YD (p:XK) (v:Value):List Value:=[.int .i64 p.r,.int .i64 p.n,v]
theorem SW (T:World) (h:Hp) (p:XK) (u:Value) (l:List Vt) (s:Ts Zo 8 h u l) (hlen:l.length≤4611686018427387904) :
  Zc Tryz.prog T 134 #[.agg (YD p u).toArray] h fun v' h'=>v'=.int .i64 (XC p l)∧Zg h.size h h':=by
 obtain⟨pv,cv,rfl,YO⟩:=QG s
 refine Zc.Zi (args:=[_]) Tryz.func134 rfl rfl rfl rfl ?_
 unfold YD
 by_cases z:p.r=0∧p.n=0
 ·obtain⟨z1,z2⟩:=z
  have Hl:¬(¬ZU p∧¬(p.r=0∧p.n=0)):=fun h=>h.2 ⟨z1,z2⟩
  simp -implicitDefEqProofs only[go_sem,↓reduceIte,z1,z2]
  obtain⟨H,hH⟩:=ZA (h.push (.cells [.int .i64 0,.int .i64 0,.slice pv l.length cv].toArray 131):Hp)
  have x0:H[h.size]? = some (.cells (YD p (.slice pv l.length cv)).toArray 131):=by rw[hH];unfold YD;rw[z1,z2];exact Zb
  have Bd:Zg h.size h H:=by rw[hH];(repeat' (first|exact Zg.refl _ _|assumption|refine Zg.add ?_ _|refine Zg.Zm ?_ (by first|omega|(simp;omega)) _|refine Zg.trans (by assumption) ?_))
  rw[←hH]
  clear hH
  have hz:=Za x0
  refine VS.ZW (fun F g=>Zg H.size H g∧F 1=.pointer (some ⟨h.size,0,none⟩)∧F 17=.slice pv l.length cv∧F 18=.int .i64 l.length∧∃i:Nat,i≤l.length∧F 19=.int .i64 i∧F 3=.int .i64 (WH l i)∧∀j,j<i→VM p l j=true)
   (fun F _=>l.length-(vi (F 19)).toNat) rfl ⟨Zg.refl _ _,rfl,rfl,rfl,0,by omega,rfl,rfl,fun j hj=>by omega⟩ ?_
  rintro F g ⟨hg,f1,f17,f18,i,hi,f19,f3,Y3⟩
  have SU:=hg.size
  have H9:Zg h.size h g:=Bd.trans (hg.mono (by omega))
  by_cases ZC:i<l.length
  ·have ZL:(i:Int)<l.length:=by omega
   obtain⟨bb,oo,rfl,UP,Ga,YO⟩:=YO (by intro e;rw[e]at ZC;simp at ZC)
   have Zkn:bb<H.size:=by have:=Bd.size;omega
   have r1:rd g ⟨bb,oo+i*8,none⟩ 8=some (Zo l[i]):=by
    rw[JI H9 (by exact UP)];exact YO i ZC
   have rp:rd g ⟨h.size,0,none⟩ 2=some [.int .i64 p.r,.int .i64 p.n]:=by rw[JI hg (by exact hz),Z5 x0 (by simp[YD])];rfl
   have hsl:=Ox ZC
   have gl:=IJ (p:=p) ZC
   obtain⟨v,hv⟩:=ZA (l[i])
   rw[←hv]at r1 gl hsl
   unfold Zo at r1
   have YH:WH l (i+1)=v.slot:=by unfold WH;rw[if_neg (by omega),Nat.add_sub_cancel];exact hsl
   simp -implicitDefEqProofs only[go_sem,↓reduceIte,f1,f17,f18,f19,ZL,r1]
   refine (Mt T _ v).use ?_
   rintro _ g1 ⟨rfl,b1⟩
   have b1s:=b1.size
   simp only[Array.size_push]at b1s
   have y0:g1[g.size]? = some (.cells [.int .i64 v.slot,.int .i64 v.b.r,.int .i64 v.b.n,.int .i64 v.k,.int .i64 v.c,.int .i64 v.s,.int .i64 v.nm,.int .i64 v.v].toArray 161):=b1.get (by simp) Zb
   have y1:hc g1 ⟨g.size,0,none⟩=some (.int .i64 v.slot):=by rw[Zh y0];rfl
   have y2:rd g1 ⟨g.size,1,none⟩ 2=some [.int .i64 v.b.r,.int .i64 v.b.n]:=by rw[Z5 y0 (by simp)];rfl
   have gN:Zg g.size g g1:=(Zg.push (Nat.le_refl _) _).trans (b1.mono (by simp))
   have y3:rd g1 ⟨h.size,0,none⟩ 2=some [.int .i64 p.r,.int .i64 p.n]:=by rw[JI gN (by show h.size<g.size;omega)];exact rp
   have QQ:Zg h.size h g1:=H9.trans (gN.mono (by omega))
   have Oa:Zg H.size H g1:=hg.trans (gN.mono (by omega))
   by_cases c1:Yb v
   ·by_cases c2:v.slot≤WH l i
    ·have e:=QH (p:=p) ZC (by cases Fu:VM p l i with|false=>rfl|true=>exact absurd (gl.1 Fu).2.2 (by omega))
     simp -implicitDefEqProofs only[go_sem,↓reduceIte,f1,f3,c1,c2,y1,e,QQ]
    ·simp -implicitDefEqProofs only[go_sem,↓reduceIte,f1,f3,c1,c2,y1,y2,y3]
     refine (UQ T _ v.b p).use ?_
     rintro _ g2 ⟨rfl,b2⟩
     have y4:hc g2 ⟨g.size,0,none⟩=some (.int .i64 v.slot):=by rw[b2.hc (by show g.size<g1.size;omega)];exact y1
     have To:Zg h.size h g2:=QQ.trans (b2.mono (by have:=QQ.size;omega))
     have Qt:Zg H.size H g2:=Oa.trans (b2.mono (by have:=Oa.size;omega))
     by_cases c3:below p v.b
     ·have e:=QH (p:=p) ZC (by cases Fu:VM p l i with|false=>rfl|true=>exact absurd c3 (gl.1 Fu).2.1)
      have kD:=(Vi v.b p).2 c3
      simp -implicitDefEqProofs only[go_sem,↓reduceIte,kD,e,To]
     ·have kD:¬0<Ou v.b p:=fun h=>c3 ((Vi v.b p).1 h)
      simp -implicitDefEqProofs only[go_sem,↓reduceIte,kD,f1,f17,f18,f19,y4]
      refine⟨⟨Qt,f1,f17,f18,i+1,ZC,rfl,by rw[YH];rfl,fun j hj=>?_⟩,?_⟩
      ·by_cases We:j=i
       ·subst We;exact gl.2 ⟨c1,c3,by omega⟩
       ·exact Y3 j (by omega)
      ·simp only[vi,Zl,↓reduceIte,f19];omega
   ·have e:=QH (p:=p) ZC (by cases Fu:VM p l i with|false=>rfl|true=>exact absurd (gl.1 Fu).1 c1)
    simp -implicitDefEqProofs only[go_sem,↓reduceIte,c1,e,QQ]
  ·have YF:¬(i:Int)<l.length:=by omega
   obtain rfl:i=l.length:=by omega
   have e:=Ni Hl Y3
   simp -implicitDefEqProofs only[go_sem,↓reduceIte,f17,f18,f19,YF,e,H9]
 ·have z':¬p.r=0∨¬p.n=0:=by omega
  by_cases q:ZU p
  ·have Hl:¬(¬ZU p∧¬(p.r=0∧p.n=0)):=fun h=>h.1 q
   have zz:(p.r=0∧p.n=0)=False:=eq_false z
   by_cases z1:p.r=0
   ·have z2:¬p.n=0:=fun e=>z ⟨z1,e⟩
    exact absurd q.1.1 (by omega)
   ·simp -implicitDefEqProofs only[go_sem,↓reduceIte,z1]
    refine (Vj T _ p).use ?_
    rintro _ _ ⟨rfl,rfl⟩
    simp -implicitDefEqProofs only[go_sem,↓reduceIte,q]
    obtain⟨H,hH⟩:=ZA ((h.push (.cells [.int .i64 p.r,.int .i64 p.n,.slice pv l.length cv].toArray 131)).push (.cells (X3 p).toArray 128):Hp)
    have x0:H[h.size]? = some (.cells (YD p (.slice pv l.length cv)).toArray 131):=by rw[hH];simp only[Array.getElem?_push,Array.size_push,IntWalk.iteOmega,↓reduceIte];rfl
    have Bd:Zg h.size h H:=by rw[hH];(repeat' (first|exact Zg.refl _ _|assumption|refine Zg.add ?_ _|refine Zg.Zm ?_ (by first|omega|(simp;omega)) _|refine Zg.trans (by assumption) ?_))
    rw[←hH]
    clear hH
    have hz:=Za x0
    refine VS.ZW (fun F g=>Zg H.size H g∧F 1=.pointer (some ⟨h.size,0,none⟩)∧F 17=.slice pv l.length cv∧F 18=.int .i64 l.length∧∃i:Nat,i≤l.length∧F 19=.int .i64 i∧F 3=.int .i64 (WH l i)∧∀j,j<i→VM p l j=true)
     (fun F _=>l.length-(vi (F 19)).toNat) rfl ⟨Zg.refl _ _,rfl,rfl,rfl,0,by omega,rfl,rfl,fun j hj=>by omega⟩ ?_
    rintro F g ⟨hg,f1,f17,f18,i,hi,f19,f3,Y3⟩
    have SU:=hg.size
    have H9:Zg h.size h g:=Bd.trans (hg.mono (by omega))
    by_cases ZC:i<l.length
    ·have ZL:(i:Int)<l.length:=by omega
     obtain⟨bb,oo,rfl,UP,Ga,YO⟩:=YO (by intro e;rw[e]at ZC;simp at ZC)
     have Zkn:bb<H.size:=by have:=Bd.size;omega
     have r1:rd g ⟨bb,oo+i*8,none⟩ 8=some (Zo l[i]):=by
      rw[JI H9 (by exact UP)];exact YO i ZC
     have rp:rd g ⟨h.size,0,none⟩ 2=some [.int .i64 p.r,.int .i64 p.n]:=by rw[JI hg (by exact hz),Z5 x0 (by simp[YD])];rfl
     have hsl:=Ox ZC
     have gl:=IJ (p:=p) ZC
     obtain⟨v,hv⟩:=ZA (l[i])
     rw[←hv]at r1 gl hsl
     unfold Zo at r1
     have YH:WH l (i+1)=v.slot:=by unfold WH;rw[if_neg (by omega),Nat.add_sub_cancel];exact hsl
     simp -implicitDefEqProofs only[go_sem,↓reduceIte,f1,f17,f18,f19,ZL,r1]
     refine (Mt T _ v).use ?_
     rintro _ g1 ⟨rfl,b1⟩
     have b1s:=b1.size
     simp only[Array.size_push]at b1s
     have y0:g1[g.size]? = some (.cells [.int .i64 v.slot,.int .i64 v.b.r,.int .i64 v.b.n,.int .i64 v.k,.int .i64 v.c,.int .i64 v.s,.int .i64 v.nm,.int .i64 v.v].toArray 161):=b1.get (by simp) Zb
     have y1:hc g1 ⟨g.size,0,none⟩=some (.int .i64 v.slot):=by rw[Zh y0];rfl
     have y2:rd g1 ⟨g.size,1,none⟩ 2=some [.int .i64 v.b.r,.int .i64 v.b.n]:=by rw[Z5 y0 (by simp)];rfl
     have gN:Zg g.size g g1:=(Zg.push (Nat.le_refl _) _).trans (b1.mono (by simp))
     have y3:rd g1 ⟨h.size,0,none⟩ 2=some [.int .i64 p.r,.int .i64 p.n]:=by rw[JI gN (by show h.size<g.size;omega)];exact rp
     have QQ:Zg h.size h g1:=H9.trans (gN.mono (by omega))
     have Oa:Zg H.size H g1:=hg.trans (gN.mono (by omega))
     by_cases c1:Yb v
     ·by_cases c2:v.slot≤WH l i
      ·have e:=QH (p:=p) ZC (by cases Fu:VM p l i with|false=>rfl|true=>exact absurd (gl.1 Fu).2.2 (by omega))
       simp -implicitDefEqProofs only[go_sem,↓reduceIte,f1,f3,c1,c2,y1,e,QQ]
      ·simp -implicitDefEqProofs only[go_sem,↓reduceIte,f1,f3,c1,c2,y1,y2,y3]
       refine (UQ T _ v.b p).use ?_
       rintro _ g2 ⟨rfl,b2⟩
       have y4:hc g2 ⟨g.size,0,none⟩=some (.int .i64 v.slot):=by rw[b2.hc (by show g.size<g1.size;omega)];exact y1
       have To:Zg h.size h g2:=QQ.trans (b2.mono (by have:=QQ.size;omega))
       have Qt:Zg H.size H g2:=Oa.trans (b2.mono (by have:=Oa.size;omega))
       by_cases c3:below p v.b
       ·have e:=QH (p:=p) ZC (by cases Fu:VM p l i with|false=>rfl|true=>exact absurd c3 (gl.1 Fu).2.1)
        have kD:=(Vi v.b p).2 c3
        simp -implicitDefEqProofs only[go_sem,↓reduceIte,kD,e,To]
       ·have kD:¬0<Ou v.b p:=fun h=>c3 ((Vi v.b p).1 h)
        simp -implicitDefEqProofs only[go_sem,↓reduceIte,kD,f1,f17,f18,f19,y4]
        refine⟨⟨Qt,f1,f17,f18,i+1,ZC,rfl,by rw[YH];rfl,fun j hj=>?_⟩,?_⟩
        ·by_cases We:j=i
         ·subst We;exact gl.2 ⟨c1,c3,by omega⟩
         ·exact Y3 j (by omega)
        ·simp only[vi,Zl,↓reduceIte,f19];omega
     ·have e:=QH (p:=p) ZC (by cases Fu:VM p l i with|false=>rfl|true=>exact absurd (gl.1 Fu).1 c1)
      simp -implicitDefEqProofs only[go_sem,↓reduceIte,c1,e,QQ]
    ·have YF:¬(i:Int)<l.length:=by omega
     obtain rfl:i=l.length:=by omega
     have e:=Ni Hl Y3
     simp -implicitDefEqProofs only[go_sem,↓reduceIte,f17,f18,f19,YF,e,H9]
  ·have e:XC p l=5:=by unfold XC;rw[if_pos ⟨q,z⟩]
   by_cases z1:p.r=0
   ·have z2:¬p.n=0:=fun e=>z ⟨z1,e⟩
    have hb:=Vj T (h.push (.cells [.int .i64 0,.int .i64 p.n,.slice pv l.length cv].toArray 131)) p
    simp -implicitDefEqProofs only[go_sem,↓reduceIte,z1,z2]
    unfold X3 at hb
    rw[z1]at hb
    refine hb.use ?_
    rintro _ _ ⟨rfl,rfl⟩
    simp -implicitDefEqProofs only[go_sem,↓reduceIte,q,e]
   ·simp -implicitDefEqProofs only[go_sem,↓reduceIte,z1]
    refine (Vj T _ p).use ?_
    rintro _ _ ⟨rfl,rfl⟩
    simp -implicitDefEqProofs only[go_sem,↓reduceIte,q,e]
theorem WJ (T:World) (h:Hp) (u:Value) (l:List Vt) (s:Ts Zo 8 h u l) (hl:l.length≤2199023255552) :
  Zc Tryz.prog T 137 #[u] h fun v' h'=>X9 h.size 161 Zo 8 h' v' l∧Zg h.size h h':=by
 obtain⟨p,c,rfl,Ur⟩:=QG s
 refine Zc.Zi (args:=[_]) Tryz.func137 rfl rfl rfl rfl ?_
 cases p with
 | none=>
  have:l=[]:=by
   cases l with
   | nil=>rfl
   | cons x l=>obtain⟨b,o,hp,_⟩:=Ur (by simp);cases hp
  subst this
  simp -implicitDefEqProofs only[go_sem,↓reduceIte]
  exact X9.nil _ _ _ _ _
 | some a=>
  simp -implicitDefEqProofs only[go_sem,↓reduceIte]
  refine Sh (E:=161) (B:=h.size) (n:=8) (bytes:=64) TA Tryz.underlying129 Pd ah rfl ag (fun _=>rfl) (X9.KI _ _ Zo 8 _ _) (by simp) (s.Z9 (Zg.push (Nat.le_refl _) _)) (by simp;omega) (by omega) ?_
  intro v' h' ho hb _
  simp -implicitDefEqProofs only[go_sem,↓reduceIte]
  exact⟨by simpa using ho,(Zg.push (Nat.le_refl _) _).trans hb⟩
def Yv (p:XK) (l:List Vt) (b:XK):Int:=if XC p l≠0 then 5 else if ¬ZU b then 2 else if below b p then 7 else 0
theorem Nj (p:XK) (l:List Vt):XC p l=0∨XC p l=5:=by
 unfold XC
 repeat' split
 all_goals simp
def Ea (B:Nat) (h':Hp) (v':Value) (p:XK) (l:List Vt) (b:XK):Prop:=∃w1 w2,v'=.tuple [.agg (YD (if Yv p l b=0 then b else ⟨0,0⟩) w1).toArray,w2,.int .i64 (Yv p l b)].toArray ∧
 X9 B 161 Zo 8 h' w1 (if Yv p l b=0 then l else [])∧X9 B 161 Zo 8 h' w2 (if Yv p l b=0 then l else [])
theorem VN (T:World) (h:Hp) (p:XK) (u:Value) (l:List Vt) (b:XK) (s:Ts Zo 8 h u l) (hl:l.length≤2199023255552) :
  Zc Tryz.prog T 114 #[.agg (YD p u).toArray,.agg (X3 b).toArray] h fun v' h'=>Ea h.size h' v' p l b∧Zg h.size h h':=by
 obtain⟨pu,cu,rfl,Ur⟩:=QG s
 refine Zc.XI (args:=[_,_]) Tryz.func114 rfl rfl rfl rfl ?_
 unfold YD X3
 simp -implicitDefEqProofs only[go_sem,↓reduceIte]
 have Vk:Zg h.size h ((((h.push (.cells [.int .i64 p.r,.int .i64 p.n,.slice pu l.length cu].toArray 131)).push (.cells [.int .i64 b.r,.int .i64 b.n].toArray 128)).push (.cells [.int .i64 0,.int .i64 0,.slice none 0 0].toArray 131))):=by (repeat' (first|exact Zg.refl _ _|assumption|refine Zg.add ?_ _|refine Zg.Zm ?_ (by first|omega|(simp;omega)) _|refine Zg.trans (by assumption) ?_))
 refine (SW T _ p _ l (s.Z9 Vk) (by omega)).use ?_
 rintro _ g1 ⟨rfl,b1⟩
 have x0:g1[h.size]? = some (.cells (YD p (.slice pu l.length cu)).toArray 131):=b1.get (by simp only[Array.size_push];omega) (by simp only[Array.getElem?_push,Array.size_push,IntWalk.iteOmega,↓reduceIte,YD])
 have x1:g1[h.size+1]? = some (.cells [.int .i64 b.r,.int .i64 b.n].toArray 128):=b1.get (by simp only[Array.size_push];omega) (by simp only[Array.getElem?_push,Array.size_push,IntWalk.iteOmega,↓reduceIte])
 have x2:g1[h.size+2]? = some (.cells [.int .i64 0,.int .i64 0,.slice none 0 0].toArray 131):=b1.get (by simp only[Array.size_push];omega) (by simp only[Array.getElem?_push,Array.size_push,IntWalk.iteOmega,↓reduceIte])
 have QQ:Zg h.size h g1:=Vk.trans (b1.mono (by simp;omega))
 have z1:=Za x2
 clear b1 Vk
 have fin:∀(G:Hp) (w:List Value),w.length=3→w.all Z8=true→G[h.size+2]? = some (.cells [.int .i64 0,.int .i64 0,.slice none 0 0].toArray 131)→wr G ⟨h.size+1+1,0,none⟩ w=some (G.setIfInBounds (h.size+1+1) (.cells w.toArray 131)):=by
  intro G w h3 h1 hx
  rw[ZR (b:=h.size+1+1) hx 0 w,ZO (by rw[h3];rfl),if_pos ⟨by rw[h3];simp,h1⟩]
 unfold Ea
 rcases Nj p l with e0|e0
 ·have r1:=Zq x1 (n:=2) rfl
  simp -implicitDefEqProofs only[go_sem,↓reduceIte,e0,r1]
  refine (Vj T _ b).use ?_
  rintro _ _ ⟨rfl,rfl⟩
  by_cases q1:ZU b
  ·have rp:rd g1 ⟨h.size,0,none⟩ 2=some [.int .i64 p.r,.int .i64 p.n]:=by rw[Z5 x0 (by simp[YD])];rfl
   have z2:h.size<g1.size:=by omega
   have z3:h.size+1<g1.size:=by omega
   unfold X3
   simp -implicitDefEqProofs only[go_sem,↓reduceIte,q1,r1,rp,z2,z3]
   refine (UQ T _ b p).use ?_
   rintro _ g2 ⟨rfl,b2⟩
   have Eb:Zg g1.size g1 g2:=(Zg.push (Nat.le_refl _) _).trans (b2.mono (by simp))
   have xC:=Eb.get z2 x0
   have uD:=Eb.get z3 x1
   have xE:=Eb.get z1 x2
   have To:=QQ.trans (Eb.mono QQ.size)
   have z5:=Za xE
   by_cases q2:below b p
   ·have e:Yv p l b=7:=by unfold Yv;rw[if_neg (by rw[e0];decide),if_neg (fun h=>h q1),if_pos q2]
    have w2:=fin g2 [.int .i64 0,.int .i64 0,.slice none 0 0] rfl rfl xE
    have qw:Ou b p<0:=(Pq b p).2 q2
    simp -implicitDefEqProofs only[go_sem,↓reduceIte,qw,e,w2,z5]
    refine⟨⟨_,_,rfl,X9.nil _ _ _ _ _,X9.nil _ _ _ _ _⟩,?_⟩
    exact To.Zm (by omega) _
   ·have e:Yv p l b=0:=by unfold Yv;rw[if_neg (by rw[e0];decide),if_neg (fun h=>h q1),if_neg q2]
    have r1':=Zq uD (n:=2) rfl
    have rv:hc g2 ⟨h.size,2,none⟩=some (.slice pu l.length cu):=by rw[Zh xC];rfl
    have qw:¬Ou b p<0:=fun h=>q2 ((Pq b p).1 h)
    simp -implicitDefEqProofs only[go_sem,↓reduceIte,qw]
    refine VS.w (h.size+2) [] (.q 0 (.q 1 (.q 2 (.q 5 (.q 6 (.s 3 (.q 4 (.s 7 (.s 8 (.q 9 (.q 10 .nil))))))))))) mixed (by kernel_rfl) ?_
    have z6:h.size<h.size+2:=by omega
    have z7:h.size+1<h.size+2:=by omega
    simp -implicitDefEqProofs only[go_sem,↓reduceIte,r1',rv,z6,z7]
    refine (WJ T _ _ l (s.Z9 To) hl).use ?_
    rintro w1 g3 ⟨o1,b3⟩
    obtain⟨p1,c1,rfl,_⟩:=o1.open
    have b3':Zg (h.size+2) g2 g3:=b3.mono (by omega)
    simp -implicitDefEqProofs only[go_sem,↓reduceIte]
    refine⟨b3',?_⟩
    refine (WJ T _ _ l ((s.Z9 To).Z9 b3) hl).use ?_
    rintro w2 g4 ⟨o2,b4⟩
    have b3s:=b3.size
    have b4s:=b4.size
    have Bf:Zg (h.size+2) g2 g4:=b3'.trans (b4.mono (by omega))
    have ZcC:g4[h.size+2]? = some (.cells [.int .i64 0,.int .i64 0,.slice none 0 0].toArray 131):=b4.get (by omega) (b3.get z5 xE)
    have z8:=Za ZcC
    have wf:=fin g4 [.int .i64 b.r,.int .i64 b.n,.slice p1 l.length c1] rfl rfl ZcC
    have az:=To.trans ((b3.trans (b4.mono b3s)).mono To.size)
    simp -implicitDefEqProofs only[go_sem,↓reduceIte,e,wf,z8]
    refine⟨Bf,Bf.Zm (by omega) _,⟨_,_,rfl,?_,?_⟩,?_⟩
    ·exact (((o1.Z9 b4 (Nat.le_refl _)).mono (B':=h.size+1+1+1) (by omega)).ZT (by omega) _).mono (by omega)
    ·exact ((o2.mono (B':=h.size+1+1+1) (by omega)).ZT (by omega) _).mono (by omega)
    ·exact az.Zm (by omega) _
  ·have e:Yv p l b=2:=by unfold Yv;rw[if_neg (by rw[e0];decide),if_pos q1]
   have w2:=fin g1 [.int .i64 0,.int .i64 0,.slice none 0 0] rfl rfl x2
   simp -implicitDefEqProofs only[go_sem,↓reduceIte,q1,e,w2,z1]
   exact⟨⟨_,_,rfl,X9.nil _ _ _ _ _,X9.nil _ _ _ _ _⟩,(QQ.Zm (by omega) _).Yh (by simp;omega) _⟩
 ·have e:Yv p l b=5:=by unfold Yv;rw[if_pos (by rw[e0];decide)]
  have w2:=fin g1 [.int .i64 0,.int .i64 0,.slice none 0 0] rfl rfl x2
  simp -implicitDefEqProofs only[go_sem,↓reduceIte,e0,e,w2,z1]
  exact⟨⟨_,_,rfl,X9.nil _ _ _ _ _,X9.nil _ _ _ _ _⟩,QQ.Zm (by omega) _⟩
def xF (l:List Vt):Prop:=∀i j (hi:i<l.length) (hj:j<l.length),i<j→l[i].slot<l[j].slot
theorem Ps {p:XK} {l:List Vt} (h:XC p l=0):∀j,j<l.length→VM p l j=true:=by
 intro j hj
 unfold XC at h
 split at h
 ·cases h
 ·split at h
  ·rename_i Y3
   exact List.all_eq_true.1 Y3 j (List.mem_range.2 hj)
  ·cases h
theorem Lw {p:XK} {l:List Vt} (h:XC p l=0):xF l:=by
 have hg:=Ps h
 intro i j
 induction j with
 | zero=>intro _ _ h;omega
 | succ j ih=>
  intro hi hj gI
  have h1:=(Lv hj).1 (hg _ hj)
  have h2:Ov l j<l[j+1].slot:=by
   rcases h1.2.2 with h|h
   ·omega
   ·simpa using h
  rw[Ox (by omega)]at h2
  by_cases e:i=j
  ·subst e;exact h2
  ·exact Int.lt_trans (ih hi (by omega) (by omega)) h2
theorem Bi {p:XK} {l:List Vt} (h:XC p l=0):∀x∈l,Yb x:=by
 intro x hx
 obtain⟨j,hj,rfl⟩:=List.mem_iff_getElem.1 hx
 exact ((Lv hj).1 (Ps h j hj)).1
def Qv (l:List Vt) (v:Vt):List Vt:=l.filter (fun x=>decide (x.slot<v.slot))++v :: l.filter (fun x=>decide (v.slot<x.slot))
theorem Nk {α:Type} (q:α→Bool) (l:List α) (i:Nat) (h1:∀j (hj:j<l.length),j<i→q l[j]=true) (h2:∀j (hj:j<l.length),i≤j→q l[j]=false):l.filter q=l.take i:=by
 conv=>lhs;rw[←List.take_append_drop i l]
 rw[List.filter_append,List.filter_eq_self.2,List.filter_eq_nil_iff.2,List.append_nil]
 ·intro x hx
  obtain⟨j,hj,rfl⟩:=List.mem_iff_getElem.1 hx
  rw[List.getElem_drop]
  rw[h2 _ (by rw[List.length_drop]at hj;omega) (by omega)]
  decide
 ·intro x hx
  obtain⟨j,hj,rfl⟩:=List.mem_iff_getElem.1 hx
  rw[List.length_take]at hj
  rw[List.getElem_take]
  exact h1 _ (by omega) (by omega)
theorem Nl {α:Type} (q:α→Bool) (l:List α) (i:Nat) (h1:∀j (hj:j<l.length),j<i→q l[j]=false) (h2:∀j (hj:j<l.length),i≤j→q l[j]=true):l.filter q=l.drop i:=by
 conv=>lhs;rw[←List.take_append_drop i l]
 rw[List.filter_append,List.filter_eq_nil_iff.2,List.filter_eq_self.2,List.nil_append]
 ·intro x hx
  obtain⟨j,hj,rfl⟩:=List.mem_iff_getElem.1 hx
  rw[List.getElem_drop]
  exact h2 _ (by rw[List.length_drop]at hj;omega) (by omega)
 ·intro x hx
  obtain⟨j,hj,rfl⟩:=List.mem_iff_getElem.1 hx
  rw[List.length_take]at hj
  rw[List.getElem_take,h1 _ (by omega) (by omega)]
  decide
theorem kE {l:List Vt} (hs:xF l) {v:Vt} {i:Nat} (hi:i<l.length) (he:l[i].slot=v.slot):Qv l v=l.set i v:=by
 have a1:l.filter (fun x=>decide (x.slot<v.slot))=l.take i:=Nk _ _ _
  (fun j hj We=>decide_eq_true (by have:=hs j i hj hi We;omega))
  (fun j hj gI=>decide_eq_false (by
    by_cases e:i=j
    ·subst e;omega
    ·have:=hs i j hi hj (by omega);omega))
 have a2:l.filter (fun x=>decide (v.slot<x.slot))=l.drop (i+1):=Nl _ _ _
  (fun j hj We=>decide_eq_false (by
    by_cases e:j=i
    ·subst e;omega
    ·have:=hs j i hj hi (by omega);omega))
  (fun j hj gI=>decide_eq_true (by have:=hs i j hi hj (by omega);omega))
 rw[Qv,a1,a2,List.set_eq_take_append_cons_drop,if_pos hi]
theorem kF {l:List Vt} (hs:xF l) {v:Vt} {i:Nat} (hi:i≤l.length) (h1:∀j (hj:j<l.length),j<i→l[j].slot<v.slot) (h2:∀j (hj:j<l.length),i≤j→v.slot<l[j].slot):Qv l v=l.take i++v :: l.drop i:=by
 have a1:l.filter (fun x=>decide (x.slot<v.slot))=l.take i:=Nk _ _ _ (fun j hj We=>decide_eq_true (h1 j hj We)) (fun j hj gI=>decide_eq_false (by have:=h2 j hj gI;omega))
 have a2:l.filter (fun x=>decide (v.slot<x.slot))=l.drop i:=Nl _ _ _ (fun j hj We=>decide_eq_false (by have:=h1 j hj We;omega)) (fun j hj gI=>decide_eq_true (h2 j hj gI))
 rw[Qv,a1,a2]
def YW:List Nat→Nat
 | []=>0
 | x :: l=>x+256*YW l
def Dg (l:List Nat):Prop:=∀x∈l,x<256
theorem Dg.getD {l:List Nat} (w:Dg l) (i:Nat):l.getD i 0<256:=ZH w i
theorem Dg.set {l:List Nat} {x:Nat} (w:Dg l) (i:Nat) (hx:x<256):Dg (l.set i x):=by
 intro y hy
 rcases List.mem_or_eq_of_mem_set hy with h|h
 ·exact w y h
 ·rw[h];exact hx
theorem qx {l:List Nat} (w:Dg l):YW l<256 ^ l.length:=by
 induction l with
 | nil=>simp[YW]
 | cons x l ih=>
  have h1:=ih fun y hy=>w y (List.mem_cons_of_mem _ hy)
  have h2:=w x List.mem_cons_self
  simp only[YW,List.length_cons,Nat.pow_succ]
  omega
theorem Bj {l:List Nat} (w:Dg l) (i:Nat):l.getD i 0=YW l/256 ^ i%256:=by
 induction l generalizing i with
 | nil=>simp[YW]
 | cons x l ih=>
  have hx:=w x List.mem_cons_self
  cases i with
  | zero=>simp only[List.getD_cons_zero,YW,Nat.pow_zero,Nat.div_one];omega
  | succ i=>
   rw[List.getD_cons_succ,ih (fun y hy=>w y (List.mem_cons_of_mem _ hy)) i,YW,Nat.pow_succ,Nat.mul_comm (256 ^ i) 256,←Nat.div_div_eq_div_mul]
   congr 2
   omega
theorem getD_none {l:List Nat} {i:Nat} (hi:¬i<l.length):l.getD i 0=0:=by
 rw[List.getD_eq_getElem?_getD,List.getElem?_eq_none (by omega)];rfl
def uv (x:Nat):Value:=.int .u64 (x:Nat)
def Gb (n top:Nat):List Nat:=[n%67108864,n/67108864%67108864,n/4503599627370496%67108864,n/302231454903657293676544%67108864,n/20282409603651670423947251286016+top*16777216]
theorem Mu (x n:Nat) (hn:n≤64):Yx .u64 (x:Int) (n:Int)=((x*2 ^ n%18446744073709551616:Nat):Int):=by
 rw[HC .u64 x n (by show n≤64;omega),RT];rfl
theorem Sn (x n:Nat) (hn:n≤64):Xa .u64 (x:Int) (n:Int)=((x/2 ^ n:Nat):Int):=by
 rw[Sg .u64 x n (by show n≤64;omega),Nat.shiftRight_eq_div_pow]
theorem TK (x:Nat) (hx:x<18446744073709551616):Z7 .and .u64 (x:Int) 67108863=((x%67108864:Nat):Int):=by
 have h:=pU x 67108863 hx (by decide)
 have e:x &&& 67108863=x%67108864:=Nat.and_two_pow_sub_one_eq_mod x 26
 rw[e]at h
 exact h
theorem aA (L b:Nat) (hL:L<72057594037927936) (hb:b<256):Z7 .or .u64 ((L*256:Nat):Int) (b:Int)=((L*256+b:Nat):Int):=by
 rw[Cy _ _ (by omega) (by omega),JJ (k:=8) (by omega) (by omega)]
theorem ZcD (L:Nat) (hL:L<72057594037927936):Yx .u64 (L:Int) 8=((L*256:Nat):Int):=by
 have h:=Mu L 8 (by decide)
 rw[show L*2 ^ 8%18446744073709551616=L*256 by omega]at h
 exact h
theorem Ec {l:List Nat} {m:Nat} (hm:m<l.length):YW (l.drop m)=l.getD m 0+256*YW (l.drop (m+1)):=by
 rw[List.drop_eq_getElem_cons hm]
 have e:l.getD m 0=l[m]:=by rw[List.getD_eq_getElem?_getD,List.getElem?_eq_getElem hm];rfl
 rw[e];rfl
theorem Dg.drop {l:List Nat} (w:Dg l) (i:Nat):Dg (l.drop i):=fun x hx=>w x (List.mem_of_mem_drop hx)
theorem UR {l:List Nat} (w:Dg l) {n:Nat} (hn:l.length≤n):YW l<256 ^ n:=Nat.lt_of_lt_of_le (qx w) (Nat.pow_le_pow_right (by omega) hn)
set_option maxHeartbeats 1000000 in
theorem Oy (T:World) (h:Hp) (v:Value) (l:List Nat) (top:Nat) (s:Bs h v l) (hl:l.length=16) (ht:top≤1) :
  Zc Tryz.prog T 118 #[v,.int .u64 top] h fun v' h'=>v'=.agg ((Gb (YW l) top).map uv).toArray∧Zg h.size h h':=by
 have wb:=s.byte
 obtain⟨p,c,rfl,hc⟩:=s.Uk
 obtain⟨bb,oo,rfl,UP,hc⟩:=hc (by intro e;subst e;simp at hl)
 obtain⟨lo,hi,rfl,hlo,hhi⟩:∃lo hi:List Nat,l=lo++hi∧lo.length=8∧hi.length=8:=⟨l.take 8,l.drop 8,(List.take_append_drop 8 l).symm,by rw[List.length_take];omega,by rw[List.length_drop];omega⟩
 have wlo:Dg lo:=fun x hx=>wb x (List.mem_append_left _ hx)
 have whi:Dg hi:=fun x hx=>wb x (List.mem_append_right _ hx)
 refine Zc.Zi (args:=[_,_]) Tryz.func118 rfl rfl rfl rfl ?_
 simp -implicitDefEqProofs only[go_sem,↓reduceIte]
 obtain⟨Z,hZ⟩:∃Z:Obj,Z=.cells #[.int .u64 0,.int .u64 0,.int .u64 0,.int .u64 0,.int .u64 0] 211:=⟨_,rfl⟩
 refine VS.ZW (fun F g=>g=h.push (.cells #[.int .u64 0,.int .u64 0,.int .u64 0,.int .u64 0,.int .u64 0] 211)∧F 0=.slice (some ⟨bb,oo,none⟩) (lo++hi).length c∧F 1=.int .u64 top∧F 4=.pointer (some ⟨h.size,0,none⟩)∧∃j:Nat,j≤8∧F 7=.int .i64 ((j:Int)-1)∧F 5=.int .u64 (YW (lo.drop j):Nat)∧F 6=.int .u64 (YW (hi.drop j):Nat))
  (fun F _=>(vi (F 7)+1).toNat) rfl ⟨rfl,rfl,rfl,rfl,8,by omega,rfl,by rw[List.drop_of_length_le (by omega)];rfl,by rw[List.drop_of_length_le (by omega)];rfl⟩ ?_
 rintro F g ⟨rfl,f0,f1,f4,j,hj,f7,f5,f6⟩
 by_cases ZC:0<j
 ·obtain⟨m,rfl⟩:∃m,j=m+1:=⟨j-1,by omega⟩
  have e1:((m+1:Nat):Int)-1=(m:Nat):=by omega
  rw[e1]at f7
  have g1:=hc m (by omega)
  have g2:=hc (8+m) (by omega)
  have d1:(lo++hi).getD m 0=lo.getD m 0:=by rw[List.getD_eq_getElem?_getD,List.getElem?_append_left (by omega),List.getD_eq_getElem?_getD]
  have d2:(lo++hi).getD (8+m) 0=hi.getD m 0:=by rw[List.getD_eq_getElem?_getD,List.getElem?_append_right (by omega),hlo,Nat.add_sub_cancel_left,List.getD_eq_getElem?_getD]
  rw[d1]at g1
  rw[d2]at g2
  have x1:=wlo.getD m
  have x2:=whi.getD m
  have n1:YW (lo.drop m)=YW (lo.drop (m+1))*256+lo.getD m 0:=by rw[Ec (l:=lo) (by omega)];omega
  have n2:YW (hi.drop m)=YW (hi.drop (m+1))*256+hi.getD m 0:=by rw[Ec (l:=hi) (by omega)];omega
  have b1:=UR (wlo.drop (m+1)) (n:=7) (by rw[List.length_drop];omega)
  have b2:=UR (whi.drop (m+1)) (n:=7) (by rw[List.length_drop];omega)
  rw[show 256 ^ 7=72057594037927936 from rfl]at b1 b2
  have s1:=ZcD _ b1
  have s2:=ZcD _ b2
  have o1:=aA _ _ b1 x1
  have o2:=aA _ _ b2 x2
  have em:(8:Int)+(m:Int)=((8+m:Nat):Int):=by omega
  have k1:(m:Int)<(lo++hi).length:=by omega
  have k2:((8+m:Nat):Int)<(lo++hi).length:=by omega
  have k0:(0:Int)≤m:=by omega
  have Zkq:bb<h.size:=UP
  have m1:((lo.getD m 0:Nat):Int)%18446744073709551616=(lo.getD m 0:Nat):=by omega
  have m2:((hi.getD m 0:Nat):Int)%18446744073709551616=(hi.getD m 0:Nat):=by omega
  simp -implicitDefEqProofs only[go_sem,↓reduceIte,f0,f1,f4,f5,f6,f7,m1,m2,k0,k1,k2,em,Int.toNat_natCast,Zkq,g1,g2,s1,s2,o1,o2]
  refine⟨⟨rfl,f0,f1,f4,m,by omega,rfl,?_,?_⟩,?_⟩
  ·rw[n1];rfl
  ·rw[n2];rfl
  ·simp only[vi,Zl,↓reduceIte,f7];omega
 ·obtain rfl:j=0:=by omega
  rw[List.drop_zero]at f5 f6
  have k0:¬(0:Int)≤((0:Nat):Int)-1:=by omega
  have b1:=UR wlo (n:=8) (by omega)
  have b2:=UR whi (n:=8) (by omega)
  rw[show 256 ^ 8=18446744073709551616 from rfl]at b1 b2
  have NV:YW (lo++hi)=YW lo+18446744073709551616*YW hi:=by
   have:∀a b:List Nat,YW (a++b)=YW a+256 ^ a.length*YW b:=by
    intro a b
    induction a with
    | nil=>simp[YW]
    | cons x a ih=>simp only[List.cons_append,YW,ih,List.length_cons,Nat.pow_succ,Nat.mul_add,Nat.add_assoc];congr 2;rw[←Nat.mul_assoc,Nat.mul_comm 256]
   rw[this,hlo]
  rw[NV]
  generalize YW lo=L at *
  generalize YW hi=M at *
  have q1:=TK L b1
  have q2:Xa .u64 (L:Int) 26=((L/2 ^ 26:Nat):Int):=Sn L 26 (by decide)
  have q3:=TK (L/2 ^ 26) (by omega)
  have q4:Xa .u64 (L:Int) 52=((L/2 ^ 52:Nat):Int):=Sn L 52 (by decide)
  have q5:Yx .u64 (M:Int) 12=((M*2 ^ 12%18446744073709551616:Nat):Int):=Mu M 12 (by decide)
  have q6:=Cy (L/2 ^ 52) (M*2 ^ 12%18446744073709551616) (by omega) (by omega)
  rw[Nat.or_comm,JJ (k:=12) (by omega) (by omega)]at q6
  have q7:=TK (M*2 ^ 12%18446744073709551616+L/2 ^ 52) (by omega)
  have q8:Xa .u64 (M:Int) 14=((M/2 ^ 14:Nat):Int):=Sn M 14 (by decide)
  have q9:=TK (M/2 ^ 14) (by omega)
  have q10:Xa .u64 (M:Int) 40=((M/2 ^ 40:Nat):Int):=Sn M 40 (by decide)
  have q11:Yx .u64 (top:Int) 24=((top*2 ^ 24%18446744073709551616:Nat):Int):=Mu top 24 (by decide)
  have q12:=Cy (M/2 ^ 40) (top*2 ^ 24%18446744073709551616) (by omega) (by omega)
  rw[Nat.or_comm,JJ (k:=24) (by omega) (by omega)]at q12
  simp -implicitDefEqProofs only[go_sem,↓reduceIte,f0,f1,f4,f5,f6,f7,k0,q1,q2,q3,q4,q5,q6,q7,q8,q9,q10,q11,q12]
  have w1:L%67108864=(L+18446744073709551616*M)%67108864:=by omega
  have w2:L/2 ^ 26%67108864=(L+18446744073709551616*M)/67108864%67108864:=by omega
  have w3:(M*2 ^ 12%18446744073709551616+L/2 ^ 52)%67108864=(L+18446744073709551616*M)/4503599627370496%67108864:=by omega
  have w4:M/2 ^ 14%67108864=(L+18446744073709551616*M)/302231454903657293676544%67108864:=by omega
  have w5:top*2 ^ 24%18446744073709551616+M/2 ^ 40=(L+18446744073709551616*M)/20282409603651670423947251286016+top*16777216:=by omega
  rw[w1,w2,w3,w4,w5]
  rfl
def Ro (l:List Nat) (i:Nat):List Nat:=
 if i<4 then (l.set i (l.getD i 0%67108864)).set (i+1) ((l.set i (l.getD i 0%67108864)).getD (i+1) 0+l.getD i 0/67108864)
 else (l.set i (l.getD i 0%67108864)).set 0 ((l.set i (l.getD i 0%67108864)).getD 0 0+5*(l.getD i 0/67108864))
def Jb (l:List Nat):Nat→List Nat
 | 0=>l
 | i+1=>Ro (Jb l i) i
def Yj (K:Nat) (l:List Nat):Prop:=∀x∈l,x<K
theorem Yj.getD {K:Nat} {l:List Nat} (w:Yj K l) (hK:0<K) (i:Nat):l.getD i 0<K:=by
 by_cases hi:i<l.length
 ·have e:l.getD i 0=l[i]:=by rw[List.getD_eq_getElem?_getD,List.getElem?_eq_getElem hi];rfl
  rw[e];exact w _ (List.getElem_mem hi)
 ·rw[getD_none hi];exact hK
theorem Yj.set {K:Nat} {l:List Nat} (w:Yj K l) (i x:Nat) (hx:x<K):Yj K (l.set i x):=by
 intro y hy
 rcases List.mem_or_eq_of_mem_set hy with h|h
 ·exact w y h
 ·rw[h];exact hx
theorem Yj.mono {K K':Nat} {l:List Nat} (w:Yj K l) (h:K≤K'):Yj K' l:=fun x hx=>Nat.lt_of_lt_of_le (w x hx) h
theorem KW (l:List Nat) (i:Nat):(Ro l i).length=l.length:=by
 unfold Ro;split<;>simp
theorem SX (l:List Nat):∀i,(Jb l i).length=l.length
 | 0=>rfl
 | i+1=>by rw[Jb,KW,SX l i]
theorem dJ {K:Nat} {l:List Nat} {i:Nat} (w:Yj K l) (h0:67108864≤K) (hK:K≤2 ^ 62):Yj (K+2 ^ 39) (Ro l i):=by
 have hx:=w.getD (by omega) i
 have w1:Yj K (l.set i (l.getD i 0%67108864)):=w.set i _ (by omega)
 have hy:=w1.getD (by omega) (i+1)
 have hz:=w1.getD (by omega) 0
 unfold Ro
 split
 ·exact (w1.mono (by omega)).set _ _ (by omega)
 ·exact (w1.mono (by omega)).set _ _ (by omega)
theorem IK {K:Nat} {l:List Nat} (w:Yj K l) (h0:67108864≤K) (hK:K≤2 ^ 61):∀i,i≤5→Yj (K+i*2 ^ 39) (Jb l i)
 | 0,_=>by rw[Nat.zero_mul,Nat.add_zero];exact w
 | i+1,hi=>by
  have:=dJ (i:=i) (IK w h0 hK i (by omega)) (by omega) (by omega)
  rw[Jb]
  exact this.mono (by omega)
theorem Pv {l:List Nat} {i j x:Nat} (h:i≠j):(l.set i x).getD j 0=l.getD j 0:=by
 rw[List.getD_eq_getElem?_getD,List.getD_eq_getElem?_getD,List.getElem?_set_ne h]
def Ye (l:List Nat):Obj:=.cells (l.map uv++[]).toArray 211
theorem aB (x:Nat):Xa .u64 (x:Int) 26=((x/67108864:Nat):Int):=Sn x 26 (by decide)
set_option maxHeartbeats 1000000 in
theorem Bm (T:World) (h:Hp) (bk:Nat) (l:List Nat) (hl:l.length=5) (w:Yj (2 ^ 61) l) (hb:h[bk]? = some (Ye l)) :
  Zc Tryz.prog T 143 #[.pointer (some ⟨bk,0,none⟩)] h fun v' h'=>∃a,a=Jb l 5∧h'=h.setIfInBounds bk (Ye ((a.set 1 (a.getD 1 0+a.getD 0 0/67108864)).set 0 (a.getD 0 0%67108864))):=by
 refine Zc.Zi (args:=[_]) Tryz.func143 rfl rfl rfl rfl ?_
 simp -implicitDefEqProofs only[go_sem,↓reduceIte]
 refine VS.ZW (fun F g=>F 0=.pointer (some ⟨bk,0,none⟩)∧∃i:Nat,i≤5∧F 4=.int .i64 i∧g=h.setIfInBounds bk (Ye (Jb l i)))
  (fun F _=>5-(vi (F 4)).toNat) rfl ⟨rfl,0,by omega,rfl,(Q0 hb).symm⟩ ?_
 rintro F g ⟨f0,i,hi,f4,rfl⟩
 have hx:=ZQ (o:=Ye (Jb l i)) hb
 have hw:=IK w (by decide) (by decide) i hi
 have hw2:=hw.getD (by omega) i
 have hln:(Jb l i).length=5:=by rw[SX,hl]
 by_cases ZC:i<5
 ·have ZL:(i:Int)<5:=by omega
  have YH:Jb l (i+1)=Ro (Jb l i) i:=rfl
  obtain⟨a,ha⟩:=ZA (Jb l i)
  rw[←ha]at hx hw hw2 hln YH ⊢
  obtain⟨G,hG⟩:=ZA (h.setIfInBounds bk (Ye a))
  rw[←hG]at hx ⊢
  have g1:=ZK hx (i:=i) (by omega)
  unfold uv at g1
  obtain⟨x,nV⟩:=ZA (a.getD i 0)
  rw[←nV]at g1 hw2
  have e1:=aB x
  have e2:=TK x (by omega)
  simp -implicitDefEqProofs only[go_sem,↓reduceIte,f0,f4,ZL,Int.toNat_natCast,Nat.zero_add,g1,e1]
  refine VS.w (bk+1) [8] (.q 0 (.q 1 (.q 2 (.q 3 (.q 4 (.q 5 (.q 6 (.q 7 (.w 8 .nil))))))))) mixed (by kernel_rfl) ?_
  have c1:Jh _ ⟨bk,i,none⟩ (.int .u64 (x%67108864:Nat))=_:=Z0 (f:=uv) hx (i:=i) (by omega) (x%67108864) rfl
  have Qf:=ZQ (o:=.cells ((a.set i (x%67108864)).map uv++[]).toArray 211) hx
  have Bn:=hw.set i (x%67108864) (by omega)
  have Ur:Ro a i=if i<4 then (a.set i (x%67108864)).set (i+1) ((a.set i (x%67108864)).getD (i+1) 0+x/67108864) else (a.set i (x%67108864)).set 0 ((a.set i (x%67108864)).getD 0 0+5*(x/67108864)):=by rw[nV];rfl
  have ki:(a.set i (x%67108864)).length=5:=by rw[List.length_set,hln]
  obtain⟨a1,ha1⟩:=ZA (a.set i (x%67108864))
  rw[←ha1]at Qf Bn Ur ki c1
  obtain⟨G1,gO⟩:=ZA (G.setIfInBounds bk (.cells (a1.map uv++[]).toArray 211))
  rw[←gO]at Qf c1
  by_cases h4:i<4
  ·have xH:(i:Int)<4:=by omega
   rw[if_pos h4]at Ur
   simp -implicitDefEqProofs only[go_sem,↓reduceIte,f0,f4,ZL,Int.toNat_natCast,Nat.zero_add,g1,e1,e2,c1,xH]
   refine VS.w (bk+1) [10] (.q 0 (.q 1 (.q 2 (.q 3 (.q 4 (.q 5 (.q 6 (.q 7 (.q 8 (.q 9 (.w 10 .nil))))))))))) mixed (by kernel_rfl) ?_
   have g2:=ZK Qf (i:=i+1) (by omega)
   unfold uv at g2
   have hy:=Bn.getD (by omega) (i+1)
   obtain⟨y,hyy⟩:=ZA (a1.getD (i+1) 0)
   rw[←hyy]at g2 hy Ur
   have e3:(y:Int)+((x/67108864:Nat):Int)=((y+x/67108864:Nat):Int):=by omega
   have e4:((y+x/67108864:Nat):Int)%18446744073709551616=((y+x/67108864:Nat):Int):=by omega
   have ei:(i:Int)+1=((i+1:Nat):Int):=rfl
   have hi1:((i+1:Nat):Int)<5:=by omega
   have c2:Jh G1 ⟨bk,i+1,none⟩ (.int .u64 (y+x/67108864:Nat))=_:=Z0 (f:=uv) Qf (i:=i+1) (by omega) (y+x/67108864) rfl
   simp -implicitDefEqProofs only[go_sem,↓reduceIte,f0,f4,ZL,ei,hi1,Int.toNat_natCast,Nat.zero_add,g2,e3,e4,c2]
   refine⟨⟨f0,i+1,ZC,rfl,?_⟩,?_⟩
   ·rw[gO,set_set,hG,set_set,YH,Ur];rfl
   ·simp only[vi,Zl,↓reduceIte,f4];omega
  ·have xH:¬(i:Int)<4:=by omega
   rw[if_neg h4]at Ur
   simp -implicitDefEqProofs only[go_sem,↓reduceIte,f0,f4,ZL,Int.toNat_natCast,Nat.zero_add,g1,e1,e2,c1,xH]
   refine VS.w (bk+1) [9] (.q 0 (.q 1 (.q 2 (.q 3 (.q 4 (.q 5 (.q 6 (.q 7 (.q 8 (.w 9 .nil)))))))))) mixed (by kernel_rfl) ?_
   have g2:=ZK Qf (i:=0) (by omega)
   unfold uv at g2
   have hy:=Bn.getD (by omega) 0
   obtain⟨y,hyy⟩:=ZA (a1.getD 0 0)
   rw[←hyy]at g2 hy Ur
   have e5:(5:Int)*((x/67108864:Nat):Int)=((5*(x/67108864):Nat):Int):=by omega
   have e6:((5*(x/67108864):Nat):Int)%18446744073709551616=((5*(x/67108864):Nat):Int):=by omega
   have e3:(y:Int)+((5*(x/67108864):Nat):Int)=((y+5*(x/67108864):Nat):Int):=by omega
   have e4:((y+5*(x/67108864):Nat):Int)%18446744073709551616=((y+5*(x/67108864):Nat):Int):=by omega
   have c2:Jh G1 ⟨bk,0,none⟩ (.int .u64 (y+5*(x/67108864):Nat))=_:=Z0 (f:=uv) Qf (i:=0) (by omega) (y+5*(x/67108864)) rfl
   simp -implicitDefEqProofs only[go_sem,↓reduceIte,f0,f4,ZL,Int.toNat_natCast,Nat.zero_add,g2,e3,e4,e5,e6,c2]
   refine⟨⟨f0,i+1,ZC,rfl,?_⟩,?_⟩
   ·rw[gO,set_set,hG,set_set,YH,Ur];rfl
   ·simp only[vi,Zl,↓reduceIte,f4];omega
 ·have YF:¬(i:Int)<5:=by omega
  obtain rfl:i=5:=by omega
  obtain⟨a,ha⟩:=ZA (Jb l 5)
  rw[←ha]at hx hw hw2 hln ⊢
  obtain⟨G,hG⟩:=ZA (h.setIfInBounds bk (Ye a))
  rw[←hG]at hx ⊢
  have g0:=ZK hx (i:=0) (by omega)
  have g1:=ZK hx (i:=1) (by omega)
  have y0:=hw.getD (by omega) 0
  have y1:=hw.getD (by omega) 1
  unfold uv at g0 g1
  obtain⟨x,nV⟩:=ZA (a.getD 0 0)
  obtain⟨y,hyy⟩:=ZA (a.getD 1 0)
  rw[←nV]at g0 y0
  rw[←hyy]at g1 y1
  have e1:=aB x
  have e2:=TK x (by omega)
  have e3:(y:Int)+((x/67108864:Nat):Int)=((y+x/67108864:Nat):Int):=by omega
  have e4:((y+x/67108864:Nat):Int)%18446744073709551616=((y+x/67108864:Nat):Int):=by omega
  have c5:((5:Nat):Int)=5:=rfl
  rw[c5]at f4 YF
  simp -implicitDefEqProofs only[go_sem,↓reduceIte,f0,f4,YF]
  refine VS.w (bk+1) [12] (.q 0 (.q 1 (.q 2 (.q 3 (.q 4 (.q 5 (.q 6 (.q 7 (.q 8 (.q 9 (.q 10 (.q 11 (.w 12 .nil))))))))))))) mixed (by kernel_rfl) ?_
  have c1:Jh G ⟨bk,1,none⟩ (.int .u64 (y+x/67108864:Nat))=_:=Z0 (f:=uv) hx (i:=1) (by omega) (y+x/67108864) rfl
  have Qf:=ZQ (o:=.cells ((a.set 1 (y+x/67108864)).map uv++[]).toArray 211) hx
  have ki:(a.set 1 (y+x/67108864)).length=5:=by rw[List.length_set,hln]
  obtain⟨a1,ha1⟩:=ZA (a.set 1 (y+x/67108864))
  rw[←ha1]at Qf ki c1
  obtain⟨G1,gO⟩:=ZA (G.setIfInBounds bk (.cells (a1.map uv++[]).toArray 211))
  rw[←gO]at Qf c1
  have g2:=ZK Qf (i:=0) (by omega)
  unfold uv at g2
  have g2e:a1.getD 0 0=x:=by rw[ha1,Pv (by decide),←nV]
  rw[g2e]at g2
  simp -implicitDefEqProofs only[go_sem,↓reduceIte,f0,Nat.zero_add,g0,g1,e1,e3,e4,c1]
  refine VS.w (bk+1) [7] (.q 0 (.q 1 (.q 2 (.q 3 (.q 4 (.q 5 (.q 6 (.w 7 .nil)))))))) mixed (by kernel_rfl) ?_
  have c2:Jh G1 ⟨bk,0,none⟩ (.int .u64 (x%67108864:Nat))=_:=Z0 (f:=uv) Qf (i:=0) (by omega) (x%67108864) rfl
  simp -implicitDefEqProofs only[go_sem,↓reduceIte,f0,Nat.zero_add,g2,e2,c2]
  rw[gO,set_set,hG,set_set,ha1]
  exact⟨a,rfl,by rw[←nV,←hyy];rfl⟩
theorem getD_set_ne {l:List Nat} {i j x:Nat} (h:i≠j):(l.set i x).getD j 0=l.getD j 0:=by
 rw[List.getD_eq_getElem?_getD,List.getD_eq_getElem?_getD,List.getElem?_set_ne h]
def H16:Nat:=256 ^ 16
def Vl:Nat:=4*256 ^ 16-5
def Yl:List Nat→Nat
 | []=>0
 | x :: l=>x+67108864*Yl l
theorem Pw:Vl=1361129467683753853853498429727072845819:=rfl
theorem Bo {a b c d e:Nat}:∃q r0 r1 r2 r3 r4:Nat,Jb [a,b,c,d,e] 5=[r0,r1,r2,r3,r4]∧Yl [a,b,c,d,e]=Yl [r0,r1,r2,r3,r4]+Vl*q∧r1<67108864∧r2<67108864∧r3<67108864∧r4<67108864∧r0≤67108863+5*q∧q≤(e+(d+(c+(b+a/67108864)/67108864)/67108864)/67108864)/67108864:=by
 refine⟨(e+(d+(c+(b+a/67108864)/67108864)/67108864)/67108864)/67108864,a%67108864+5*((e+(d+(c+(b+a/67108864)/67108864)/67108864)/67108864)/67108864),(b+a/67108864)%67108864,(c+(b+a/67108864)/67108864)%67108864,(d+(c+(b+a/67108864)/67108864)/67108864)%67108864,(e+(d+(c+(b+a/67108864)/67108864)/67108864)/67108864)%67108864,?_,?_,Nat.mod_lt _ (by decide),Nat.mod_lt _ (by decide),Nat.mod_lt _ (by decide),Nat.mod_lt _ (by decide),by omega,Nat.le_refl _⟩
 ·rfl
 ·simp only[Yl,Pw]
  omega
theorem NZ {l:List Nat} (h:l.length=5):∃a b c d e,l=[a,b,c,d,e]:=by
 match l,h with
 | [a,b,c,d,e],_=>exact⟨a,b,c,d,e,rfl⟩
def Y4 (l:List Nat):List Nat:=((Jb l 5).set 1 ((Jb l 5).getD 1 0+(Jb l 5).getD 0 0/67108864)).set 0 ((Jb l 5).getD 0 0%67108864)
theorem Yj.NZ {K a b c d e:Nat} (ha:a<K) (hb:b<K) (hc:c<K) (hd:d<K) (he:e<K):Yj K [a,b,c,d,e]:=by
 intro x hx
 simp only[List.mem_cons,List.not_mem_nil,or_false]at hx
 rcases hx with rfl|rfl|rfl|rfl|rfl<;>assumption
theorem Yj.qA {K a b c d e:Nat} (w:Yj K [a,b,c,d,e]):a<K∧b<K∧c<K∧d<K∧e<K:=
 ⟨w a (by simp),w b (by simp),w c (by simp),w d (by simp),w e (by simp)⟩
theorem So {l:List Nat} (hl:l.length=5) (w:Yj (2 ^ 61) l):(Y4 l).length=5∧Yj 134217728 (Y4 l)∧Yl (Y4 l)%Vl=Yl l%Vl∧Yl (Y4 l)<4*H16+2 ^ 44:=by
 obtain⟨a,b,c,d,e,rfl⟩:=NZ hl
 obtain⟨wa,wb,wc,wd,we⟩:=w.qA
 obtain⟨q,r0,r1,r2,r3,r4,hc,hv,h1,h2,h3,h4,h0,hq⟩:=@Bo a b c d e
 have hL:Y4 [a,b,c,d,e]=[r0%67108864,r1+r0/67108864,r2,r3,r4]:=by unfold Y4;rw[hc];rfl
 have hq':q<2 ^ 36:=by omega
 have hr:r0/67108864<8192:=by omega
 have NV:Yl [r0%67108864,r1+r0/67108864,r2,r3,r4]=Yl [r0,r1,r2,r3,r4]:=by simp only[Yl];omega
 rw[hL]
 refine⟨rfl,Yj.NZ (by omega) (by omega) (by omega) (by omega) (by omega),?_,?_⟩
 ·rw[NV,hv,Nat.add_mul_mod_self_left]
 ·rw[NV]
  have e16:H16=340282366920938463463374607431768211456:=rfl
  rw[e16]
  have h0':r0<549755813888:=by omega
  clear hv hc hq hq' hL NV h0
  simp only[Yl]
  omega
def V7 (a b:Nat) (out:List Nat) (i k:Nat):List Nat:=if i+k<5 then out.set (i+k) (out.getD (i+k) 0+a*b) else out.set (i+k-5) (out.getD (i+k-5) 0+5*a*b)
def TL (a:Nat) (bs out:List Nat) (i:Nat):Nat→List Nat
 | 0=>out
 | k+1=>V7 a (bs.getD k 0) (TL a bs out i k) i k
def Uw (xs bs:List Nat):Nat→List Nat
 | 0=>[0,0,0,0,0]
 | i+1=>TL (xs.getD i 0) bs (Uw xs bs i) i 5
theorem Gc (a b:Nat) (out:List Nat) (i k:Nat):(V7 a b out i k).length=out.length:=by unfold V7;split<;>simp
theorem Ws (a:Nat) (bs out:List Nat) (i:Nat):∀k,(TL a bs out i k).length=out.length
 | 0=>rfl
 | k+1=>by rw[TL,Gc,Ws a bs out i k]
theorem Wt (xs bs:List Nat):∀i,(Uw xs bs i).length=5
 | 0=>rfl
 | i+1=>by rw[Uw,Ws,Wt xs bs i]
theorem Oz {a b:Nat} (ha:a<268435456) (hb:b<67108864):a*b<18014398509481984:=
 Nat.lt_of_le_of_lt (Nat.mul_le_mul (Nat.le_of_lt_succ (show a<268435455+1 from ha)) (Nat.le_of_lt_succ (show b<67108863+1 from hb))) (by decide)
theorem Lx {a b:Nat} (ha:a<268435456) (hb:b<67108864):5*a*b<90071992547409920:=by
 have:=Oz ha hb
 rw[Nat.mul_assoc];omega
theorem kG {K a b:Nat} {out:List Nat} {i k:Nat} (w:Yj K out) (hK:0<K) (ha:a<268435456) (hb:b<67108864):Yj (K+90071992547409920) (V7 a b out i k):=by
 have h1:=Oz ha hb
 have h2:=Lx ha hb
 have q1:=w.getD hK (i+k)
 have q2:=w.getD hK (i+k-5)
 unfold V7
 split
 ·exact (w.mono (by omega)).set _ _ (by omega)
 ·exact (w.mono (by omega)).set _ _ (by omega)
theorem Gd {K a:Nat} {bs out:List Nat} {i:Nat} (w:Yj K out) (hK:0<K) (ha:a<268435456) (hb:Yj 67108864 bs):∀k,Yj (K+k*90071992547409920) (TL a bs out i k)
 | 0=>by rw[Nat.zero_mul];exact w
 | k+1=>by
  rw[TL,Nat.add_mul,Nat.one_mul,←Nat.add_assoc]
  exact kG (Gd w hK ha hb k) (by omega) ha (hb.getD (by omega) k)
theorem Ge {xs bs:List Nat} (ha:Yj 268435456 xs) (hb:Yj 67108864 bs):∀i,Yj (1+i*450359962737049600) (Uw xs bs i)
 | 0=>Yj.NZ (by omega) (by omega) (by omega) (by omega) (by omega)
 | i+1=>by
  rw[Uw]
  exact (Gd (Ge ha hb i) (by omega) (ha.getD (by omega) i) hb 5).mono (by omega)
theorem OB:∀{l:List Nat} {i x:Nat},i<l.length→Yl (l.set i (l.getD i 0+x))=Yl l+x*67108864 ^ i
 | y :: l,0,x,_=>by simp only[List.set_cons_zero,List.getD_cons_zero,Yl,Nat.pow_zero,Nat.mul_one];omega
 | y :: l,i+1,x,h=>by
  simp only[List.set_cons_succ,List.getD_cons_succ,Yl]
  rw[OB (l:=l) (i:=i) (x:=x) (by simpa using h),Nat.pow_succ,←Nat.mul_assoc]
  omega
theorem X5:67108864 ^ 5=Vl+5:=rfl
theorem ZcH (v a b y P:Nat):(v+5*a*b*y)%P=(v+a*b*(y*(P+5)))%P:=by
 have e:a*b*(y*(P+5))=5*a*b*y+P*(a*b*y):=by
  rw[Nat.mul_add,Nat.mul_add,Nat.add_comm]
  congr 1
  ·rw[Nat.mul_comm y 5,←Nat.mul_assoc,Nat.mul_comm (a*b) 5,←Nat.mul_assoc 5 a b]
  ·rw[Nat.mul_comm y P,←Nat.mul_assoc,Nat.mul_comm (a*b) P,Nat.mul_assoc]
 rw[e,←Nat.add_assoc,Nat.add_mul_mod_self_left]
theorem dK {a b:Nat} {out:List Nat} {i k:Nat} (hl:out.length=5) (hi:i<5) (hk:k<5):Yl (V7 a b out i k)%Vl=(Yl out+a*b*67108864 ^ (i+k))%Vl:=by
 unfold V7
 split
 ·rename_i h
  rw[OB (by omega)]
 ·rename_i h
  rw[OB (by omega)]
  obtain⟨j,hj⟩:∃j,i+k=j+5:=⟨i+k-5,by omega⟩
  rw[hj,Nat.add_sub_cancel,Nat.pow_add,X5]
  exact ZcH _ _ _ _ _
def qB (bs:List Nat):Nat→Nat
 | 0=>0
 | k+1=>qB bs k+bs.getD k 0*67108864 ^ k
theorem Ed {bs:List Nat} (h:bs.length=5):qB bs 5=Yl bs:=by
 obtain⟨a,b,c,d,e,rfl⟩:=NZ h
 simp only[qB,Yl,List.getD_cons_zero,List.getD_cons_succ]
 omega
theorem Ee {a:Nat} {bs out:List Nat} {i:Nat} (hl:out.length=5) (hi:i<5):∀k,k≤5→Yl (TL a bs out i k)%Vl=(Yl out+a*67108864 ^ i*qB bs k)%Vl
 | 0,_=>by rw[TL,qB,Nat.mul_zero,Nat.add_zero]
 | k+1,hk=>by
  rw[TL,dK (by rw[Ws,hl]) hi (by omega),Nat.add_mod,Ee hl hi k (by omega),←Nat.add_mod,qB,Nat.mul_add,←Nat.add_assoc,Nat.pow_add]
  congr 2
  rw[Nat.mul_assoc,Nat.mul_assoc a]
  congr 1
  rw[←Nat.mul_assoc,Nat.mul_comm (bs.getD k 0),Nat.mul_assoc]
theorem Ef {xs bs:List Nat} (hb:bs.length=5):∀i,i≤5→Yl (Uw xs bs i)%Vl=(qB xs i*Yl bs)%Vl
 | 0,_=>by rw[qB,Nat.zero_mul];rfl
 | i+1,hi=>by
  rw[Uw,Ee (Wt xs bs i) (by omega) 5 (by omega),Nat.add_mod,Ef hb i (by omega),←Nat.add_mod,Ed hb,qB,Nat.add_mul]
theorem IL {xs bs:List Nat} (ha:xs.length=5) (hb:bs.length=5) (wa:Yj 268435456 xs) (wb:Yj 67108864 bs) :
  Yj (2 ^ 61) (Uw xs bs 5)∧(Uw xs bs 5).length=5∧Yl (Uw xs bs 5)%Vl=Yl xs*Yl bs%Vl:=
 ⟨(Ge wa wb 5).mono (by decide),Wt xs bs 5,by rw[Ef hb 5 (by omega),Ed ha]⟩
def SC (m:List Nat):Nat→List Nat
 | 0=>m.set 0 (m.getD 0 0+5)
 | i+1=>((SC m i).set (i+1) ((SC m i).getD (i+1) 0+(SC m i).getD i 0/67108864)).set i ((SC m i).getD i 0%67108864)
theorem Ly (m:List Nat):∀i,(SC m i).length=m.length
 | 0=>by simp[SC]
 | i+1=>by rw[SC,List.length_set,List.length_set,Ly m i]
theorem kH {m:List Nat} (w:Yj 134217728 m):∀i,i≤10→Yj (134217728+6+i*8) (SC m i)
 | 0,_=>(w.mono (by omega)).set _ _ (by have:=w.getD (by omega) 0;omega)
 | i+1,hi=>by
  have h:=kH w i (by omega)
  have q1:=h.getD (by omega) (i+1)
  have q2:=h.getD (by omega) i
  rw[SC]
  exact ((h.mono (by omega)).set _ _ (by omega)).set _ _ (by omega)
def TM (m:List Nat):List Nat:=if (SC m 4).getD 4 0/67108864=0 then m else (SC m 4).set 4 ((SC m 4).getD 4 0%67108864)
theorem Zku {A B C P:Nat} (h1:A+5=B) (h2:B=C) (h3:C<P+5):A<P:=by omega
theorem Zkv {A B C q:Nat} (h1:A+5=B) (h2:B=C+1361129467683753853853498429727072845824*q) (hv:A<1361129467683753853853498429727072845824+2 ^ 44) (h0:¬q=0):q=1:=by omega
theorem Zkw {A B C P:Nat} (h1:A+5=B) (h2:B=C+(P+5)) (hv:A<P+5+2 ^ 44) (hP:2 ^ 45<P):A=C+P*1∧C<P:=by omega
theorem dL {m:List Nat} (hl:m.length=5) (w:Yj 134217728 m) (hv:Yl m<4*H16+2 ^ 44):(TM m).length=5∧Yj 134217728 (TM m)∧Yl (TM m)=Yl m%Vl:=by
 obtain⟨a,b,c,d,e,rfl⟩:=NZ hl
 obtain⟨wa,wb,wc,wd,we⟩:=w.qA
 obtain⟨t0,ht0⟩:∃t,t=a+5:=⟨_,rfl⟩
 obtain⟨t1,ht1⟩:∃t,t=b+t0/67108864:=⟨_,rfl⟩
 obtain⟨t2,ht2⟩:∃t,t=c+t1/67108864:=⟨_,rfl⟩
 obtain⟨t3,ht3⟩:∃t,t=d+t2/67108864:=⟨_,rfl⟩
 obtain⟨t4,ht4⟩:∃t,t=e+t3/67108864:=⟨_,rfl⟩
 have hY:SC [a,b,c,d,e] 4=[t0%67108864,t1%67108864,t2%67108864,t3%67108864,t4]:=by rw[ht4,ht3,ht2,ht1,ht0];rfl
 have hW:TM [a,b,c,d,e]=if t4/67108864=0 then [a,b,c,d,e] else [t0%67108864,t1%67108864,t2%67108864,t3%67108864,t4%67108864]:=by unfold TM;rw[hY];rfl
 have e16:H16=340282366920938463463374607431768211456:=rfl
 rw[hW]
 have hs:Yl [a,b,c,d,e]+5=Yl [t0%67108864,t1%67108864,t2%67108864,t3%67108864,t4]:=by simp only[Yl];omega
 have hx:Yl [t0%67108864,t1%67108864,t2%67108864,t3%67108864,t4]=Yl [t0%67108864,t1%67108864,t2%67108864,t3%67108864,t4%67108864]+(Vl+5)*(t4/67108864):=by rw[Pw];simp only[Yl];omega
 have hb4:Yl [t0%67108864,t1%67108864,t2%67108864,t3%67108864,t4%67108864]<Vl+5:=by rw[Pw];simp only[Yl];omega
 have hH:4*H16=Vl+5:=rfl
 rw[hH]at hv
 split
 ·rename_i h0
  refine⟨rfl,w,?_⟩
  rw[h0,Nat.mul_zero,Nat.add_zero]at hx
  rw[Nat.mod_eq_of_lt (Zku hs hx hb4)]
 ·rename_i h0
  refine⟨rfl,Yj.NZ (by omega) (by omega) (by omega) (by omega) (by omega),?_⟩
  have h1:t4/67108864=1:=by
   rw[Pw]at hx hv
   exact Zkv hs hx hv h0
  rw[h1,Nat.mul_one]at hx
  obtain⟨hk,hC⟩:=Zkw hs hx hv (by rw[Pw];decide)
  rw[hk,Nat.add_mul_mod_self_left,Nat.mod_eq_of_lt hC]
theorem Eg (T:World) (h:Hp) (bk:Nat) (l:List Nat) (hl:l.length=5) (w:Yj (2 ^ 61) l) (hb:h[bk]? = some (Ye l)) :
  Zc Tryz.prog T 143 #[.pointer (some ⟨bk,0,none⟩)] h fun v' h'=>h'=h.setIfInBounds bk (Ye (Y4 l)):=
 (Bm T h bk l hl w hb).mono fun v' h' ⟨a,ha,hh⟩=>by subst ha;exact hh
theorem Gf {l:List Nat} {i:Nat} (hi:i<l.length):nth (l.map uv) i=some (.int .u64 (l.getD i 0:Nat)):=by
 rw[Yk,List.getElem?_map,List.getElem?_eq_getElem hi,List.getD_eq_getElem?_getD,List.getElem?_eq_getElem hi];rfl
theorem TN {g:Hp} {b:Nat} {l:List Nat} (hl:l.length=5) (hx:g[b]? = some (Ye l)):rd g ⟨b,0,none⟩ 5=some (l.map uv):=by
 unfold Ye at hx
 rw[List.append_nil]at hx
 exact Zq hx (by simpa using hl)
set_option maxHeartbeats 1000000 in
theorem Eh (T:World) (h:Hp) (xs bs:List Nat) (ha:xs.length=5) (hb:bs.length=5) (wa:Yj 268435456 xs) (wb:Yj 67108864 bs) :
  Zc Tryz.prog T 119 #[.agg (xs.map uv).toArray,.agg (bs.map uv).toArray] h fun v' h'=>v'=.agg ((Y4 (Uw xs bs 5)).map uv).toArray∧Zg h.size h h':=by
 have la:(xs.map uv).length=5:=by simpa using ha
 have lb:(bs.map uv).length=5:=by simpa using hb
 have ta:(xs.map uv).take 5=xs.map uv:=List.take_of_length_le (by omega)
 refine Zc.Zi (args:=[_,_]) Tryz.func119 rfl rfl rfl rfl ?_
 simp -implicitDefEqProofs only[go_sem,↓reduceIte,la,lb,ta]
 obtain⟨H,hH⟩:=ZA (((((h.push (.cells (xs.map uv).toArray 211)).push (.cells (bs.map uv).toArray 211)).push (.cells #[.int .u64 0,.int .u64 0,.int .u64 0,.int .u64 0,.int .u64 0] 211)).push (.cells #[.int .u64 0,.int .u64 0,.int .u64 0,.int .u64 0,.int .u64 0] 211)):Hp)
 have HB:Zg h.size h H:=by rw[hH];exact (((Zg.push (Nat.le_refl _) _).Yh (by simp) _).Yh (by simp;omega) _).Yh (by simp;omega) _
 have Hs:H.size=h.size+1+1+1+1:=by rw[hH];simp
 have H1:H[h.size+1]? = some (Ye bs):=by
  rw[hH,Zs (by simp),Zs (by simp)]
  have:=Zb (h:=h.push (.cells (xs.map uv).toArray 211)) (o:=.cells (bs.map uv).toArray 211)
  rw[Array.size_push]at this
  rw[this];unfold Ye;rw[List.append_nil]
 have H3:H[h.size+1+1+1]? = some (Ye (Uw xs bs 0)):=by
  have:=Zb (h:=(((h.push (.cells (xs.map uv).toArray 211)).push (.cells (bs.map uv).toArray 211)).push (.cells #[.int .u64 0,.int .u64 0,.int .u64 0,.int .u64 0,.int .u64 0] 211))) (o:=.cells #[.int .u64 0,.int .u64 0,.int .u64 0,.int .u64 0,.int .u64 0] 211)
  rw[Array.size_push,Array.size_push,Array.size_push]at this
  rw[hH,this];rfl
 have H2:H[h.size+1+1]? = some (Ye [0,0,0,0,0]):=by
  have:=Zb (h:=((h.push (.cells (xs.map uv).toArray 211)).push (.cells (bs.map uv).toArray 211))) (o:=.cells #[.int .u64 0,.int .u64 0,.int .u64 0,.int .u64 0,.int .u64 0] 211)
  rw[Array.size_push,Array.size_push]at this
  rw[hH,Zs (by simp),this];rfl
 rw[←hH]
 clear hH
 obtain⟨bo,hbo⟩:=ZA (h.size+1+1+1)
 obtain⟨br,hbr⟩:=ZA (h.size+1+1)
 obtain⟨bb,UP⟩:=ZA (h.size+1)
 rw[←hbo]at H3 ⊢
 rw[←hbr]at H2 ⊢
 rw[←UP]at H1 ⊢
 refine VS.ZW (fun F g=>F 3=.pointer (some ⟨bb,0,none⟩)∧F 4=.pointer (some ⟨br,0,none⟩)∧F 5=.pointer (some ⟨bo,0,none⟩)∧F 10=.agg (xs.map uv).toArray∧∃i:Nat,i≤5∧F 11=.int .i64 i∧g=H.setIfInBounds bo (Ye (Uw xs bs i)))
  (fun F _=>5-(vi (F 11)).toNat) rfl ⟨rfl,rfl,rfl,rfl,0,by omega,rfl,(Q0 H3).symm⟩ ?_
 rintro F g ⟨f3,f4,f5,f10,i,hi,f11,rfl⟩
 by_cases ZC:i<5
 ·have ZL:(i:Int)<5:=by omega
  have n1:=Gf (l:=xs) (i:=i) (by omega)
  have H1':(H.setIfInBounds bo (Ye (Uw xs bs i)))[bb]? = some (Ye bs):=by rw[Array.getElem?_setIfInBounds,if_neg (by omega)];exact H1
  have r1:=TN hb H1'
  have wA:=wa.getD (by omega) i
  have xI:Uw xs bs (i+1)=TL (xs.getD i 0) bs (Uw xs bs i) i 5:=rfl
  obtain⟨a,hax⟩:=ZA (xs.getD i 0)
  rw[←hax]at n1 wA xI
  simp -implicitDefEqProofs only[go_sem,↓reduceIte,f3,f4,f5,f10,f11,ZL,Int.toNat_natCast,n1,r1]
  have wO:Yj (1+i*450359962737049600) (Uw xs bs i):=Ge wa wb i
  have lO:=Wt xs bs i
  obtain⟨o,ho⟩:=ZA (Uw xs bs i)
  rw[←ho]at xI wO lO ⊢
  refine VS.ZW (fun F g=>F 3=.pointer (some ⟨bb,0,none⟩)∧F 4=.pointer (some ⟨br,0,none⟩)∧F 5=.pointer (some ⟨bo,0,none⟩)∧F 10=.agg (xs.map uv).toArray∧F 11=.int .i64 i∧F 6=.int .i64 i∧F 7=.int .u64 a∧F 15=.agg (bs.map uv).toArray∧∃k:Nat,k≤5∧F 16=.int .i64 k∧g=H.setIfInBounds bo (Ye (TL a bs o i k)))
   (fun F _=>5-(vi (F 16)).toNat) rfl ⟨f3,f4,f5,f10,f11,rfl,rfl,rfl,0,by omega,rfl,rfl⟩ ?_
  clear f3 f4 f5 f10 f11 F
  rintro F g ⟨f3,f4,f5,f10,f11,f6,f7,f15,k,hk,f16,rfl⟩
  by_cases hlk:k<5
  ·have ZcJ:(k:Int)<5:=by omega
   have n2:=Gf (l:=bs) (i:=k) (by omega)
   have wB:=wb.getD (by omega) k
   have Ta:TL a bs o i (k+1)=V7 a (bs.getD k 0) (TL a bs o i k) i k:=rfl
   obtain⟨b,hbx⟩:=ZA (bs.getD k 0)
   rw[←hbx]at n2 wB Ta
   have wR:=Gd wO (by omega) wA wb (i:=i) k
   have lR:(TL a bs o i k).length=5:=by rw[Ws,lO]
   have hx:(H.setIfInBounds bo (Ye (TL a bs o i k)))[bo]? = some (Ye (TL a bs o i k)):=ZQ H3
   have hp:=Oz wA wB
   have hp5:=Lx wA wB
   obtain⟨r,hr⟩:=ZA (TL a bs o i k)
   rw[←hr]at Ta wR lR hx ⊢
   obtain⟨G,hG⟩:=ZA (H.setIfInBounds bo (Ye r))
   rw[←hG]at hx ⊢
   have eik:(i:Int)+(k:Int)=((i+k:Nat):Int):=rfl
   by_cases h5:i+k<5
   ·have xK:((i+k:Nat):Int)<5:=by omega
    have g1:=ZK hx (i:=i+k) (by omega)
    have y1:=wR.getD (by omega) (i+k)
    unfold uv at g1
    have hs:V7 a b r i k=r.set (i+k) (r.getD (i+k) 0+a*b):=by unfold V7;rw[if_pos h5]
    rw[hs]at Ta
    obtain⟨y,hy⟩:=ZA (r.getD (i+k) 0)
    rw[←hy]at g1 y1 Ta
    have e1:(a:Int)*(b:Int)=((a*b:Nat):Int):=(Int.natCast_mul a b).symm
    have e2:((a*b:Nat):Int)%18446744073709551616=((a*b:Nat):Int):=by omega
    obtain⟨p,hp'⟩:=ZA (a*b)
    rw[←hp']at e1 e2 hp Ta
    have e3:(y:Int)+(p:Int)=((y+p:Nat):Int):=rfl
    have e4:((y+p:Nat):Int)%18446744073709551616=((y+p:Nat):Int):=by omega
    have c1:Jh G ⟨bo,i+k,none⟩ (.int .u64 (y+p:Nat))=_:=Z0 (f:=uv) hx (i:=i+k) (by omega) (y+p) rfl
    simp -implicitDefEqProofs only[go_sem,↓reduceIte,f3,f4,f5,f6,f7,f10,f11,f15,f16,ZcJ,Int.toNat_natCast,n2,eik,xK,g1,e1,e2,e3,e4,c1]
    refine⟨⟨f3,f4,f5,f10,f11,f6,f7,f15,k+1,hlk,rfl,?_⟩,?_⟩
    ·rw[hG,set_set,Ta];rfl
    ·simp only[vi,Zl,↓reduceIte,f16];omega
   ·have xK:¬((i+k:Nat):Int)<5:=by omega
    have g1:=ZK hx (i:=i+k-5) (by omega)
    have y1:=wR.getD (by omega) (i+k-5)
    unfold uv at g1
    have hs:V7 a b r i k=r.set (i+k-5) (r.getD (i+k-5) 0+5*a*b):=by unfold V7;rw[if_neg h5]
    rw[hs]at Ta
    obtain⟨y,hy⟩:=ZA (r.getD (i+k-5) 0)
    rw[←hy]at g1 y1 Ta
    have e0:(5:Int)*(a:Int)=((5*a:Nat):Int):=rfl
    have nW:((5*a:Nat):Int)%18446744073709551616=((5*a:Nat):Int):=by omega
    have e1:((5*a:Nat):Int)*(b:Int)=((5*a*b:Nat):Int):=(Int.natCast_mul (5*a) b).symm
    have e2:((5*a*b:Nat):Int)%18446744073709551616=((5*a*b:Nat):Int):=by omega
    obtain⟨p,hp'⟩:=ZA (5*a*b)
    rw[←hp']at e1 e2 hp5 Ta
    have e3:(y:Int)+(p:Int)=((y+p:Nat):Int):=rfl
    have e4:((y+p:Nat):Int)%18446744073709551616=((y+p:Nat):Int):=by omega
    have e5:((i+k:Nat):Int)-5=((i+k-5:Nat):Int):=by omega
    have e6:((i+k-5:Nat):Int)<5:=by omega
    have c1:Jh G ⟨bo,i+k-5,none⟩ (.int .u64 (y+p:Nat))=_:=Z0 (f:=uv) hx (i:=i+k-5) (by omega) (y+p) rfl
    simp -implicitDefEqProofs only[go_sem,↓reduceIte,f3,f4,f5,f6,f7,f10,f11,f15,f16,ZcJ,Int.toNat_natCast,n2,eik,xK,g1,e0,nW,e1,e2,e3,e4,e5,e6,c1]
    refine⟨⟨f3,f4,f5,f10,f11,f6,f7,f15,k+1,hlk,rfl,?_⟩,?_⟩
    ·rw[hG,set_set,Ta];rfl
    ·simp only[vi,Zl,↓reduceIte,f16];omega
  ·have YF:¬(k:Int)<5:=by omega
   obtain rfl:k=5:=by omega
   have c5:((5:Nat):Int)=5:=rfl
   rw[c5]at f16 YF
   simp -implicitDefEqProofs only[go_sem,↓reduceIte,f3,f4,f5,f10,f11,f16,YF]
   refine⟨⟨f3,f4,f5,f10,i+1,ZC,rfl,?_⟩,?_⟩
   ·rw[xI]
   ·simp only[vi,Zl,↓reduceIte,f11];omega
 ·have YF:¬(i:Int)<5:=by omega
  obtain rfl:i=5:=by omega
  have c5:((5:Nat):Int)=5:=rfl
  rw[c5]at f11 YF
  have hx:(H.setIfInBounds bo (Ye (Uw xs bs 5)))[bo]? = some (Ye (Uw xs bs 5)):=ZQ H3
  have Rj:(H.setIfInBounds bo (Ye (Uw xs bs 5)))[br]? = some (Ye [0,0,0,0,0]):=by rw[Array.getElem?_setIfInBounds,if_neg (by omega)];exact H2
  have xM:Zg h.size h (H.setIfInBounds bo (Ye (Uw xs bs 5))):=HB.Zm (by omega) _
  obtain⟨w1,w2,w3⟩:=IL ha hb wa wb
  obtain⟨o,ho⟩:=ZA (Uw xs bs 5)
  rw[←ho]at hx Rj xM w1 w2 ⊢
  generalize H.setIfInBounds bo (Ye o)=G at *
  simp -implicitDefEqProofs only[go_sem,↓reduceIte,f3,f4,f5,f10,f11,YF]
  refine (Eg T G bo o w2 w1 hx).use ?_
  rintro _ _ rfl
  obtain⟨m1,m2,m3⟩:=So w2 w1
  have Bp:(G.setIfInBounds bo (Ye (Y4 o)))[bo]? = some (Ye (Y4 o)):=ZQ hx
  have DK:(G.setIfInBounds bo (Ye (Y4 o)))[br]? = some (Ye [0,0,0,0,0]):=by rw[Array.getElem?_setIfInBounds,if_neg (by omega)];exact Rj
  have HB3:Zg h.size h (G.setIfInBounds bo (Ye (Y4 o))):=xM.Zm (by omega) _
  generalize G.setIfInBounds bo (Ye (Y4 o))=G2 at *
  have r3:=TN m1 Bp
  have lc:((Y4 o).map uv).length=5:=by simpa using m1
  have w4:=ZR (h:=G2) (b:=br) (l:=([0,0,0,0,0].map uv)) (by unfold Ye at DK;rw[List.append_nil]at DK;exact DK) 0 ((Y4 o).map uv)
  have ho4:((Y4 o).map uv).all Z8=true:=by simp[uv,Z8]
  rw[if_pos ⟨by simp[lc],ho4⟩,ZO (by simp[lc])]at w4
  have tc:((Y4 o).map uv).take 5=(Y4 o).map uv:=List.take_of_length_le (by omega)
  have hlr:=Za DK
  simp -implicitDefEqProofs only[go_sem,↓reduceIte,f3,f4,f5,r3,w4,lc,tc,hlr]
  exact HB3.Zm (by omega) _
theorem Ei (T:World) (h:Hp) (xs:List Nat) (ha:xs.length=5) (wa:Yj 268435456 xs) :
  Zc Tryz.prog T 120 #[.agg (xs.map uv).toArray] h fun v' h'=>v'=.agg ((TM (Y4 xs)).map uv).toArray∧Zg h.size h h':=by
 have la:(xs.map uv).length=5:=by simpa using ha
 refine Zc.Zi (args:=[_]) Tryz.func120 rfl rfl rfl rfl ?_
 simp -implicitDefEqProofs only[go_sem,↓reduceIte,la]
 obtain⟨H,hH⟩:=ZA (((h.push (.cells (xs.map uv).toArray 211)).push (.cells #[.int .u64 0,.int .u64 0,.int .u64 0,.int .u64 0,.int .u64 0] 211)):Hp)
 have HB:Zg h.size h H:=by rw[hH];exact ((Zg.push (Nat.le_refl _) _).Yh (by simp) _)
 have Hs:H.size=h.size+1+1:=by rw[hH];simp
 have H0:H[h.size]? = some (Ye xs):=by
  rw[hH,Zs (by simp),Zb];unfold Ye;rw[List.append_nil]
 have H1:H[h.size+1]? = some (Ye [0,0,0,0,0]):=by
  have:=Zb (h:=(h.push (.cells (xs.map uv).toArray 211))) (o:=.cells #[.int .u64 0,.int .u64 0,.int .u64 0,.int .u64 0,.int .u64 0] 211)
  rw[Array.size_push]at this
  rw[hH,this];rfl
 rw[←hH]
 clear hH
 refine (Eg T H h.size xs ha (wa.mono (by decide)) H0).use ?_
 rintro _ _ rfl
 obtain⟨m1,m2,m3,m4⟩:=So ha (wa.mono (by decide))
 have TJ:(H.setIfInBounds h.size (Ye (Y4 xs)))[h.size]? = some (Ye (Y4 xs)):=ZQ H0
 have Qf:(H.setIfInBounds h.size (Ye (Y4 xs)))[h.size+1]? = some (Ye [0,0,0,0,0]):=by rw[Array.getElem?_setIfInBounds,if_neg (by omega)];exact H1
 have xM:Zg h.size h (H.setIfInBounds h.size (Ye (Y4 xs))):=HB.Zm (Nat.le_refl _) _
 have Hs2:(H.setIfInBounds h.size (Ye (Y4 xs))).size=h.size+1+1:=by rw[Array.size_setIfInBounds];exact Hs
 obtain⟨m,hm⟩:=ZA (Y4 xs)
 rw[←hm]at TJ Qf xM Hs2 m1 m2 m3 m4 ⊢
 generalize H.setIfInBounds h.size (Ye m)=G at *
 have r0:=TN m1 TJ
 have lm:(m.map uv).length=5:=by simpa using m1
 have hom:(m.map uv).all Z8=true:=by simp[uv,Z8]
 have lp:Yn [Value.int .u64 0,.int .u64 0,.int .u64 0,.int .u64 0,.int .u64 0] 0 (m.map uv)=m.map uv:=ZO lm
 have n0:=Gf (l:=m) (i:=0) (by omega)
 have y0:=m2.getD (by omega) 0
 have hw0:SC m 0=m.set 0 (m.getD 0 0+5):=rfl
 obtain⟨y,hy⟩:=ZA (m.getD 0 0)
 rw[←hy]at n0 y0 hw0
 have e1:(y:Int)+5=((y+5:Nat):Int):=rfl
 have e2:((y+5:Nat):Int)%18446744073709551616=((y+5:Nat):Int):=by omega
 simp -implicitDefEqProofs only[go_sem,↓reduceIte,r0,lm,hom,Hs2,lp,n0,e1,e2]
 have hms:(m.map uv).set 0 (.int .u64 (y+5:Nat))=(m.set 0 (y+5)).map uv:=by rw[List.map_set];rfl
 rw[hms,←hw0]
 obtain⟨J,hJ⟩:=ZA (G.push (.cells ((SC m 0).map uv).toArray 211))
 have J3:J[h.size+1+1]? = some (Ye (SC m 0)):=by
  rw[hJ,←Hs2,Zb];unfold Ye;rw[List.append_nil]
 have J0:J[h.size]? = some (Ye m):=by rw[hJ,Zs (by omega)];exact TJ
 have J1:J[h.size+1]? = some (Ye [0,0,0,0,0]):=by rw[hJ,Zs (by omega)];exact Qf
 have JB:Zg h.size h J:=by rw[hJ];exact xM.Yh (by omega) _
 rw[←hJ]
 clear hJ
 obtain⟨b3,hb3⟩:∃b,b=h.size+1+1:=⟨_,rfl⟩
 obtain⟨b2,Ij⟩:∃b,b=h.size+1:=⟨_,rfl⟩
 rw[←hb3]at J3 ⊢
 rw[←Ij]at J1 ⊢
 refine VS.ZW (fun F g=>F 1=.pointer (some ⟨h.size,0,none⟩)∧F 2=.pointer (some ⟨b2,0,none⟩)∧F 3=.pointer (some ⟨b3,0,none⟩)∧∃i:Nat,i≤4∧F 11=.int .i64 i∧g=J.setIfInBounds b3 (Ye (SC m i)))
  (fun F _=>4-(vi (F 11)).toNat) rfl ⟨rfl,rfl,rfl,0,by omega,rfl,(Q0 J3).symm⟩ ?_
 rintro F g ⟨f1,f2,f3,i,hi,f11,rfl⟩
 have hx:(J.setIfInBounds b3 (Ye (SC m i)))[b3]? = some (Ye (SC m i)):=ZQ J3
 have wY:=kH m2 i (by omega)
 have lY:(SC m i).length=5:=by rw[Ly,m1]
 by_cases ZC:i<4
 ·have ZL:(i:Int)<4:=by omega
  have YH:SC m (i+1)=((SC m i).set (i+1) ((SC m i).getD (i+1) 0+(SC m i).getD i 0/67108864)).set i ((SC m i).getD i 0%67108864):=rfl
  obtain⟨r,hr⟩:=ZA (SC m i)
  rw[←hr]at hx wY lY YH ⊢
  obtain⟨G1,gO⟩:=ZA (J.setIfInBounds b3 (Ye r))
  rw[←gO]at hx ⊢
  have g1:=ZK hx (i:=i+1) (by omega)
  have g0:=ZK hx (i:=i) (by omega)
  have q1:=wY.getD (by omega) (i+1)
  have q0:=wY.getD (by omega) i
  unfold uv at g0 g1
  obtain⟨a,hax⟩:=ZA (r.getD i 0)
  obtain⟨b,hbx⟩:=ZA (r.getD (i+1) 0)
  rw[←hax]at g0 q0 YH
  rw[←hbx]at g1 q1 YH
  have s1:=aB a
  have s2:=TK a (by omega)
  have t1:(b:Int)+((a/67108864:Nat):Int)=((b+a/67108864:Nat):Int):=rfl
  have t2:((b+a/67108864:Nat):Int)%18446744073709551616=((b+a/67108864:Nat):Int):=by omega
  have ei:(i:Int)+1=((i+1:Nat):Int):=rfl
  have aC:((i+1:Nat):Int)<5:=by omega
  have ZkA:(i:Int)<5:=by omega
  have c1:Jh G1 ⟨b3,i+1,none⟩ (.int .u64 (b+a/67108864:Nat))=_:=Z0 (f:=uv) hx (i:=i+1) (by omega) (b+a/67108864) rfl
  have Gg:=ZQ (o:=.cells ((r.set (i+1) (b+a/67108864)).map uv++[]).toArray 211) hx
  have l1:(r.set (i+1) (b+a/67108864)).length=5:=by rw[List.length_set,lY]
  have v1:(r.set (i+1) (b+a/67108864)).getD i 0=a:=by rw[Pv (by omega),←hax]
  obtain⟨r1,gP⟩:=ZA (r.set (i+1) (b+a/67108864))
  rw[←gP]at c1 Gg l1 v1 YH
  obtain⟨G2,ar⟩:=ZA (G1.setIfInBounds b3 (.cells (r1.map uv++[]).toArray 211))
  rw[←ar]at c1 Gg
  have g2:=ZK Gg (i:=i) (by omega)
  unfold uv at g2
  rw[v1]at g2
  have c2:Jh G2 ⟨b3,i,none⟩ (.int .u64 (a%67108864:Nat))=_:=Z0 (f:=uv) Gg (i:=i) (by omega) (a%67108864) rfl
  simp -implicitDefEqProofs only[go_sem,↓reduceIte,f1,f2,f3,f11,ZL]
  refine VS.w (b3+1) [10] (.q 0 (.q 1 (.q 2 (.q 3 (.q 4 (.q 5 (.q 6 (.q 7 (.q 8 (.q 9 (.w 10 .nil))))))))))) mixed (by kernel_rfl) ?_
  simp -implicitDefEqProofs only[go_sem,↓reduceIte,f1,f2,f3,f11,ei,aC,ZkA,Int.toNat_natCast,Nat.zero_add,g0,g1,s1,t1,t2,c1,g2,s2,c2]
  refine⟨⟨f1,f2,f3,i+1,ZC,rfl,?_⟩,?_⟩
  ·rw[ar,set_set,gO,set_set,YH];rfl
  ·simp only[vi,Zl,↓reduceIte,f11];omega
 ·have YF:¬(i:Int)<4:=by omega
  obtain rfl:i=4:=by omega
  have c4:((4:Nat):Int)=4:=rfl
  rw[c4]at f11 YF
  have hW:TM m=if (SC m 4).getD 4 0/67108864=0 then m else (SC m 4).set 4 ((SC m 4).getD 4 0%67108864):=rfl
  have dM:(J.setIfInBounds b3 (Ye (SC m 4)))[h.size]? = some (Ye m):=by rw[Array.getElem?_setIfInBounds,if_neg (by omega)];exact J0
  have Gg:(J.setIfInBounds b3 (Ye (SC m 4)))[b2]? = some (Ye [0,0,0,0,0]):=by rw[Array.getElem?_setIfInBounds,if_neg (by omega)];exact J1
  have HB3:Zg h.size h (J.setIfInBounds b3 (Ye (SC m 4))):=JB.Zm (by omega) _
  obtain⟨r,hr⟩:=ZA (SC m 4)
  rw[←hr]at hx wY lY dM Gg HB3 hW ⊢
  generalize J.setIfInBounds b3 (Ye r)=G1 at *
  have g4:=ZK hx (i:=4) (by omega)
  have q4:=wY.getD (by omega) 4
  unfold uv at g4
  obtain⟨a,hax⟩:=ZA (r.getD 4 0)
  rw[←hax]at g4 q4 hW
  have s1:=aB a
  have s2:=TK a (by omega)
  have w4:=fun (k:List Nat) (hk:k.length=5)=>ZR (h:=G1) (b:=b2) (l:=([0,0,0,0,0].map uv)) (by unfold Ye at Gg;rw[List.append_nil]at Gg;exact Gg) 0 (k.map uv)
  have h2s:=Za Gg
  by_cases h0:a/67108864=0
  ·have h0':((a/67108864:Nat):Int)=0:=by omega
   rw[if_pos h0]at hW
   have w5:=w4 m m1
   rw[if_pos ⟨by simp[lm],hom⟩,ZO (by simp[lm])]at w5
   have r1:=TN m1 dM
   have tm:(m.map uv).take 5=m.map uv:=List.take_of_length_le (by omega)
   simp -implicitDefEqProofs only[go_sem,↓reduceIte,f1,f2,f3,f11,YF,g4,s1,h0',r1,w5,lm,tm,h2s]
   exact⟨by rw[hW],HB3.Zm (by omega) _⟩
  ·have h0':¬((a/67108864:Nat):Int)=0:=by omega
   rw[if_neg h0]at hW
   have c1:Jh G1 ⟨b3,4,none⟩ (.int .u64 (a%67108864:Nat))=_:=Z0 (f:=uv) hx (i:=4) (by omega) (a%67108864) rfl
   have hz:=ZQ (o:=.cells ((r.set 4 (a%67108864)).map uv++[]).toArray 211) hx
   have l1:(r.set 4 (a%67108864)).length=5:=by rw[List.length_set,lY]
   have HB4:Zg h.size h (G1.setIfInBounds b3 (.cells ((r.set 4 (a%67108864)).map uv++[]).toArray 211)):=HB3.Zm (by omega) _
   have Bq:(G1.setIfInBounds b3 (.cells ((r.set 4 (a%67108864)).map uv++[]).toArray 211))[b2]? = some (Ye [0,0,0,0,0]):=by rw[Array.getElem?_setIfInBounds,if_neg (by omega)];exact Gg
   rw[hW]
   obtain⟨r1,gP⟩:=ZA (r.set 4 (a%67108864))
   rw[←gP]at c1 hz l1 HB4 Bq ⊢
   generalize G1.setIfInBounds b3 (.cells (r1.map uv++[]).toArray 211)=G2 at *
   have r4:=TN l1 hz
   have lr:(r1.map uv).length=5:=by simpa using l1
   have hor:(r1.map uv).all Z8=true:=by simp[uv,Z8]
   have w5:=ZR (h:=G2) (b:=b2) (l:=([0,0,0,0,0].map uv)) (by unfold Ye at Bq;rw[List.append_nil]at Bq;exact Bq) 0 (r1.map uv)
   rw[if_pos ⟨by simp[lr],hor⟩,ZO (by simp[lr])]at w5
   have tm:(r1.map uv).take 5=r1.map uv:=List.take_of_length_le (by omega)
   have ZkB:=Za Bq
   simp -implicitDefEqProofs only[go_sem,↓reduceIte,f1,f2,f3,f11,YF,g4,s1,s2,h0',Nat.zero_add,c1,r4,w5,lr,tm,ZkB]
   exact HB4.Zm (by omega) _
def kI (key:List Nat) (i:Nat):Nat:=if i%4=3 then key.getD i 0%16 else if i%4=0∧0<i then key.getD i 0/4*4 else key.getD i 0
def XS (key:List Nat):List Nat:=(List.range 16).map (kI key)
def ZcL (data:List Nat) (k:Nat):List Nat:=(data.drop (16*k)).take 16++[1]
def kJ (r:Nat) (data:List Nat):Nat→Nat
 | 0=>0
 | k+1=>(kJ r data k+YW (ZcL data k))*r%Vl
def qC (key data:List Nat):Nat:=kJ (YW (XS key)) data ((data.length+15)/16)+YW ((key.drop 16).take 16)
def Br (key data:List Nat):List Nat:=(List.range 16).map fun i=>qC key data/256 ^ i%256
theorem KX (key:List Nat):(XS key).length=16:=by simp[XS]
theorem Ej (key data:List Nat):(Br key data).length=16:=by simp[Br]
theorem Sp {h:Hp} {p:Option Addr} {c n:Nat} {l:List Nat} (s:Bs h (.slice p n c) l) {m:Nat} (hm:m≤l.length) (c':Nat):Bs h (.slice p m c') (l.take m):=by
 refine⟨?_,fun x hx=>s.byte x (List.mem_of_mem_take hx)⟩
 obtain⟨p',cap,hv,hl,hc⟩:=s.sl
 simp only[Value.slice.injEq]at hv
 obtain⟨rfl,_,rfl⟩:=hv
 refine⟨_,c',by rw[List.length_take,Nat.min_eq_left hm],by simp,fun Ys=>?_⟩
 obtain⟨b,o,rfl,YO⟩:=hc (by intro e;simp at e;subst e;simp at Ys)
 refine⟨b,o,rfl,fun i hi=>?_⟩
 have A0:i<m∧i<l.length:=by rw[List.length_map,List.length_take]at hi;omega
 rw[YO i (by simp;omega)]
 simp
theorem xN {h:Hp} {p:Option Addr} {c n:Nat} {l:List Nat} (s:Bs h (.slice p n c) l) (hn:l.length=n) {k m:Nat} (hk:k+m≤n) (Qk:n≤c) (c':Nat):Bs h (.slice (C2 p 1 c k) m c') ((l.drop k).take m):=
 Sp (Sk s hn (k:=k) (by omega) Qk c') (by rw[List.length_drop];omega) c'
def WK (key data:List Nat):Int:=if key.length≠32∨4000<data.length then 1 else 0
def kK (B:Nat) (h:Hp) (v:Value) (key data:List Nat):Prop:=∃w,v=.tuple #[w,.int .i64 (WK key data)]∧Z1 B 5 h w (if WK key data=0 then Br key data else [])
def XT:List (Option IntKind):=rep 32 [some .i64]++rep 8 [none]
theorem Q2:∀{ks:List (Option IntKind)} {vs:List Value} (i:Nat) (v:Value),Yq ks vs=true→(∀k,ks[i]? = some k→Ud k v=true)→Yq ks (vs.set i v)=true:=by
 intro ks
 induction ks with
 | nil=>intro vs i v h _;cases vs<;>simp[Yq]at h ⊢
 | cons k ks ih=>
  intro vs i v h hk
  cases vs with
  | nil=>simp[Yq]at h
  | cons x vs=>
   simp only[Yq,Bool.and_eq_true]at h
   cases i with
   | zero=>simp only[List.set_cons_zero,Yq,Bool.and_eq_true];exact⟨hk k rfl,h.2⟩
   | succ i=>simp only[List.set_cons_succ,Yq,Bool.and_eq_true];exact⟨h.1,ih i v h.2 (fun k' RX=>hk k' (by simpa using RX))⟩
theorem JW {i:Nat} (hi:i<32) (n:Int):∀k,XT[i]? = some k→Ud k (.int .i64 n)=true:=by
 intro k hk
 have:∀i<32,XT[i]? = some (some .i64):=by decide
 rw[this i hi]at hk
 obtain rfl:=Option.some.inj hk
 rfl
theorem Ek {i:Nat} (h1:32≤i) (b:Bool):∀k,XT[i]? = some k→Ud k (.bool b)=true:=by
 intro k hk
 have:∀j<8,XT[32+j]? = some none:=by decide
 by_cases h2:i<40
 ·have:=this (i-32) (by omega)
  rw[show 32+(i-32)=i by omega]at this
  rw[this]at hk
  obtain rfl:=Option.some.inj hk
  rfl
 ·rw[List.getElem?_eq_none (by show 40≤i;omega)]at hk;cases hk
theorem Px {g:Hp} {b:Nat} {o:Obj} (hx:g[b]? = some o):g.setIfInBounds b o=g:=by
 apply Array.ext_getElem?
 intro i
 rw[Array.getElem?_setIfInBounds]
 by_cases hb:b=i
 ·subst hb;rw[if_pos rfl,if_pos (Za hx),hx]
 ·rw[if_neg hb]
structure ZcM where
 cells:List Value
 code:Int
 val:Int
def TO (cs:List Value) (k c n v:Nat):List Value × Int:=
 if k=1 then (cs.set n (.int .i64 v),v) else if k=2 then (cs,ci cs n) else (cs.set (32+n) (.bool true),0)
def US (cs:List Value) (k c s n v:Nat):ZcM:=
 if k=0 then ⟨cs,0,0⟩ else
 if (s:Int)+1=ci cs (8+c) then ⟨cs,ci cs (16+c*2),ci cs (16+c*2+1)⟩ else
 if (s:Int)<ci cs (8+c) then ⟨cs,7,0⟩ else
 if cb cs (32+c)=true then ⟨cs,11,0⟩ else
 ⟨((((TO cs k c n v).1.set (8+c) (.int .i64 ((s:Int)+1))).set (16+c*2) (.int .i64 0)).set (16+c*2+1) (.int .i64 (TO cs k c n v).2)),0,(TO cs k c n v).2⟩
def Nm (cs:List Value) (k c s n v:Int):Int:=if Ql cs=true then 5 else YL k c s n v
def Jr:List Value:=rep 32 [Value.int .i64 0]++rep 8 [Value.bool false]
def doL (cs:List Value) (k c s n v:Int):List Value:=
 if Nm cs k c s n v=0 then [.agg (US cs k.toNat c.toNat s.toNat n.toNat v.toNat).cells.toArray,.agg [.int .i64 (US cs k.toNat c.toNat s.toNat n.toNat v.toNat).code,.int .i64 (US cs k.toNat c.toNat s.toNat n.toNat v.toNat).val].toArray,.int .i64 0]
  else [.agg Jr.toArray,.agg [.int .i64 0,.int .i64 0].toArray,.int .i64 (Nm cs k c s n v)]
def uE (v':Value) (cs:List Value) (k c s n v:Int):Prop:=v'=.tuple (doL cs k c s n v).toArray
theorem Py {k c s n v:Int} (h:YL k c s n v=0):∃k' c' s' n' v':Nat,k=k'∧c=c'∧s=s'∧n=n'∧v=v'∧k'≤3∧c'≤7∧s'≤1048576∧n'≤7∧v'≤1073741824:=by
 have:0≤k∧k≤3∧0≤c∧c≤7∧0≤s∧s≤1048576∧0≤n∧n≤7∧0≤v∧v≤1073741824:=by
  unfold YL at h
  repeat' split at h
  all_goals omega
 exact⟨k.toNat,c.toNat,s.toNat,n.toNat,v.toNat,by omega,by omega,by omega,by omega,by omega,by omega,by omega,by omega,by omega,by omega⟩
theorem IM {cs:List Value} {i j:Nat} {x:Value} (h:i≠j):ci (cs.set i x) j=ci cs j:=by
 unfold ci
 rw[Yk,Yk,List.getElem?_set_ne h]
theorem ints_set {cs:List Value} {j:Nat} (hj:j<cs.length) (x:Int) (hi:∀i,i<32→nth cs i=some (.int .i64 (ci cs i))):∀i,i<32→nth (cs.set j (.int .i64 x)) i=some (.int .i64 (ci (cs.set j (.int .i64 x)) i)):=by
 intro i h32
 by_cases e:j=i
 ·subst e
  have:nth (cs.set j (.int .i64 x)) j=some (.int .i64 x):=by rw[Yk,List.getElem?_set_self hj]
  unfold ci
  rw[this]
 ·rw[IM e,Yk,List.getElem?_set_ne e,←Yk];exact hi i h32
theorem dN (cs:List Value) (k c n v:Nat) (x:Value) (hn:n≤7) (hc:c≤7):TO (cs.set (8+c) x) k c n v=((TO cs k c n v).1.set (8+c) x,(TO cs k c n v).2):=by
 unfold TO
 by_cases k1:k=1
 ·rw[if_pos k1,if_pos k1,List.set_comm _ _ (by omega)]
 ·rw[if_neg k1,if_neg k1]
  by_cases k2:k=2
  ·rw[if_pos k2,if_pos k2,IM (by omega)]
  ·rw[if_neg k2,if_neg k2,List.set_comm _ _ (by omega)]
theorem El {cs:List Value} (hf:Yq XT cs=true) (k c n v:Nat) (hn:n≤7):Yq XT (TO cs k c n v).1=true:=by
 unfold TO
 by_cases k1:k=1
 ·rw[if_pos k1];exact Q2 n _ hf (JW (by omega) _)
 ·rw[if_neg k1]
  by_cases k2:k=2
  ·rw[if_pos k2];exact hf
  ·rw[if_neg k2];exact Q2 (32+n) _ hf (Ek (by omega) _)
theorem dO {cs:List Value} (hf:Yq XT cs=true) (k c s n v:Nat) (hn:n≤7) (hc:c≤7):Yq XT (US cs k c s n v).cells=true:=by
 unfold US
 repeat' split
 all_goals first|exact hf|skip
 exact Q2 _ _ (Q2 _ _ (Q2 _ _ (El hf k c n v hn) (JW (by omega) _)) (JW (by omega) _)) (JW (by omega) _)
theorem Em (T:World) (h:Hp) (b:Nat) (cs:List Value) (k c s n v:Nat) (hl:cs.length=40) (hi:∀i,i<32→nth cs i=some (.int .i64 (ci cs i))) (hn:n≤7) (hk:1≤k) (hk3:k≤3) (hx:h[b]? = some (.cells cs.toArray 61)) :
  Zc Tryz.prog T 61 #[.pointer (some ⟨b,0,none⟩),.agg (Qc k c s n v).toArray] h fun v' h'=>v'=.agg [.int .i64 0,.int .i64 (TO cs k c n v).2].toArray∧Zg h.size (h.setIfInBounds b (.cells (TO cs k c n v).1.toArray 61)) h':=by
 refine Zc.Zi (args:=[_,_]) Tryz.func61 rfl rfl rfl rfl ?_
 have hb:=Za hx
 have hn8:(n:Int)<8:=by omega
 unfold Qc TO
 by_cases k1:k=1
 ·subst k1
  simp +contextual -implicitDefEqProofs only[go_sem,↓reduceIte]
  refine VS.w (h.size+2) [8] (.q 0 (.q 1 (.q 2 (.q 3 (.q 4 (.q 5 (.q 6 (.q 7 (.w 8 .nil))))))))) mixed (by kernel_rfl) ?_
  have w1:=Yr hx n (.int .i64 v)
  rw[if_pos ⟨by omega,rfl⟩]at w1
  have nn:nth (cs.set n (.int .i64 (v:Int))) n=some (.int .i64 v):=by rw[Yk,List.getElem?_set_self (by omega)]
  simp +contextual -implicitDefEqProofs only[go_sem,↓reduceIte,hn8,w1,hb]
  refine VS.w (h.size+2) [8] (.q 0 (.q 1 (.q 2 (.q 3 (.q 4 (.q 5 (.q 6 (.q 7 (.w 8 .nil))))))))) mixed (by kernel_rfl) ?_
  simp +contextual -implicitDefEqProofs only[go_sem,↓reduceIte,hn8,hb,nn]
  try exact ((Zg.push (by simp) _).Yh (by simp) _)
 ·by_cases k2:k=2
  ·subst k2
   have nn:=hi n (by omega)
   have x1:hc h ⟨b,n,none⟩=some (.int .i64 (ci cs n)):=by rw[Zh hx];exact nn
   have uF:=Px hx
   simp +contextual -implicitDefEqProofs only[go_sem,↓reduceIte,uF]
   refine VS.w (h.size+2) [8] (.q 0 (.q 1 (.q 2 (.q 3 (.q 4 (.q 5 (.q 6 (.q 7 (.w 8 .nil))))))))) mixed (by kernel_rfl) ?_
   simp +contextual -implicitDefEqProofs only[go_sem,↓reduceIte,hn8,hb,x1]
  ·have k3:k=3:=by omega
   subst k3
   have w1:=Yr hx (32+n) (.bool true)
   rw[if_pos ⟨by omega,rfl⟩]at w1
   simp +contextual -implicitDefEqProofs only[go_sem,↓reduceIte]
   refine VS.w (h.size+2) [6] (.q 0 (.q 1 (.q 2 (.q 3 (.q 4 (.q 5 (.w 6 .nil))))))) mixed (by kernel_rfl) ?_
   simp +contextual -implicitDefEqProofs only[go_sem,↓reduceIte,hn8,w1,hb]
   try exact ((Zg.push (by simp) _).Yh (by simp) _)
theorem Bt (T:World) (h:Hp) (cs:List Value) (k c s n v:Int) (hf:Yq XT cs=true) (hi:∀i,i<32→nth cs i=some (.int .i64 (ci cs i))) (hb:∀i,32≤i→i<40→nth cs i=some (.bool (cb cs i))) :
  Zc Tryz.prog T 38 #[.agg cs.toArray,.agg (Qc k c s n v).toArray] h fun v' h'=>uE v' cs k c s n v∧Zg h.size h h':=by
 have hl:cs.length=40:=YE hf
 have tk:=Xg hl
 have Xb:=M3 hf
 refine Zc.XI (args:=[_,_]) Tryz.func38 rfl rfl rfl rfl ?_
 unfold Qc
 simp +contextual -implicitDefEqProofs only[go_sem,↓reduceIte,hl,tk]
 refine (dm T _ cs hl hi).use ?_
 rintro _ _ ⟨rfl,rfl⟩
 unfold uE doL Nm
 by_cases e1:Ql cs=true
 ·simp +contextual -implicitDefEqProofs only[go_sem,↓reduceIte,e1]
  refine⟨rfl,?_⟩
  (repeat' (first|exact Zg.refl _ _|assumption|refine Zg.add ?_ _|refine Zg.Zm ?_ (by first|omega|(simp;omega)) _|refine Zg.trans (by assumption) ?_))
 ·have e1:Ql cs=false:=by simpa using e1
  simp +contextual -implicitDefEqProofs only[go_sem,↓reduceIte,e1]
  refine (JQ T _ k c s n v).use ?_
  rintro _ _ ⟨rfl,rfl⟩
  unfold Qc
  by_cases e2:YL k c s n v=0
  ·obtain⟨k,c,s,n,v,rfl,rfl,rfl,rfl,rfl,y1,y2,y3,y4,y5⟩:=Py e2
   simp only[Int.toNat_natCast]
   have X0:Jr=[.int .i64 0,.int .i64 0,.int .i64 0,.int .i64 0,.int .i64 0,.int .i64 0,.int .i64 0,.int .i64 0,.int .i64 0,.int .i64 0,.int .i64 0,.int .i64 0,.int .i64 0,.int .i64 0,.int .i64 0,.int .i64 0,.int .i64 0,.int .i64 0,.int .i64 0,.int .i64 0,.int .i64 0,.int .i64 0,.int .i64 0,.int .i64 0,.int .i64 0,.int .i64 0,.int .i64 0,.int .i64 0,.int .i64 0,.int .i64 0,.int .i64 0,.int .i64 0,.bool false,.bool false,.bool false,.bool false,.bool false,.bool false,.bool false,.bool false]:=rfl
   obtain⟨H,hH⟩:=ZA (((((((h.push (.cells cs.toArray 61)).push (.cells [.int .i64 k,.int .i64 c,.int .i64 s,.int .i64 n,.int .i64 v].toArray 47)).push (.cells [.int .i64 0,.int .i64 0,.int .i64 0,.int .i64 0,.int .i64 0,.int .i64 0,.int .i64 0,.int .i64 0,.int .i64 0,.int .i64 0,.int .i64 0,.int .i64 0,.int .i64 0,.int .i64 0,.int .i64 0,.int .i64 0,.int .i64 0,.int .i64 0,.int .i64 0,.int .i64 0,.int .i64 0,.int .i64 0,.int .i64 0,.int .i64 0,.int .i64 0,.int .i64 0,.int .i64 0,.int .i64 0,.int .i64 0,.int .i64 0,.int .i64 0,.int .i64 0,.bool false,.bool false,.bool false,.bool false,.bool false,.bool false,.bool false,.bool false].toArray 61)).push (.cells [.int .i64 0,.int .i64 0].toArray 40)).push (.cells cs.toArray 61)).push (.cells [.int .i64 k,.int .i64 c,.int .i64 s,.int .i64 n,.int .i64 v].toArray 47)):Hp)
   have x0:H[h.size]? = some (.cells cs.toArray 61):=by rw[hH];simp only[Array.getElem?_push,Array.size_push,IntWalk.iteOmega,↓reduceIte]
   have x1:H[h.size+1]? = some (.cells [.int .i64 k,.int .i64 c,.int .i64 s,.int .i64 n,.int .i64 v].toArray 47):=by rw[hH];simp only[Array.getElem?_push,Array.size_push,IntWalk.iteOmega,↓reduceIte]
   have x2:H[h.size+2]? = some (.cells Jr.toArray 61):=by rw[hH,X0];simp only[Array.getElem?_push,Array.size_push,IntWalk.iteOmega,↓reduceIte]
   have x3:H[h.size+3]? = some (.cells [.int .i64 0,.int .i64 0].toArray 40):=by rw[hH];simp only[Array.getElem?_push,Array.size_push,IntWalk.iteOmega,↓reduceIte]
   have hHs:H.size=h.size+6:=by rw[hH];simp
   have Bd:Zg h.size h H:=by rw[hH];(repeat' (first|exact Zg.refl _ _|assumption|refine Zg.add ?_ _|refine Zg.Zm ?_ (by first|omega|(simp;omega)) _|refine Zg.trans (by assumption) ?_))
   rw[←hH]
   clear hH X0
   have c1:hc H ⟨h.size+1,0,none⟩=some (.int .i64 k):=by rw[Zh x1];rfl
   have c2:hc H ⟨h.size+1,1,none⟩=some (.int .i64 c):=by rw[Zh x1];rfl
   have c3:hc H ⟨h.size+1,2,none⟩=some (.int .i64 s):=by rw[Zh x1];rfl
   have cc:(c:Int)<8:=by omega
   have ZcO:=hi (8+c) (by omega)
   have lx:hc H ⟨h.size,8+c,none⟩=some (.int .i64 (ci cs (8+c))):=by rw[Zh x0];exact ZcO
   have fin:∀(G:Hp) (D:List Value) (a b:Int),D.length=40→D.all Z8=true→G[h.size+2]? = some (.cells Jr.toArray 61)→G[h.size+3]? = some (.cells [.int .i64 0,.int .i64 0].toArray 40) →
     wr G ⟨h.size+1+1,0,none⟩ D=some (G.setIfInBounds (h.size+1+1) (.cells D.toArray 61)) ∧
     wr (G.setIfInBounds (h.size+1+1) (.cells D.toArray 61)) ⟨h.size+1+1+1,0,none⟩ [.int .i64 a,.int .i64 b]=some ((G.setIfInBounds (h.size+1+1) (.cells D.toArray 61)).setIfInBounds (h.size+1+1+1) (.cells [.int .i64 a,.int .i64 b].toArray 40)):=by
    intro G D a b d1 d2 g2 g3
    refine⟨?_,?_⟩
    ·rw[ZR (b:=h.size+1+1) g2 0 D,ZO (by rw[d1];rfl),if_pos ⟨by rw[d1];exact Nat.le_refl _,d2⟩]
    ·rw[ZR (b:=h.size+1+1+1) (l:=[.int .i64 0,.int .i64 0]) (t:=40) (by rw[Array.getElem?_setIfInBounds,if_neg (by omega)];exact g3),if_pos ⟨by simp,rfl⟩]
     rfl
   have r0:=Zq x0 hl
   have dP:∀(G:Hp) (o o':Obj),Zg h.size h G→Zg h.size h ((G.setIfInBounds (h.size+1+1) o).setIfInBounds (h.size+1+1+1) o'):=fun G o o' hG=>(hG.Zm (by omega) _).Zm (by omega) _
   by_cases k0:k=0
   ·subst k0
    have ed:US cs 0 c s n v=⟨cs,0,0⟩:=rfl
    obtain⟨w2,w3⟩:=fin H cs 0 0 hl Xb x2 x3
    simp -implicitDefEqProofs only[go_sem,↓reduceIte,e2,c1,c2,cc,ed,r0,w2,w3,hl,hHs,tk,Bd]
    exact dP H _ _ Bd
   ·have k0':¬(k:Int)=0:=by omega
    simp -implicitDefEqProofs only[go_sem,↓reduceIte,e2,c1,c2,cc,k0']
    refine VS.q mixed (by kernel_rfl) ?_
    by_cases q1:(s:Int)+1=ci cs (8+c)
    ·have ed:US cs k c s n v=⟨cs,ci cs (16+c*2),ci cs (16+c*2+1)⟩:=by unfold US;rw[if_neg k0,if_pos q1]
     obtain⟨w2,w3⟩:=fin H cs (ci cs (16+c*2)) (ci cs (16+c*2+1)) hl Xb x2 x3
     have ra:rd H ⟨h.size,16+c*2,none⟩ 2=some [.int .i64 (ci cs (16+c*2)),.int .i64 (ci cs (16+c*2+1))]:=by
      rw[Z5 x0 (by omega),Fv (hi _ (by omega)) (hi _ (by omega))]
     simp -implicitDefEqProofs only[go_sem,↓reduceIte,c3,lx,q1]
     refine VS.w (h.size+1+1) [] (.q 0 (.q 1 (.q 2 (.q 3 (.q 4 (.q 5 (.s 6 (.s 7 (.q 8 .nil))))))))) mixed (by kernel_rfl) ?_
     simp -implicitDefEqProofs only[go_sem,↓reduceIte,e2,c2,cc,ed,r0,ra,w2,w3,hl,hHs,tk,Bd]
     exact dP H _ _ Bd
    ·simp -implicitDefEqProofs only[go_sem,↓reduceIte,c3,lx,q1]
     refine VS.q mixed (by kernel_rfl) ?_
     by_cases q2:(s:Int)<ci cs (8+c)
     ·have ed:US cs k c s n v=⟨cs,7,0⟩:=by unfold US;rw[if_neg k0,if_neg q1,if_pos q2]
      obtain⟨w2,w3⟩:=fin H cs 7 0 hl Xb x2 x3
      simp -implicitDefEqProofs only[go_sem,↓reduceIte,c3,lx,q2,e2,ed,r0,w2,w3,hl,hHs,tk,Bd]
      exact dP H _ _ Bd
     ·have rv:hc H ⟨h.size,32+c,none⟩=some (.bool (cb cs (32+c))):=by rw[Zh x0];exact hb _ (by omega) (by omega)
      by_cases q3:cb cs (32+c)=true
      ·have ed:US cs k c s n v=⟨cs,11,0⟩:=by unfold US;rw[if_neg k0,if_neg q1,if_neg q2,if_pos q3]
       obtain⟨w2,w3⟩:=fin H cs 11 0 hl Xb x2 x3
       rw[q3]at rv
       simp -implicitDefEqProofs only[go_sem,↓reduceIte,c3,lx,q2,c2,cc,rv,e2,ed,r0,w2,w3,hl,hHs,tk,Bd]
       exact dP H _ _ Bd
      ·have q3':cb cs (32+c)=false:=by simpa using q3
       rw[q3']at rv
       have w1:=Yr x0 (8+c) (.int .i64 ((s:Int)+1))
       rw[if_pos ⟨by omega,rfl⟩]at w1
       have rc:=Zq x1 (n:=5) rfl
       have uD:(H.setIfInBounds h.size (.cells (cs.set (8+c) (.int .i64 ((s:Int)+1))).toArray 61))[h.size+1]? = some (.cells [.int .i64 k,.int .i64 c,.int .i64 s,.int .i64 n,.int .i64 v].toArray 47):=by rw[Array.getElem?_setIfInBounds,if_neg (by omega)];exact x1
       have rc':=Zq uD (n:=5) rfl
       simp -implicitDefEqProofs only[go_sem,↓reduceIte,c3,lx,q2,c2,cc,rv,w1,rc']
       have xC:(H.setIfInBounds h.size (.cells (cs.set (8+c) (.int .i64 ((s:Int)+1))).toArray 61))[h.size]? = some (.cells (cs.set (8+c) (.int .i64 ((s:Int)+1))).toArray 61):=by rw[Array.getElem?_setIfInBounds,if_pos rfl,if_pos (by omega)]
       have QQ:Zg h.size h (H.setIfInBounds h.size (.cells (cs.set (8+c) (.int .i64 ((s:Int)+1))).toArray 61)):=Bd.Zm (Nat.le_refl _) _
       have xE:(H.setIfInBounds h.size (.cells (cs.set (8+c) (.int .i64 ((s:Int)+1))).toArray 61))[h.size+2]? = some (.cells Jr.toArray 61):=by rw[Array.getElem?_setIfInBounds,if_neg (by omega)];exact x2
       have x3':(H.setIfInBounds h.size (.cells (cs.set (8+c) (.int .i64 ((s:Int)+1))).toArray 61))[h.size+3]? = some (.cells [.int .i64 0,.int .i64 0].toArray 40):=by rw[Array.getElem?_setIfInBounds,if_neg (by omega)];exact x3
       have hGs:(H.setIfInBounds h.size (.cells (cs.set (8+c) (.int .i64 ((s:Int)+1))).toArray 61)).size=h.size+6:=by rw[Array.size_setIfInBounds];exact hHs
       refine (Em T _ h.size (cs.set (8+c) (.int .i64 ((s:Int)+1))) k c s n v (by rw[List.length_set];exact hl) (ints_set (by omega) _ hi) (by omega) (by omega) (by omega) xC).use ?_
       rintro _ g1 ⟨rfl,b1⟩
       rw[dN cs k c n v _ (by omega) (by omega)]at b1 ⊢
       have hfA:=El hf k c n v (by omega)
       have ed:US cs k c s n v=⟨((((TO cs k c n v).1.set (8+c) (.int .i64 ((s:Int)+1))).set (16+c*2) (.int .i64 0)).set (16+c*2+1) (.int .i64 (TO cs k c n v).2)),0,(TO cs k c n v).2⟩:=by unfold US;rw[if_neg k0,if_neg q1,if_neg q2,if_neg q3]
       obtain⟨A,hA⟩:=ZA ((TO cs k c n v).1.set (8+c) (.int .i64 ((s:Int)+1)))
       obtain⟨a,ha⟩:=ZA ((TO cs k c n v).2)
       rw[←hA,←ha]at ed
       simp only[←hA,←ha]at b1 ⊢
       have ZcP:Yq XT A=true:=by rw[hA];exact Q2 _ _ hfA (JW (by omega) _)
       have Zvz:A.length=40:=YE ZcP
       obtain⟨G,hG⟩:=ZA (H.setIfInBounds h.size (.cells (cs.set (8+c) (.int .i64 ((s:Int)+1))).toArray 61):Hp)
       rw[←hG]at b1 uD xE x3' QQ hGs
       clear xC rc' hG
       rw[hGs]at b1
       have g0:g1[h.size]? = some (.cells A.toArray 61):=b1.get (by omega) (by rw[Array.getElem?_setIfInBounds,if_pos rfl,if_pos (by omega)])
       have g1c:=b1.get (k:=h.size+1) (by omega) (by rw[Array.getElem?_setIfInBounds,if_neg (by omega)];exact uD)
       have g2:=b1.get (k:=h.size+2) (by omega) (by rw[Array.getElem?_setIfInBounds,if_neg (by omega)];exact xE)
       have g3:=b1.get (k:=h.size+3) (by omega) (by rw[Array.getElem?_setIfInBounds,if_neg (by omega)];exact x3')
       have gs:h.size+6≤g1.size:=by have:=b1.size;rw[Array.size_setIfInBounds,hGs]at this;exact this
       have gB:Zg h.size h g1:=(QQ.Zm (Nat.le_refl _) _).trans (b1.mono (by omega))
       clear b1 QQ uD xE x3' hGs
       have gc:hc g1 ⟨h.size+1,1,none⟩=some (.int .i64 c):=by rw[Zh g1c];rfl
       have wa:=ZR g0 (16+c*2) [.int .i64 0,.int .i64 a]
       rw[if_pos ⟨by simp only[List.length_cons,List.length_nil];omega,rfl⟩,WZ,WZ]at wa
       have wa:wr g1 ⟨h.size,16+c*2,none⟩ [.int .i64 0,.int .i64 a]=some (g1.setIfInBounds h.size (.cells ((A.set (16+c*2) (.int .i64 0)).set (16+c*2+1) (.int .i64 a)).toArray 61)):=by rw[wa];simp[Yn]
       simp -implicitDefEqProofs only[go_sem,↓reduceIte,gc,cc,wa]
       obtain⟨D,hD⟩:=ZA ((A.set (16+c*2) (.int .i64 0)).set (16+c*2+1) (.int .i64 a))
       have hfD:Yq XT D=true:=by rw[hD];exact Q2 _ _ (Q2 _ _ ZcP (JW (by omega) _)) (JW (by omega) _)
       have qD:D.length=40:=YE hfD
       have ZcQ:=M3 hfD
       have uG:=Xg qD
       rw[←hD]at ed ⊢
       obtain⟨G,hG⟩:=ZA ((g1.setIfInBounds h.size (.cells D.toArray 61)).push (.cells [.int .i64 0,.int .i64 a].toArray 40):Hp)
       have n0:G[h.size]? = some (.cells D.toArray 61):=by rw[hG];simp only[Array.getElem?_push,Array.size_setIfInBounds,Array.getElem?_setIfInBounds,IntWalk.iteOmega,↓reduceIte]
       have n2:G[h.size+2]? = some (.cells Jr.toArray 61):=by rw[hG];simp only[Array.getElem?_push,Array.size_setIfInBounds,Array.getElem?_setIfInBounds,IntWalk.iteOmega,↓reduceIte];exact g2
       have n3:G[h.size+3]? = some (.cells [.int .i64 0,.int .i64 0].toArray 40):=by rw[hG];simp only[Array.getElem?_push,Array.size_setIfInBounds,Array.getElem?_setIfInBounds,IntWalk.iteOmega,↓reduceIte];exact g3
       have n6:G[g1.size]? = some (.cells [.int .i64 0,.int .i64 a].toArray 40):=by rw[hG];simp only[Array.getElem?_push,Array.size_setIfInBounds,IntWalk.iteOmega,↓reduceIte]
       have nB:Zg h.size h G:=by rw[hG];exact (gB.Zm (Nat.le_refl _) _).Yh (by simp;omega) _
       have nS:G.size=g1.size+1:=by rw[hG];simp
       rw[←hG]
       have rA:=Zq n0 qD
       have rB:=Zq n6 (n:=2) rfl
       obtain⟨w2,w3⟩:=fin G D 0 a qD ZcQ n2 n3
       refine VS.w (h.size+1) [2,3,4] (.q 0 (.or 1 (.w 2 (.w 3 (.w 4 .nil))) (.s 2 (.s 1 (.w 3 (.w 4 .nil)))))) mixed (by kernel_rfl) ?_
       have z1:h.size<h.size+1:=by omega
       have z2:h.size+1+1<G.size:=by omega
       have z3:h.size+1+1+1<G.size:=by omega
       simp -implicitDefEqProofs only[go_sem,↓reduceIte,rA,rB,w2,w3,qD,uG,z1,z2,z3,ed]
       exact⟨dP G _ _ nB,dP G _ _ nB⟩
  ·simp +contextual -implicitDefEqProofs only[go_sem,↓reduceIte,e2]
   refine⟨rfl,?_⟩
   (repeat' (first|exact Zg.refl _ _|assumption|refine Zg.add ?_ _|refine Zg.Zm ?_ (by first|omega|(simp;omega)) _|refine Zg.trans (by assumption) ?_))
theorem kL {g:Hp} {b:Nat} {o o':Obj} (hx:g[b]? = some o'):(g.setIfInBounds b o)[b]? = some o:=by rw[Array.getElem?_setIfInBounds,if_pos rfl,if_pos (Za hx)]
def TQ:Vt:=⟨0,⟨0,0⟩,0,0,0,0,0⟩
def Gi (v:Vt):List Value:=[.int .i64 v.k,.int .i64 v.c,.int .i64 v.s,.int .i64 v.nm,.int .i64 v.v]
def Nn (slot:Int) (ZcR v:Vt):Vt:=if v.slot=slot∧below ZcR.b v.b then v else ZcR
def UT (slot:Int) (l:List Vt):Vt:=l.foldl (Nn slot) TQ
def Uf (l:List Vt):Bool:=l.all fun v=>decide (Yb v)
def Sq (slot:Int) (l:List Vt):Int:=if slot<0∨39<slot then 2 else if Uf l=true then 0 else 5
def Gj (v':Value) (slot:Int) (l:List Vt):Prop:=
 v'=.tuple [.agg (Gi (if Sq slot l=0 then UT slot l else TQ)).toArray,.bool (if Sq slot l=0 then decide (0<(UT slot l).b.r) else false),.int .i64 (Sq slot l)].toArray
def Vss (h:Hp) (v:Value) (LL:List (List Vt)):Prop:=∃p c,v=.slice p LL.length c∧(LL≠[]→∃b o,p=some ⟨b,o,none⟩∧b<h.size∧∀i (hi:i<LL.length),∃w,hc h ⟨b,o+i,none⟩=some w∧Ts Zo 8 h w LL[i]∧LL[i].length≤2199023255552)
theorem dQ (LL:List (List Vt)) (i:Nat) (hi:i<LL.length):(LL.take (i+1)).flatten=(LL.take i).flatten++LL[i]:=by
 rw[Yd LL i hi,List.flatten_append,List.flatten_singleton]
theorem Bu (a b:List Vt):Uf (a++b)=(Uf a&&Uf b):=by simp[Uf]
theorem Gk {l:List Vt} {v:Vt} (hv:v∈l) (hm:¬Yb v):Uf l=false:=by
 rw[Uf,List.all_eq_false]
 exact⟨v,hv,by simpa using hm⟩
set_option maxHeartbeats 1000000 in
theorem qE (T:World) (h:Hp) (u:Value) (LL:List (List Vt)) (slot:Int) (s:Vss h u LL) (hL:LL.length≤4611686018427387904) :
  Zc Tryz.prog T 151 #[u,.int .i64 slot] h fun v' h'=>Gj v' slot LL.flatten∧Zg h.size h h':=by
 have qF:Sq slot LL.flatten=if slot<0∨39<slot then 2 else if Uf LL.flatten=true then 0 else 5:=rfl
 obtain⟨p,c,rfl,YO⟩:=s
 refine Zc.XI (args:=[_,_]) Tryz.func151 rfl rfl rfl rfl ?_
 unfold Gj
 by_cases q1:slot<0
 ·rw[if_pos (.inl q1)]at qF
  simp -implicitDefEqProofs only[go_sem,↓reduceIte,q1,qF]
  rfl
 ·by_cases q2:39<slot
  ·rw[if_pos (.inr q2)]at qF
   have q2':40≤slot:=by omega
   simp -implicitDefEqProofs only[go_sem,↓reduceIte,q1,q2',qF]
   rfl
  ·rw[if_neg (by omega)]at qF
   have q2':¬40≤slot:=by omega
   simp -implicitDefEqProofs only[go_sem,↓reduceIte,q1,q2']
   obtain⟨H,hH⟩:=ZA ((h.push (.cells #[.int .i64 0,.int .i64 0,.int .i64 0,.int .i64 0,.int .i64 0] 47)).push (.cells #[.int .i64 0,.int .i64 0,.int .i64 0,.int .i64 0,.int .i64 0,.int .i64 0,.int .i64 0,.int .i64 0] 161):Hp)
   have HB:Zg h.size h H:=by rw[hH];(repeat' (first|exact Zg.refl _ _|assumption|refine Zg.add ?_ _|refine Zg.Zm ?_ (by first|omega|(simp;omega)) _|refine Zg.trans (by assumption) ?_))
   have HZ:H[h.size]? = some (.cells (Gi TQ).toArray 47):=by rw[hH,Zs (by simp),Zb];rfl
   have HV:H[h.size+1]? = some (.cells (Zo TQ).toArray 161):=by
    have:=Zb (h:=h.push (.cells #[.int .i64 0,.int .i64 0,.int .i64 0,.int .i64 0,.int .i64 0] 47)) (o:=.cells #[.int .i64 0,.int .i64 0,.int .i64 0,.int .i64 0,.int .i64 0,.int .i64 0,.int .i64 0,.int .i64 0] 161)
    rw[Array.size_push]at this
    rw[hH,this];rfl
   rw[←hH]
   clear hH
   have wz:∀g:Hp,g[h.size]? = some (.cells (Gi TQ).toArray 47)→∀w:List Value,w.length=5→w.all Z8=true→wr g ⟨h.size,0,none⟩ w=some (g.setIfInBounds h.size (.cells w.toArray 47)):=by
    intro g hg w h5 h1
    rw[ZR hg 0 w,ZO (by rw[h5];rfl),if_pos ⟨by rw[h5];exact Nat.le_refl _,h1⟩]
   refine VS.ZW (fun F g=>F 1=.int .i64 slot∧F 4=.pointer (some ⟨h.size,0,none⟩)∧F 7=.pointer (some ⟨h.size+1,0,none⟩)∧F 19=.slice p LL.length c∧F 20=.int .i64 LL.length∧Zg h.size h g∧g[h.size]? = some (.cells (Gi TQ).toArray 47)∧∃i:Nat,i≤LL.length∧F 21=.int .i64 i∧g[h.size+1]? = some (.cells (Zo (UT slot (LL.take i).flatten)).toArray 161)∧Uf (LL.take i).flatten=true)
    (fun F _=>LL.length-(vi (F 21)).toNat) rfl ⟨rfl,rfl,rfl,rfl,rfl,HB,HZ,0,by omega,rfl,HV,rfl⟩ ?_
   clear HB HZ HV H
   rintro F g ⟨f1,f4,f7,f19,f20,hg,gZ,i,hi,f21,gV,Y3⟩
   have zV:=Za gV
   by_cases ZC:i<LL.length
   ·have ZL:(i:Int)<LL.length:=by omega
    obtain⟨bb,oo,rfl,UP,YO⟩:=YO (by intro e;rw[e]at ZC;simp at ZC)
    obtain⟨w,hw,tw,hwl⟩:=YO i ZC
    have hw':V.hc g ⟨bb,oo+i,none⟩=some w:=by rw[hg.hc (by exact UP)];exact hw
    have uH:=dQ LL i ZC
    have kM:LL[i]∈LL:=List.getElem_mem ZC
    obtain⟨L,uI⟩:=ZA (LL[i])
    rw[←uI]at tw hwl uH kM
    obtain⟨pw,cw,rfl,hwc⟩:=QG tw
    simp -implicitDefEqProofs only[go_sem,↓reduceIte,f1,f4,f7,f19,f20,f21,ZL,Int.toNat_natCast,hw']
    refine VS.ZW (fun F g=>F 1=.int .i64 slot∧F 4=.pointer (some ⟨h.size,0,none⟩)∧F 7=.pointer (some ⟨h.size+1,0,none⟩)∧F 19=.slice (some ⟨bb,oo,none⟩) LL.length c∧F 20=.int .i64 LL.length∧F 21=.int .i64 i∧F 25=.slice pw L.length cw∧F 26=.int .i64 L.length∧Zg h.size h g∧g[h.size]? = some (.cells (Gi TQ).toArray 47)∧∃j:Nat,j≤L.length∧F 27=.int .i64 j∧g[h.size+1]? = some (.cells (Zo (UT slot ((LL.take i).flatten++L.take j))).toArray 161)∧Uf ((LL.take i).flatten++L.take j)=true)
     (fun F _=>L.length-(vi (F 27)).toNat) rfl ⟨f1,f4,f7,f19,f20,f21,rfl,rfl,hg,gZ,0,by omega,rfl,by rw[List.take_zero,List.append_nil];exact gV,by rw[List.take_zero,List.append_nil];exact Y3⟩ ?_
    clear f1 f4 f7 f19 f20 f21 F hg gZ gV Y3 zV hw'
    rintro F g ⟨f1,f4,f7,f19,f20,f21,f25,f26,hg,gZ,j,hj,f27,gV,Y3⟩
    have zV:=Za gV
    by_cases uJ:j<L.length
    ·have ZkE:(j:Int)<L.length:=by omega
     obtain⟨b2,o2,rfl,Ij,_,hwc⟩:=hwc (by intro e;rw[e]at uJ;simp at uJ)
     have r1:rd g ⟨b2,o2+j*8,none⟩ 8=some (Zo L[j]):=by rw[JI hg (by exact Ij)];exact hwc j uJ
     have Bv:(LL.take i).flatten++L.take (j+1)=((LL.take i).flatten++L.take j)++[L[j]]:=by rw[Yd L j uJ,List.append_assoc]
     have uK:L[j]∈LL.flatten:=List.mem_flatten.2 ⟨L,kM,List.getElem_mem uJ⟩
     obtain⟨v,hv⟩:=ZA (L[j])
     rw[←hv]at r1 Bv uK
     have XZ:UT slot ((LL.take i).flatten++L.take (j+1))=Nn slot (UT slot ((LL.take i).flatten++L.take j)) v:=by
      rw[Bv];unfold UT;rw[List.foldl_append];rfl
     have Mi:Uf ((LL.take i).flatten++L.take (j+1))=decide (Yb v):=by rw[Bv,Bu,Y3,Bool.true_and];simp[Uf]
     obtain⟨B,hB⟩:=ZA (UT slot ((LL.take i).flatten++L.take j))
     rw[←hB]at gV XZ
     unfold Zo at r1
     simp -implicitDefEqProofs only[go_sem,↓reduceIte,f1,f4,f7,f19,f20,f21,f25,f26,f27,ZkE,Int.toNat_natCast,r1]
     refine (Mt T _ v).use ?_
     rintro _ g1 ⟨rfl,b1⟩
     have gN:Zg g.size g g1:=(Zg.push (Nat.le_refl _) _).trans (b1.mono (by simp))
     have y0:g1[g.size]? = some (.cells (Zo v).toArray 161):=b1.get (by simp) Zb
     have z1:=gN.size
     have Oa:=hg.trans (gN.mono hg.size)
     have gZ1:=gN.get (Za gZ) gZ
     have gV1:=gN.get zV gV
     have z0:=Za y0
     by_cases c1:Yb v
     ·rw[decide_eq_true c1]at Mi
      have y1:V.hc g1 ⟨g.size,0,none⟩=some (.int .i64 v.slot):=by rw[Zh y0];rfl
      have y2:rd g1 ⟨g.size,1,none⟩ 2=some (X3 v.b):=by rw[Z5 y0 (by simp[Zo])];rfl
      have y3:rd g1 ⟨h.size+1,1,none⟩ 2=some (X3 B.b):=by rw[Z5 gV1 (by simp[Zo])];rfl
      by_cases c2:v.slot=slot
      ·simp -implicitDefEqProofs only[go_sem,↓reduceIte,f1,f4,f7,f19,f20,f21,f25,f26,f27,c1,y1,c2,y2,y3]
       refine (UQ T _ v.b B.b).use ?_
       rintro _ g2 ⟨rfl,qm⟩
       have z2:=qm.size
       have Qt:=Oa.trans (qm.mono Oa.size)
       have gZ2:=qm.get (Za gZ1) gZ1
       have gV2:=qm.get (Za gV1) gV1
       have y02:=qm.get z0 y0
       by_cases c3:below B.b v.b
       ·have kD:=(Vi v.b B.b).2 c3
        have rV:=Zq y02 (n:=8) rfl
        have wV:=ZR gV2 0 (Zo v)
        rw[ZO (by simp[Zo]),if_pos ⟨by simp[Zo],rfl⟩]at wV
        have qG:Nn slot B v=v:=by unfold Nn;rw[if_pos ⟨c2,c3⟩]
        rw[qG]at XZ
        unfold Zo at rV wV
        simp -implicitDefEqProofs only[go_sem,↓reduceIte,f1,f4,f7,f19,f20,f21,f25,f26,f27,kD,rV,wV]
        refine⟨⟨f1,f4,f7,f19,f20,f21,f25,f26,Qt.Zm (by omega) _,?_,j+1,uJ,rfl,?_,Mi⟩,?_⟩
        ·rw[Array.getElem?_setIfInBounds,if_neg (by omega)];exact gZ2
        ·rw[XZ];exact kL gV2
        ·simp only[vi,Zl,↓reduceIte,f27];omega
       ·have kD:¬0<Ou v.b B.b:=fun h=>c3 ((Vi v.b B.b).1 h)
        have qG:Nn slot B v=B:=by unfold Nn;rw[if_neg (fun h=>c3 h.2)]
        rw[qG]at XZ
        simp -implicitDefEqProofs only[go_sem,↓reduceIte,f1,f4,f7,f19,f20,f21,f25,f26,f27,kD]
        refine⟨⟨f1,f4,f7,f19,f20,f21,f25,f26,Qt,gZ2,j+1,uJ,rfl,?_,Mi⟩,?_⟩
        ·rw[XZ];exact gV2
        ·simp only[vi,Zl,↓reduceIte,f27];omega
      ·have qG:Nn slot B v=B:=by unfold Nn;rw[if_neg (fun h=>c2 h.1)]
       rw[qG]at XZ
       simp -implicitDefEqProofs only[go_sem,↓reduceIte,f1,f4,f7,f19,f20,f21,f25,f26,f27,c1,y1,c2]
       refine⟨⟨f1,f4,f7,f19,f20,f21,f25,f26,Oa,gZ1,j+1,uJ,rfl,?_,Mi⟩,?_⟩
       ·rw[XZ];exact gV1
       ·simp only[vi,Zl,↓reduceIte,f27];omega
     ·have hf:=Gk uK c1
      rw[hf,if_neg (by decide)]at qF
      have wz1:=wz g1 gZ1 [.int .i64 0,.int .i64 0,.int .i64 0,.int .i64 0,.int .i64 0] rfl rfl
      have zl:=Za gZ1
      simp -implicitDefEqProofs only[go_sem,↓reduceIte,f1,f4,f7,c1,wz1,zl,qF]
      exact⟨rfl,Oa.Zm (Nat.le_refl _) _⟩
    ·have ZkG:¬(j:Int)<L.length:=by omega
     obtain rfl:j=L.length:=by omega
     rw[List.take_length,←uH]at gV Y3
     simp -implicitDefEqProofs only[go_sem,↓reduceIte,f1,f4,f7,f19,f20,f21,f25,f26,f27,ZkG]
     refine⟨⟨f1,f4,f7,f19,f20,hg,gZ,i+1,ZC,rfl,gV,Y3⟩,?_⟩
     simp only[vi,Zl,↓reduceIte,f21];omega
   ·have YF:¬(i:Int)<LL.length:=by omega
    obtain rfl:i=LL.length:=by omega
    rw[List.take_length]at gV Y3
    rw[Y3,if_pos rfl]at qF
    rw[qF,if_pos rfl,if_pos rfl]
    obtain⟨B,hB⟩:=ZA (UT slot LL.flatten)
    rw[←hB]at gV ⊢
    have r1:rd g ⟨h.size+1,3,none⟩ 5=some (Gi B):=by rw[Z5 gV (by simp[Zo])];rfl
    have r2:V.hc g ⟨h.size+1,1,none⟩=some (.int .i64 B.b.r):=by rw[Zh gV];rfl
    have wB:=wz g gZ (Gi B) rfl rfl
    have zl:=Za gZ
    unfold Gi at r1 wB ⊢
    simp -implicitDefEqProofs only[go_sem,↓reduceIte,f1,f4,f7,f19,f20,f21,YF]
    refine VS.w (h.size) [] (.q 0 (.q 2 (.q 3 (.or 1 (.or 4 (.q 5 (.s 6 (.q 7 (.q 8 .nil)))) (.s 6 (.s 4 (.q 5 (.q 7 (.q 8 .nil)))))) (.s 4 (.q 5 (.s 1 (.s 6 (.q 7 (.q 8 .nil)))))))))) mixed (by kernel_rfl) ?_
    simp -implicitDefEqProofs only[go_sem,↓reduceIte,f4,f7,r1,r2,wB,zl]
    have Bw:=hg.Zm (Nat.le_refl _) (.cells #[.int .i64 B.k,.int .i64 B.c,.int .i64 B.s,.int .i64 B.nm,.int .i64 B.v] 47)
    exact⟨⟨Bw,Bw⟩,Bw⟩
end Go.Proofs.YtkfhncfkagcamaaGreatDoor
