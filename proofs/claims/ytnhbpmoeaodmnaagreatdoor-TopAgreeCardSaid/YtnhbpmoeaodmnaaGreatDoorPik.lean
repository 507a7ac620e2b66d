/- Ballots and votes: what the small functions compute; no condition but those in the statements. -/
import Derived.Test.YtnhbpmoeaodmnaaGreatDoorVst
import Derived.Test.YtnhbpmoeaodmnaaGreatDoorW13
import Derived.Test.YtnhbpmoeaodmnaaGreatDoorLchks
namespace Go.Proofs.YtnhbpmoeaodmnaaGreatDoor
open Go Go.V
set_option linter.unusedSimpArgs false
set_option linter.unusedVariables false
set_option maxRecDepth 100000
structure Yw where
 r:Int
 n:Int
structure Vt where
 slot:Int
 b:Yw
 k:Int
 c:Int
 s:Int
 nm:Int
 v:Int
def X6 (b:Yw):List Value:=[.int .i64 b.r,.int .i64 b.n]
def Zm (v:Vt):List Value:=[.int .i64 v.slot,.int .i64 v.b.r,.int .i64 v.b.n,.int .i64 v.k,.int .i64 v.c,.int .i64 v.s,.int .i64 v.nm,.int .i64 v.v]
def ZI (b:Yw):Prop:=(1≤b.r∧b.r≤65536)∧(0≤b.n∧b.n≤4)
instance (b:Yw):Decidable (ZI b):=by unfold ZI;infer_instance
def Z5 (v:Vt):Prop:=(0≤v.slot∧v.slot≤39)∧ZI v.b∧YQ v.k v.c v.s v.nm v.v=0
instance (v:Vt):Decidable (Z5 v):=by unfold Z5;infer_instance
def below (a b:Yw):Prop:=a.r<b.r∨(a.r=b.r∧a.n<b.n)
instance (a b:Yw):Decidable (below a b):=by unfold below;infer_instance
def ZcA (a b:Int):Int:=if a<b then -1 else if b<a then 1 else 0
def Zet (a b:Yw):Int:=if ZcA a.r b.r=0 then ZcA a.n b.n else ZcA a.r b.r
theorem ZaX (a b:Yw):0<Zet a b↔below b a:=by
 unfold Zet ZcA below
 repeat' split
 all_goals omega
theorem ZdN (a b:Yw):Zet a b<0↔below a b:=by
 unfold Zet ZcA below
 repeat' split
 all_goals omega
theorem ZkD (T:World) (h:Hp) (a:Int):Zd Tryz.prog T 129 #[.int .i64 a] h fun v' h'=>v'=.bool false∧h'=h:=by
 refine Zd.Zi (args:=[_]) Tryz.func129 rfl rfl rfl rfl ?_
 simp -implicitDefEqProofs only[go_sem,↓reduceIte]
theorem ZaB (T:World) (h:Hp) (a b:Int):Zd Tryz.prog T 108 #[.int .i64 a,.int .i64 b] h fun v' h'=>v'=.int .i64 (ZcA a b)∧h'=h:=by
 refine Zd.Zi (args:=[_,_]) Tryz.func108 rfl rfl rfl rfl ?_
 simp -implicitDefEqProofs only[go_sem,↓reduceIte]
 refine (ZkD T _ _).pure ?_
 simp -implicitDefEqProofs only[go_sem,↓reduceIte]
 refine (ZkD T _ _).pure ?_
 unfold ZcA
 by_cases q1:a<b
 ·simp -implicitDefEqProofs only[go_sem,↓reduceIte,q1]
 ·by_cases q2:b<a
  ·simp -implicitDefEqProofs only[go_sem,↓reduceIte,q1,q2]
  ·simp -implicitDefEqProofs only[go_sem,↓reduceIte,q1,q2]
theorem ZsP (T:World) (h:Hp) (b:Nat) (x y:Int) (h0:hc h ⟨b,0,none⟩=some (.int .i64 x)) (h1:hc h ⟨b,1,none⟩=some (.int .i64 y)):Zd Tryz.prog T 128 #[.slice (some ⟨b,0,none⟩) 2 2] h fun v' h'=>v'=.int .i64 (if x=0 then y else x)∧h'=h:=by
 refine Zd.Zi (args:=[_]) Tryz.func128 rfl rfl rfl rfl ?_
 simp -implicitDefEqProofs only[go_sem,↓reduceIte]
 refine VS.rounds 3 rfl ?_
 by_cases q1:x=0
 ·by_cases q2:y=0
  ·simp -implicitDefEqProofs only[go_sem,↓reduceIte,h0,h1,q1,q2,Int.reduceAdd]
  ·simp -implicitDefEqProofs only[go_sem,↓reduceIte,h0,h1,q1,q2,Int.reduceAdd]
 ·simp -implicitDefEqProofs only[go_sem,↓reduceIte,h0,h1,q1]
theorem ZaY (T:World) (h:Hp) (b:Yw):Zd Tryz.prog T 102 #[.agg (X6 b).toArray] h fun v' h'=>v'=.bool (decide (ZI b))∧h'=h.push (.cells (X6 b).toArray 60):=by
 refine Zd.Zi (args:=[_]) Tryz.func102 rfl rfl rfl rfl ?_
 unfold X6
 by_cases q1:1≤b.r
 ·by_cases q2:b.r≤65536
  ·by_cases q3:0≤b.n
   ·by_cases q4:b.n<5
    ·have e:ZI b:=⟨⟨q1,q2⟩,q3,by omega⟩
     simp -implicitDefEqProofs only[go_sem,↓reduceIte,q1,q2,q3,q4,e]
    ·have e:¬ZI b:=by unfold ZI;omega
     simp -implicitDefEqProofs only[go_sem,↓reduceIte,q1,q2,q3,q4,e]
   ·have e:¬ZI b:=by unfold ZI;omega
    simp -implicitDefEqProofs only[go_sem,↓reduceIte,q1,q2,q3,e]
  ·have e:¬ZI b:=by unfold ZI;omega
   simp -implicitDefEqProofs only[go_sem,↓reduceIte,q1,q2,e]
 ·have e:¬ZI b:=by unfold ZI;omega
  simp -implicitDefEqProofs only[go_sem,↓reduceIte,q1,e]
theorem UR (T:World) (h:Hp) (a b:Yw):Zd Tryz.prog T 103 #[.agg (X6 a).toArray,.agg (X6 b).toArray] h fun v' h'=>v'=.int .i64 (Zet a b)∧Zf h.size h h':=by
 refine Zd.Zi (args:=[_,_]) Tryz.func103 rfl rfl rfl rfl ?_
 unfold X6
 simp -implicitDefEqProofs only[go_sem,↓reduceIte]
 refine VS.w (h.size+2) [] (.q 0 (.q 1 (.q 2 (.q 3 (.q 5 (.q 6 (.q 7 (.q 8 (.s 4 (.s 9 (.s 10 (.s 11 (.q 12 .nil))))))))))))) mixed (by kernel_rfl) ?_
 simp -implicitDefEqProofs only[go_sem,↓reduceIte]
 refine (ZaB T _ _ _).pure ?_
 simp -implicitDefEqProofs only[go_sem,↓reduceIte]
 refine (ZaB T _ _ _).pure ?_
 simp -implicitDefEqProofs only[go_sem,↓reduceIte]
 refine⟨(Zf.refl _ _).Ye (by simp) _,?_⟩
 refine (ZsP T _ _ (ZcA a.r b.r) (ZcA a.n b.n) ?_ ?_).pure ?_
 ·simp -implicitDefEqProofs only[go_sem,↓reduceIte]
 ·simp -implicitDefEqProofs only[go_sem,↓reduceIte]
 unfold Zet
 simp -implicitDefEqProofs only[go_sem,↓reduceIte]
 refine⟨(Zf.refl _ _).Ye (by simp) _,?_⟩
 (repeat' (first|exact Zf.refl _ _|assumption|refine Zf.add ?_ _|refine Zf.Zj ?_ (by first|omega|(simp;omega)) _|refine Zf.trans (by assumption) ?_))
theorem ZfJ (T:World) (h:Hp) (v:Vt):Zd Tryz.prog T 105 #[.agg (Zm v).toArray] h fun v' h'=>v'=.bool (decide (Z5 v))∧Zf h.size h h':=by
 refine Zd.Zi (args:=[_]) Tryz.func105 rfl rfl rfl rfl ?_
 unfold Zm
 by_cases q1:0≤v.slot
 ·by_cases q2:v.slot<40
  ·simp -implicitDefEqProofs only[go_sem,↓reduceIte,q1,q2]
   refine (ZaY T _ v.b).use ?_
   rintro _ _ ⟨rfl,rfl⟩
   unfold X6
   by_cases q3:ZI v.b
   ·simp -implicitDefEqProofs only[go_sem,↓reduceIte,q3]
    refine (JZ T _ v.k v.c v.s v.nm v.v).use ?_
    rintro _ _ ⟨rfl,rfl⟩
    by_cases q4:YQ v.k v.c v.s v.nm v.v=0
    ·have e:Z5 v:=⟨⟨q1,by omega⟩,q3,q4⟩
     simp -implicitDefEqProofs only[go_sem,↓reduceIte,q4,e]
     (repeat' (first|exact Zf.refl _ _|assumption|refine Zf.add ?_ _|refine Zf.Zj ?_ (by first|omega|(simp;omega)) _|refine Zf.trans (by assumption) ?_))
    ·have e:¬Z5 v:=fun h=>q4 h.2.2
     simp -implicitDefEqProofs only[go_sem,↓reduceIte,q4,e]
     (repeat' (first|exact Zf.refl _ _|assumption|refine Zf.add ?_ _|refine Zf.Zj ?_ (by first|omega|(simp;omega)) _|refine Zf.trans (by assumption) ?_))
   ·have e:¬Z5 v:=fun h=>q3 h.2.1
    simp -implicitDefEqProofs only[go_sem,↓reduceIte,q3,e]
  ·have e:¬Z5 v:=by unfold Z5;omega
   simp -implicitDefEqProofs only[go_sem,↓reduceIte,q1,q2,e]
 ·have e:¬Z5 v:=by unfold Z5;omega
  simp -implicitDefEqProofs only[go_sem,↓reduceIte,q1,e]
theorem QP {h:Hp} {v:Value} {l:List Vt} (s:Ts Zm 8 h v l):∃p cap,v=.slice p l.length cap∧(l≠[]→∃b o,p=some ⟨b,o,none⟩∧b<h.size∧(∀i (hi:i<l.length),hc h ⟨b,o+i*8,none⟩=some (.int .i64 l[i].slot))∧∀i (hi:i<l.length),rd h ⟨b,o+i*8,none⟩ 8=some (Zm l[i])):=by
 obtain⟨p,cap,hv,hc1⟩:=Ts.open (enc:=Zm) (n:=8) (fun _=>rfl) (by decide) s
 refine⟨p,cap,hv,fun Ys=>?_⟩
 obtain⟨b,o,hp,hb,YR⟩:=hc1 Ys
 exact⟨b,o,hp,hb,fun i hi=>(YR i hi).hc (i:=0) rfl,fun i hi=>(YR i hi).rd (by simp[Zm]) rfl⟩
def Zeu (l:List Vt) (j:Nat):Int:=((l[j]?).map (·.slot)).getD (-1)
def ZaC (l:List Vt) (i:Nat):Int:=if i=0 then -1 else Zeu l (i-1)
def Zbq (p:Yw) (l:List Vt) (i:Nat):Bool:=match l[i]? with
 | some v=>decide (Z5 v∧¬below p v.b∧(i=0∨Zeu l (i-1)<v.slot))
 | none=>true
def Xt (p:Yw) (l:List Vt):Int:=if ¬ZI p∧¬(p.r=0∧p.n=0) then 5 else if (List.range l.length).all (Zbq p l)=true then 0 else 5
theorem Zcn {l:List Vt} {j:Nat} (hj:j<l.length):Zeu l j=l[j].slot:=by
 unfold Zeu;rw[List.getElem?_eq_getElem hj];rfl
theorem ZdO {p:Yw} {l:List Vt} {i:Nat} (hi:i<l.length):Zbq p l i=true↔Z5 l[i]∧¬below p l[i].b∧(i=0∨Zeu l (i-1)<l[i].slot):=by
 unfold Zbq
 rw[List.getElem?_eq_getElem hi]
 simp only[decide_eq_true_eq]
theorem Zig {p:Yw} {l:List Vt} {i:Nat} (hi:i<l.length):Zbq p l i=true↔Z5 l[i]∧¬below p l[i].b∧ZaC l i<l[i].slot:=by
 rw[ZdO hi]
 unfold ZaC
 by_cases h0:i=0
 ·rw[if_pos h0]
  constructor
  ·rintro⟨h1,h2,_⟩;exact⟨h1,h2,by have:=h1.1.1;omega⟩
  ·rintro⟨h1,h2,_⟩;exact⟨h1,h2,.inl h0⟩
 ·rw[if_neg h0]
  constructor
  ·rintro⟨h1,h2,h3⟩;exact⟨h1,h2,h3.resolve_left h0⟩
  ·rintro⟨h1,h2,h3⟩;exact⟨h1,h2,.inr h3⟩
theorem ZbY {p:Yw} {l:List Vt} (hp:¬(¬ZI p∧¬(p.r=0∧p.n=0))) (hg:∀j,j<l.length→Zbq p l j=true):Xt p l=0:=by
 unfold Xt
 rw[if_neg hp,if_pos (List.all_eq_true.2 fun i hi=>hg i (List.mem_range.1 hi))]
theorem QQ {p:Yw} {l:List Vt} {i:Nat} (hi:i<l.length) (hb:Zbq p l i=false):Xt p l=5:=by
 unfold Xt
 split
 ·rfl
 ·rw[if_neg]
  intro h
  have:=List.all_eq_true.1 h i (List.mem_range.2 hi)
  rw[hb]at this;cases this
def YI (p:Yw) (v:Value):List Value:=[.int .i64 p.r,.int .i64 p.n,v]
theorem ZcK (T:World) (h:Hp) (p:Yw) (u:Value) (l:List Vt) (s:Ts Zm 8 h u l) (hlen:l.length≤4611686018427387904) :
  Zd Tryz.prog T 101 #[.agg (YI p u).toArray] h fun v' h'=>v'=.int .i64 (Xt p l)∧Zf h.size h h':=by
 obtain⟨pv,cv,rfl,YR⟩:=QP s
 refine Zd.Zi (args:=[_]) Tryz.func101 rfl rfl rfl rfl ?_
 unfold YI
 by_cases z:p.r=0∧p.n=0
 ·obtain⟨z1,z2⟩:=z
  have ZiM:¬(¬ZI p∧¬(p.r=0∧p.n=0)):=fun h=>h.2 ⟨z1,z2⟩
  simp -implicitDefEqProofs only[go_sem,↓reduceIte,z1,z2]
  obtain⟨H,hH⟩:=Zx (h.push (.cells [.int .i64 0,.int .i64 0,.slice pv l.length cv].toArray 63):Hp)
  have x0:H[h.size]? = some (.cells (YI p (.slice pv l.length cv)).toArray 63):=by rw[hH];unfold YI;rw[z1,z2];exact Zb
  have hHb:Zf h.size h H:=by rw[hH];(repeat' (first|exact Zf.refl _ _|assumption|refine Zf.add ?_ _|refine Zf.Zj ?_ (by first|omega|(simp;omega)) _|refine Zf.trans (by assumption) ?_))
  rw[←hH]
  clear hH
  have hz:=Za x0
  refine VS.ZW (fun F g=>Zf H.size H g∧F 1=.pointer (some ⟨h.size,0,none⟩)∧F 17=.slice pv l.length cv∧F 18=.int .i64 l.length∧∃i:Nat,i≤l.length∧F 19=.int .i64 i∧F 3=.int .i64 (ZaC l i)∧∀j,j<i→Zbq p l j=true)
   (fun F _=>l.length-(vi (F 19)).toNat) rfl ⟨Zf.refl _ _,rfl,rfl,rfl,0,by omega,rfl,rfl,fun j hj=>by omega⟩ ?_
  rintro F g ⟨hg,f1,f17,f18,i,hi,f19,f3,YU⟩
  have hgs:=hg.size
  have hBg:Zf h.size h g:=hHb.trans (hg.mono (by omega))
  by_cases ZD:i<l.length
  ·have ZL:(i:Int)<l.length:=by omega
   obtain⟨bb,oo,rfl,hbb,ZgC,YR⟩:=YR (by intro e;rw[e]at ZD;simp at ZD)
   have ZFQ:bb<H.size:=by have:=hHb.size;omega
   have r1:rd g ⟨bb,oo+i*8,none⟩ 8=some (Zm l[i]):=by
    rw[JP hBg (by exact hbb)];exact YR i ZD
   have rp:rd g ⟨h.size,0,none⟩ 2=some [.int .i64 p.r,.int .i64 p.n]:=by rw[JP hg (by exact hz),Z4 x0 (by simp[YI])];rfl
   have hsl:=Zcn ZD
   have gl:=Zig (p:=p) ZD
   obtain⟨v,hv⟩:=Zx (l[i])
   rw[←hv]at r1 gl hsl
   unfold Zm at r1
   have YN:ZaC l (i+1)=v.slot:=by unfold ZaC;rw[if_neg (by omega),Nat.add_sub_cancel];exact hsl
   simp -implicitDefEqProofs only[go_sem,↓reduceIte,f1,f17,f18,f19,ZL,r1]
   refine (ZfJ T _ v).use ?_
   rintro _ g1 ⟨rfl,b1⟩
   have b1s:=b1.size
   simp only[Array.size_push]at b1s
   have y0:g1[g.size]? = some (.cells [.int .i64 v.slot,.int .i64 v.b.r,.int .i64 v.b.n,.int .i64 v.k,.int .i64 v.c,.int .i64 v.s,.int .i64 v.nm,.int .i64 v.v].toArray 96):=b1.get (by simp) Zb
   have y1:hc g1 ⟨g.size,0,none⟩=some (.int .i64 v.slot):=by rw[Zg y0];rfl
   have y2:rd g1 ⟨g.size,1,none⟩ 2=some [.int .i64 v.b.r,.int .i64 v.b.n]:=by rw[Z4 y0 (by simp)];rfl
   have hgp:Zf g.size g g1:=(Zf.push (Nat.le_refl _) _).trans (b1.mono (by simp))
   have y3:rd g1 ⟨h.size,0,none⟩ 2=some [.int .i64 p.r,.int .i64 p.n]:=by rw[JP hgp (by show h.size<g.size;omega)];exact rp
   have Q2:Zf h.size h g1:=hBg.trans (hgp.mono (by omega))
   have hg1:Zf H.size H g1:=hg.trans (hgp.mono (by omega))
   by_cases c1:Z5 v
   ·by_cases c2:v.slot≤ZaC l i
    ·have e:=QQ (p:=p) ZD (by cases hv':Zbq p l i with|false=>rfl|true=>exact absurd (gl.1 hv').2.2 (by omega))
     simp -implicitDefEqProofs only[go_sem,↓reduceIte,f1,f3,c1,c2,y1,e,Q2]
    ·simp -implicitDefEqProofs only[go_sem,↓reduceIte,f1,f3,c1,c2,y1,y2,y3]
     refine (UR T _ v.b p).use ?_
     rintro _ g2 ⟨rfl,b2⟩
     have y4:hc g2 ⟨g.size,0,none⟩=some (.int .i64 v.slot):=by rw[b2.hc (by show g.size<g1.size;omega)];exact y1
     have hB2:Zf h.size h g2:=Q2.trans (b2.mono (by have:=Q2.size;omega))
     have QF:Zf H.size H g2:=hg1.trans (b2.mono (by have:=hg1.size;omega))
     by_cases c3:below p v.b
     ·have e:=QQ (p:=p) ZD (by cases hv':Zbq p l i with|false=>rfl|true=>exact absurd c3 (gl.1 hv').2.1)
      have c3':=(ZaX v.b p).2 c3
      simp -implicitDefEqProofs only[go_sem,↓reduceIte,c3',e,hB2]
     ·have c3':¬0<Zet v.b p:=fun h=>c3 ((ZaX v.b p).1 h)
      simp -implicitDefEqProofs only[go_sem,↓reduceIte,c3',f1,f17,f18,f19,y4]
      refine⟨⟨QF,f1,f17,f18,i+1,ZD,rfl,by rw[YN];rfl,fun j hj=>?_⟩,?_⟩
      ·by_cases hji:j=i
       ·subst hji;exact gl.2 ⟨c1,c3,by omega⟩
       ·exact YU j (by omega)
      ·simp only[vi,Zk,↓reduceIte,f19];omega
   ·have e:=QQ (p:=p) ZD (by cases hv':Zbq p l i with|false=>rfl|true=>exact absurd (gl.1 hv').1 c1)
    simp -implicitDefEqProofs only[go_sem,↓reduceIte,c1,e,Q2]
  ·have YK:¬(i:Int)<l.length:=by omega
   obtain rfl:i=l.length:=by omega
   have e:=ZbY ZiM YU
   simp -implicitDefEqProofs only[go_sem,↓reduceIte,f17,f18,f19,YK,e,hBg]
 ·have z':¬p.r=0∨¬p.n=0:=by omega
  by_cases q:ZI p
  ·have ZiM:¬(¬ZI p∧¬(p.r=0∧p.n=0)):=fun h=>h.1 q
   have zz:(p.r=0∧p.n=0)=False:=eq_false z
   by_cases z1:p.r=0
   ·have z2:¬p.n=0:=fun e=>z ⟨z1,e⟩
    exact absurd q.1.1 (by omega)
   ·simp -implicitDefEqProofs only[go_sem,↓reduceIte,z1]
    refine (ZaY T _ p).use ?_
    rintro _ _ ⟨rfl,rfl⟩
    simp -implicitDefEqProofs only[go_sem,↓reduceIte,q]
    obtain⟨H,hH⟩:=Zx ((h.push (.cells [.int .i64 p.r,.int .i64 p.n,.slice pv l.length cv].toArray 63)).push (.cells (X6 p).toArray 60):Hp)
    have x0:H[h.size]? = some (.cells (YI p (.slice pv l.length cv)).toArray 63):=by rw[hH];simp only[Array.getElem?_push,Array.size_push,IntWalk.iteOmega,↓reduceIte];rfl
    have hHb:Zf h.size h H:=by rw[hH];(repeat' (first|exact Zf.refl _ _|assumption|refine Zf.add ?_ _|refine Zf.Zj ?_ (by first|omega|(simp;omega)) _|refine Zf.trans (by assumption) ?_))
    rw[←hH]
    clear hH
    have hz:=Za x0
    refine VS.ZW (fun F g=>Zf H.size H g∧F 1=.pointer (some ⟨h.size,0,none⟩)∧F 17=.slice pv l.length cv∧F 18=.int .i64 l.length∧∃i:Nat,i≤l.length∧F 19=.int .i64 i∧F 3=.int .i64 (ZaC l i)∧∀j,j<i→Zbq p l j=true)
     (fun F _=>l.length-(vi (F 19)).toNat) rfl ⟨Zf.refl _ _,rfl,rfl,rfl,0,by omega,rfl,rfl,fun j hj=>by omega⟩ ?_
    rintro F g ⟨hg,f1,f17,f18,i,hi,f19,f3,YU⟩
    have hgs:=hg.size
    have hBg:Zf h.size h g:=hHb.trans (hg.mono (by omega))
    by_cases ZD:i<l.length
    ·have ZL:(i:Int)<l.length:=by omega
     obtain⟨bb,oo,rfl,hbb,ZgC,YR⟩:=YR (by intro e;rw[e]at ZD;simp at ZD)
     have ZFQ:bb<H.size:=by have:=hHb.size;omega
     have r1:rd g ⟨bb,oo+i*8,none⟩ 8=some (Zm l[i]):=by
      rw[JP hBg (by exact hbb)];exact YR i ZD
     have rp:rd g ⟨h.size,0,none⟩ 2=some [.int .i64 p.r,.int .i64 p.n]:=by rw[JP hg (by exact hz),Z4 x0 (by simp[YI])];rfl
     have hsl:=Zcn ZD
     have gl:=Zig (p:=p) ZD
     obtain⟨v,hv⟩:=Zx (l[i])
     rw[←hv]at r1 gl hsl
     unfold Zm at r1
     have YN:ZaC l (i+1)=v.slot:=by unfold ZaC;rw[if_neg (by omega),Nat.add_sub_cancel];exact hsl
     simp -implicitDefEqProofs only[go_sem,↓reduceIte,f1,f17,f18,f19,ZL,r1]
     refine (ZfJ T _ v).use ?_
     rintro _ g1 ⟨rfl,b1⟩
     have b1s:=b1.size
     simp only[Array.size_push]at b1s
     have y0:g1[g.size]? = some (.cells [.int .i64 v.slot,.int .i64 v.b.r,.int .i64 v.b.n,.int .i64 v.k,.int .i64 v.c,.int .i64 v.s,.int .i64 v.nm,.int .i64 v.v].toArray 96):=b1.get (by simp) Zb
     have y1:hc g1 ⟨g.size,0,none⟩=some (.int .i64 v.slot):=by rw[Zg y0];rfl
     have y2:rd g1 ⟨g.size,1,none⟩ 2=some [.int .i64 v.b.r,.int .i64 v.b.n]:=by rw[Z4 y0 (by simp)];rfl
     have hgp:Zf g.size g g1:=(Zf.push (Nat.le_refl _) _).trans (b1.mono (by simp))
     have y3:rd g1 ⟨h.size,0,none⟩ 2=some [.int .i64 p.r,.int .i64 p.n]:=by rw[JP hgp (by show h.size<g.size;omega)];exact rp
     have Q2:Zf h.size h g1:=hBg.trans (hgp.mono (by omega))
     have hg1:Zf H.size H g1:=hg.trans (hgp.mono (by omega))
     by_cases c1:Z5 v
     ·by_cases c2:v.slot≤ZaC l i
      ·have e:=QQ (p:=p) ZD (by cases hv':Zbq p l i with|false=>rfl|true=>exact absurd (gl.1 hv').2.2 (by omega))
       simp -implicitDefEqProofs only[go_sem,↓reduceIte,f1,f3,c1,c2,y1,e,Q2]
      ·simp -implicitDefEqProofs only[go_sem,↓reduceIte,f1,f3,c1,c2,y1,y2,y3]
       refine (UR T _ v.b p).use ?_
       rintro _ g2 ⟨rfl,b2⟩
       have y4:hc g2 ⟨g.size,0,none⟩=some (.int .i64 v.slot):=by rw[b2.hc (by show g.size<g1.size;omega)];exact y1
       have hB2:Zf h.size h g2:=Q2.trans (b2.mono (by have:=Q2.size;omega))
       have QF:Zf H.size H g2:=hg1.trans (b2.mono (by have:=hg1.size;omega))
       by_cases c3:below p v.b
       ·have e:=QQ (p:=p) ZD (by cases hv':Zbq p l i with|false=>rfl|true=>exact absurd c3 (gl.1 hv').2.1)
        have c3':=(ZaX v.b p).2 c3
        simp -implicitDefEqProofs only[go_sem,↓reduceIte,c3',e,hB2]
       ·have c3':¬0<Zet v.b p:=fun h=>c3 ((ZaX v.b p).1 h)
        simp -implicitDefEqProofs only[go_sem,↓reduceIte,c3',f1,f17,f18,f19,y4]
        refine⟨⟨QF,f1,f17,f18,i+1,ZD,rfl,by rw[YN];rfl,fun j hj=>?_⟩,?_⟩
        ·by_cases hji:j=i
         ·subst hji;exact gl.2 ⟨c1,c3,by omega⟩
         ·exact YU j (by omega)
        ·simp only[vi,Zk,↓reduceIte,f19];omega
     ·have e:=QQ (p:=p) ZD (by cases hv':Zbq p l i with|false=>rfl|true=>exact absurd (gl.1 hv').1 c1)
      simp -implicitDefEqProofs only[go_sem,↓reduceIte,c1,e,Q2]
    ·have YK:¬(i:Int)<l.length:=by omega
     obtain rfl:i=l.length:=by omega
     have e:=ZbY ZiM YU
     simp -implicitDefEqProofs only[go_sem,↓reduceIte,f17,f18,f19,YK,e,hBg]
  ·have e:Xt p l=5:=by unfold Xt;rw[if_pos ⟨q,z⟩]
   by_cases z1:p.r=0
   ·have z2:¬p.n=0:=fun e=>z ⟨z1,e⟩
    have hb:=ZaY T (h.push (.cells [.int .i64 0,.int .i64 p.n,.slice pv l.length cv].toArray 63)) p
    simp -implicitDefEqProofs only[go_sem,↓reduceIte,z1,z2]
    unfold X6 at hb
    rw[z1]at hb
    refine hb.use ?_
    rintro _ _ ⟨rfl,rfl⟩
    simp -implicitDefEqProofs only[go_sem,↓reduceIte,q,e]
   ·simp -implicitDefEqProofs only[go_sem,↓reduceIte,z1]
    refine (ZaY T _ p).use ?_
    rintro _ _ ⟨rfl,rfl⟩
    simp -implicitDefEqProofs only[go_sem,↓reduceIte,q,e]
theorem ZaD (T:World) (h:Hp) (u:Value) (l:List Vt) (s:Ts Zm 8 h u l) (hl:l.length≤2199023255552) :
  Zd Tryz.prog T 104 #[u] h fun v' h'=>Jc h.size 96 Zm 8 h' v' l∧Zf h.size h h':=by
 obtain⟨p,c,rfl,hc1⟩:=QP s
 refine Zd.Zi (args:=[_]) Tryz.func104 rfl rfl rfl rfl ?_
 cases p with
 | none=>
  have:l=[]:=by
   cases l with
   | nil=>rfl
   | cons x l=>obtain⟨b,o,hp,_⟩:=hc1 (by simp);cases hp
  subst this
  simp -implicitDefEqProofs only[go_sem,↓reduceIte]
  exact Jc.nil _ _ _ _ _
 | some a=>
  simp -implicitDefEqProofs only[go_sem,↓reduceIte]
  refine Zci (E:=96) (B:=h.size) (n:=8) (bytes:=64) ZeV Tryz.underlying61 Zi8 Zvl rfl Zvk (fun _=>rfl) (Jc.Zhw _ _ Zm 8 _ _) (by simp) (s.Z9 (Zf.push (Nat.le_refl _) _)) (by simp;omega) (by omega) ?_
  intro v' h' ho hb _
  simp -implicitDefEqProofs only[go_sem,↓reduceIte]
  exact⟨by simpa using ho,(Zf.push (Nat.le_refl _) _).trans hb⟩
def Yo (p:Yw) (l:List Vt) (b:Yw):Int:=if Xt p l≠0 then 5 else if ¬ZI b then 2 else if below b p then 7 else 0
theorem Ze1 (p:Yw) (l:List Vt):Xt p l=0∨Xt p l=5:=by
 unfold Xt
 repeat' split
 all_goals simp
def ZkE (B:Nat) (h':Hp) (v':Value) (p:Yw) (l:List Vt) (b:Yw):Prop:=∃w1 w2,v'=.tuple [.agg (YI (if Yo p l b=0 then b else ⟨0,0⟩) w1).toArray,w2,.int .i64 (Yo p l b)].toArray ∧
 Jc B 96 Zm 8 h' w1 (if Yo p l b=0 then l else [])∧Jc B 96 Zm 8 h' w2 (if Yo p l b=0 then l else [])
theorem Zbr (T:World) (h:Hp) (p:Yw) (u:Value) (l:List Vt) (b:Yw) (s:Ts Zm 8 h u l) (hl:l.length≤2199023255552) :
  Zd Tryz.prog T 72 #[.agg (YI p u).toArray,.agg (X6 b).toArray] h fun v' h'=>ZkE h.size h' v' p l b∧Zf h.size h h':=by
 obtain⟨pu,cu,rfl,hc1⟩:=QP s
 refine Zd.XM (args:=[_,_]) Tryz.func72 rfl rfl rfl rfl ?_
 unfold YI X6
 simp -implicitDefEqProofs only[go_sem,↓reduceIte]
 have ZaZ:Zf h.size h ((((h.push (.cells [.int .i64 p.r,.int .i64 p.n,.slice pu l.length cu].toArray 63)).push (.cells [.int .i64 b.r,.int .i64 b.n].toArray 60)).push (.cells [.int .i64 0,.int .i64 0,.slice none 0 0].toArray 63))):=by (repeat' (first|exact Zf.refl _ _|assumption|refine Zf.add ?_ _|refine Zf.Zj ?_ (by first|omega|(simp;omega)) _|refine Zf.trans (by assumption) ?_))
 refine (ZcK T _ p _ l (s.Z9 ZaZ) (by omega)).use ?_
 rintro _ g1 ⟨rfl,b1⟩
 have x0:g1[h.size]? = some (.cells (YI p (.slice pu l.length cu)).toArray 63):=b1.get (by simp only[Array.size_push];omega) (by simp only[Array.getElem?_push,Array.size_push,IntWalk.iteOmega,↓reduceIte,YI])
 have x1:g1[h.size+1]? = some (.cells [.int .i64 b.r,.int .i64 b.n].toArray 60):=b1.get (by simp only[Array.size_push];omega) (by simp only[Array.getElem?_push,Array.size_push,IntWalk.iteOmega,↓reduceIte])
 have x2:g1[h.size+2]? = some (.cells [.int .i64 0,.int .i64 0,.slice none 0 0].toArray 63):=b1.get (by simp only[Array.size_push];omega) (by simp only[Array.getElem?_push,Array.size_push,IntWalk.iteOmega,↓reduceIte])
 have Q2:Zf h.size h g1:=ZaZ.trans (b1.mono (by simp;omega))
 have z1:=Za x2
 clear b1 ZaZ
 have fin:∀(G:Hp) (w:List Value),w.length=3→w.all Z8=true→G[h.size+2]? = some (.cells [.int .i64 0,.int .i64 0,.slice none 0 0].toArray 63)→wr G ⟨h.size+1+1,0,none⟩ w=some (G.setIfInBounds (h.size+1+1) (.cells w.toArray 63)):=by
  intro G w h3 h1 hx
  rw[ZQ (b:=h.size+1+1) hx 0 w,ZN (by rw[h3];rfl),if_pos ⟨by rw[h3];simp,h1⟩]
 unfold ZkE
 rcases Ze1 p l with e0|e0
 ·have r1:=Zo x1 (n:=2) rfl
  simp -implicitDefEqProofs only[go_sem,↓reduceIte,e0,r1]
  refine (ZaY T _ b).use ?_
  rintro _ _ ⟨rfl,rfl⟩
  by_cases q1:ZI b
  ·have rp:rd g1 ⟨h.size,0,none⟩ 2=some [.int .i64 p.r,.int .i64 p.n]:=by rw[Z4 x0 (by simp[YI])];rfl
   have z2:h.size<g1.size:=by omega
   have z3:h.size+1<g1.size:=by omega
   unfold X6
   simp -implicitDefEqProofs only[go_sem,↓reduceIte,q1,r1,rp,z2,z3]
   refine (UR T _ b p).use ?_
   rintro _ g2 ⟨rfl,b2⟩
   have ZkF:Zf g1.size g1 g2:=(Zf.push (Nat.le_refl _) _).trans (b2.mono (by simp))
   have x0':=ZkF.get z2 x0
   have x1':=ZkF.get z3 x1
   have x2':=ZkF.get z1 x2
   have hB2:=Q2.trans (ZkF.mono Q2.size)
   have z5:=Za x2'
   by_cases q2:below b p
   ·have e:Yo p l b=7:=by unfold Yo;rw[if_neg (by rw[e0];decide),if_neg (fun h=>h q1),if_pos q2]
    have w2:=fin g2 [.int .i64 0,.int .i64 0,.slice none 0 0] rfl rfl x2'
    have c2':Zet b p<0:=(ZdN b p).2 q2
    simp -implicitDefEqProofs only[go_sem,↓reduceIte,c2',e,w2,z5]
    refine⟨⟨_,_,rfl,Jc.nil _ _ _ _ _,Jc.nil _ _ _ _ _⟩,?_⟩
    exact hB2.Zj (by omega) _
   ·have e:Yo p l b=0:=by unfold Yo;rw[if_neg (by rw[e0];decide),if_neg (fun h=>h q1),if_neg q2]
    have r1':=Zo x1' (n:=2) rfl
    have rv:hc g2 ⟨h.size,2,none⟩=some (.slice pu l.length cu):=by rw[Zg x0'];rfl
    have c2':¬Zet b p<0:=fun h=>q2 ((ZdN b p).1 h)
    simp -implicitDefEqProofs only[go_sem,↓reduceIte,c2']
    refine VS.w (h.size+2) [] (.q 0 (.q 1 (.q 2 (.q 5 (.q 6 (.s 3 (.q 4 (.s 7 (.s 8 (.q 9 (.q 10 .nil))))))))))) mixed (by kernel_rfl) ?_
    have z6:h.size<h.size+2:=by omega
    have z7:h.size+1<h.size+2:=by omega
    simp -implicitDefEqProofs only[go_sem,↓reduceIte,r1',rv,z6,z7]
    refine (ZaD T _ _ l (s.Z9 hB2) hl).use ?_
    rintro w1 g3 ⟨o1,b3⟩
    obtain⟨p1,c1,rfl,_⟩:=o1.open
    have b3':Zf (h.size+2) g2 g3:=b3.mono (by omega)
    simp -implicitDefEqProofs only[go_sem,↓reduceIte]
    refine⟨b3',?_⟩
    refine (ZaD T _ _ l ((s.Z9 hB2).Z9 b3) hl).use ?_
    rintro w2 g4 ⟨o2,b4⟩
    have b3s:=b3.size
    have b4s:=b4.size
    have b4':Zf (h.size+2) g2 g4:=b3'.trans (b4.mono (by omega))
    have ZAG:g4[h.size+2]? = some (.cells [.int .i64 0,.int .i64 0,.slice none 0 0].toArray 63):=b4.get (by omega) (b3.get z5 x2')
    have z8:=Za ZAG
    have wf:=fin g4 [.int .i64 b.r,.int .i64 b.n,.slice p1 l.length c1] rfl rfl ZAG
    have hB4:=hB2.trans ((b3.trans (b4.mono b3s)).mono hB2.size)
    simp -implicitDefEqProofs only[go_sem,↓reduceIte,e,wf,z8]
    refine⟨b4',b4'.Zj (by omega) _,⟨_,_,rfl,?_,?_⟩,?_⟩
    ·exact (((o1.Z9 b4 (Nat.le_refl _)).mono (B':=h.size+1+1+1) (by omega)).ZR (by omega) _).mono (by omega)
    ·exact ((o2.mono (B':=h.size+1+1+1) (by omega)).ZR (by omega) _).mono (by omega)
    ·exact hB4.Zj (by omega) _
  ·have e:Yo p l b=2:=by unfold Yo;rw[if_neg (by rw[e0];decide),if_pos q1]
   have w2:=fin g1 [.int .i64 0,.int .i64 0,.slice none 0 0] rfl rfl x2
   simp -implicitDefEqProofs only[go_sem,↓reduceIte,q1,e,w2,z1]
   exact⟨⟨_,_,rfl,Jc.nil _ _ _ _ _,Jc.nil _ _ _ _ _⟩,(Q2.Zj (by omega) _).Ye (by simp;omega) _⟩
 ·have e:Yo p l b=5:=by unfold Yo;rw[if_pos (by rw[e0];decide)]
  have w2:=fin g1 [.int .i64 0,.int .i64 0,.slice none 0 0] rfl rfl x2
  simp -implicitDefEqProofs only[go_sem,↓reduceIte,e0,e,w2,z1]
  exact⟨⟨_,_,rfl,Jc.nil _ _ _ _ _,Jc.nil _ _ _ _ _⟩,Q2.Zj (by omega) _⟩
def Srt (l:List Vt):Prop:=∀i j (hi:i<l.length) (hj:j<l.length),i<j→l[i].slot<l[j].slot
theorem ZdP {p:Yw} {l:List Vt} (h:Xt p l=0):∀j,j<l.length→Zbq p l j=true:=by
 intro j hj
 unfold Xt at h
 split at h
 ·cases h
 ·split at h
  ·rename_i YU
   exact List.all_eq_true.1 YU j (List.mem_range.2 hj)
  ·cases h
theorem ZgD {p:Yw} {l:List Vt} (h:Xt p l=0):Srt l:=by
 have hg:=ZdP h
 intro i j
 induction j with
 | zero=>intro _ _ h;omega
 | succ j ih=>
  intro hi hj hij
  have h1:=(ZdO hj).1 (hg _ hj)
  have h2:Zeu l j<l[j+1].slot:=by
   rcases h1.2.2 with h|h
   ·omega
   ·simpa using h
  rw[Zcn (by omega)]at h2
  by_cases e:i=j
  ·subst e;exact h2
  ·exact Int.lt_trans (ih hi (by omega) (by omega)) h2
theorem Zm5 {p:Yw} {l:List Vt} (h:Xt p l=0):∀x∈l,Z5 x:=by
 intro x hx
 obtain⟨j,hj,rfl⟩:=List.mem_iff_getElem.1 hx
 exact ((ZdO hj).1 (ZdP h j hj)).1
def Js (l:List Vt) (v:Vt):List Vt:=l.filter (fun x=>decide (x.slot<v.slot))++v :: l.filter (fun x=>decide (v.slot<x.slot))
theorem Ze2 {α:Type} (q:α→Bool) (l:List α) (i:Nat) (h1:∀j (hj:j<l.length),j<i→q l[j]=true) (h2:∀j (hj:j<l.length),i≤j→q l[j]=false):l.filter q=l.take i:=by
 conv=>lhs;rw[←List.take_append_drop i l]
 rw[List.filter_append,List.filter_eq_self.2,List.filter_eq_nil_iff.2,List.append_nil]
 ·intro x hx
  obtain⟨j,hj,rfl⟩:=List.mem_iff_getElem.1 hx
  rw[List.getElem_drop]
  rw[h2 _ (by rw[List.length_drop]at hj;omega) (by omega)]
  decide
 ·intro x hx
  obtain⟨j,hj,rfl⟩:=List.mem_iff_getElem.1 hx
  rw[List.length_take]at hj
  rw[List.getElem_take]
  exact h1 _ (by omega) (by omega)
theorem Ze3 {α:Type} (q:α→Bool) (l:List α) (i:Nat) (h1:∀j (hj:j<l.length),j<i→q l[j]=false) (h2:∀j (hj:j<l.length),i≤j→q l[j]=true):l.filter q=l.drop i:=by
 conv=>lhs;rw[←List.take_append_drop i l]
 rw[List.filter_append,List.filter_eq_nil_iff.2,List.filter_eq_self.2,List.nil_append]
 ·intro x hx
  obtain⟨j,hj,rfl⟩:=List.mem_iff_getElem.1 hx
  rw[List.getElem_drop]
  exact h2 _ (by rw[List.length_drop]at hj;omega) (by omega)
 ·intro x hx
  obtain⟨j,hj,rfl⟩:=List.mem_iff_getElem.1 hx
  rw[List.length_take]at hj
  rw[List.getElem_take,h1 _ (by omega) (by omega)]
  decide
theorem ZsQ {l:List Vt} (hs:Srt l) {v:Vt} {i:Nat} (hi:i<l.length) (he:l[i].slot=v.slot):Js l v=l.set i v:=by
 have a1:l.filter (fun x=>decide (x.slot<v.slot))=l.take i:=Ze2 _ _ _
  (fun j hj hji=>decide_eq_true (by have:=hs j i hj hi hji;omega))
  (fun j hj hij=>decide_eq_false (by
    by_cases e:i=j
    ·subst e;omega
    ·have:=hs i j hi hj (by omega);omega))
 have a2:l.filter (fun x=>decide (v.slot<x.slot))=l.drop (i+1):=Ze3 _ _ _
  (fun j hj hji=>decide_eq_false (by
    by_cases e:j=i
    ·subst e;omega
    ·have:=hs j i hj hi (by omega);omega))
  (fun j hj hij=>decide_eq_true (by have:=hs i j hi hj (by omega);omega))
 rw[Js,a1,a2,List.set_eq_take_append_cons_drop,if_pos hi]
theorem ZsR {l:List Vt} (hs:Srt l) {v:Vt} {i:Nat} (hi:i≤l.length) (h1:∀j (hj:j<l.length),j<i→l[j].slot<v.slot) (h2:∀j (hj:j<l.length),i≤j→v.slot<l[j].slot):Js l v=l.take i++v :: l.drop i:=by
 have a1:l.filter (fun x=>decide (x.slot<v.slot))=l.take i:=Ze2 _ _ _ (fun j hj hji=>decide_eq_true (h1 j hj hji)) (fun j hj hij=>decide_eq_false (by have:=h2 j hj hij;omega))
 have a2:l.filter (fun x=>decide (v.slot<x.slot))=l.drop i:=Ze3 _ _ _ (fun j hj hji=>decide_eq_false (by have:=h1 j hj hji;omega)) (fun j hj hij=>decide_eq_true (h2 j hj hij))
 rw[Js,a1,a2]
def Y1:List Nat→Nat
 | []=>0
 | x :: l=>x+256*Y1 l
def Dg (l:List Nat):Prop:=∀x∈l,x<256
theorem Dg.getD {l:List Nat} (w:Dg l) (i:Nat):l.getD i 0<256:=ZG w i
theorem Dg.set {l:List Nat} {x:Nat} (w:Dg l) (i:Nat) (hx:x<256):Dg (l.set i x):=by
 intro y hy
 rcases List.mem_or_eq_of_mem_set hy with h|h
 ·exact w y h
 ·rw[h];exact hx
theorem ZvA {l:List Nat} (w:Dg l):Y1 l<256 ^ l.length:=by
 induction l with
 | nil=>simp[Y1]
 | cons x l ih=>
  have h1:=ih fun y hy=>w y (List.mem_cons_of_mem _ hy)
  have h2:=w x List.mem_cons_self
  simp only[Y1,List.length_cons,Nat.pow_succ]
  omega
theorem Zm6 {l:List Nat} (w:Dg l) (i:Nat):l.getD i 0=Y1 l/256 ^ i%256:=by
 induction l generalizing i with
 | nil=>simp[Y1]
 | cons x l ih=>
  have hx:=w x List.mem_cons_self
  cases i with
  | zero=>simp only[List.getD_cons_zero,Y1,Nat.pow_zero,Nat.div_one];omega
  | succ i=>
   rw[List.getD_cons_succ,ih (fun y hy=>w y (List.mem_cons_of_mem _ hy)) i,Y1,Nat.pow_succ,Nat.mul_comm (256 ^ i) 256,←Nat.div_div_eq_div_mul]
   congr 2
   omega
theorem getD_none {l:List Nat} {i:Nat} (hi:¬i<l.length):l.getD i 0=0:=by
 rw[List.getD_eq_getElem?_getD,List.getElem?_eq_none (by omega)];rfl
def uv (x:Nat):Value:=.int .u64 (x:Nat)
def Zjh (n top:Nat):List Nat:=[n%67108864,n/67108864%67108864,n/4503599627370496%67108864,n/302231454903657293676544%67108864,n/20282409603651670423947251286016+top*16777216]
theorem ZfK (x n:Nat) (hn:n≤64):YC .u64 (x:Int) (n:Int)=((x*2 ^ n%18446744073709551616:Nat):Int):=by
 rw[ZiU .u64 x n (by show n≤64;omega),Zdx];rfl
theorem Zco (x n:Nat) (hn:n≤64):Xe .u64 (x:Int) (n:Int)=((x/2 ^ n:Nat):Int):=by
 rw[Zch .u64 x n (by show n≤64;omega),Nat.shiftRight_eq_div_pow]
theorem ZbZ (x:Nat) (hx:x<18446744073709551616):Z7 .and .u64 (x:Int) 67108863=((x%67108864:Nat):Int):=by
 have h:=Zvb x 67108863 hx (by decide)
 have e:x &&& 67108863=x%67108864:=Nat.and_two_pow_sub_one_eq_mod x 26
 rw[e]at h
 exact h
theorem Zos (L b:Nat) (hL:L<72057594037927936) (hb:b<256):Z7 .or .u64 ((L*256:Nat):Int) (b:Int)=((L*256+b:Nat):Int):=by
 rw[Zmx _ _ (by omega) (by omega),JQ (k:=8) (by omega) (by omega)]
theorem ZAH (L:Nat) (hL:L<72057594037927936):YC .u64 (L:Int) 8=((L*256:Nat):Int):=by
 have h:=ZfK L 8 (by decide)
 rw[show L*2 ^ 8%18446744073709551616=L*256 by omega]at h
 exact h
theorem ZkG {l:List Nat} {m:Nat} (hm:m<l.length):Y1 (l.drop m)=l.getD m 0+256*Y1 (l.drop (m+1)):=by
 rw[List.drop_eq_getElem_cons hm]
 have e:l.getD m 0=l[m]:=by rw[List.getD_eq_getElem?_getD,List.getElem?_eq_getElem hm];rfl
 rw[e];rfl
theorem Dg.drop {l:List Nat} (w:Dg l) (i:Nat):Dg (l.drop i):=fun x hx=>w x (List.mem_of_mem_drop hx)
theorem US {l:List Nat} (w:Dg l) {n:Nat} (hn:l.length≤n):Y1 l<256 ^ n:=Nat.lt_of_lt_of_le (ZvA w) (Nat.pow_le_pow_right (by omega) hn)
set_option maxHeartbeats 1000000 in
theorem Zev (T:World) (h:Hp) (v:Value) (l:List Nat) (top:Nat) (s:Bs h v l) (hl:l.length=16) (ht:top≤1) :
  Zd Tryz.prog T 144 #[v,.int .u64 top] h fun v' h'=>v'=.agg ((Zjh (Y1 l) top).map uv).toArray∧Zf h.size h h':=by
 have wb:=s.byte
 obtain⟨p,c,rfl,hc⟩:=s.Up
 obtain⟨bb,oo,rfl,hbb,hc⟩:=hc (by intro e;subst e;simp at hl)
 obtain⟨lo,hi,rfl,hlo,hhi⟩:∃lo hi:List Nat,l=lo++hi∧lo.length=8∧hi.length=8:=⟨l.take 8,l.drop 8,(List.take_append_drop 8 l).symm,by rw[List.length_take];omega,by rw[List.length_drop];omega⟩
 have wlo:Dg lo:=fun x hx=>wb x (List.mem_append_left _ hx)
 have whi:Dg hi:=fun x hx=>wb x (List.mem_append_right _ hx)
 refine Zd.Zi (args:=[_,_]) Tryz.func144 rfl rfl rfl rfl ?_
 simp -implicitDefEqProofs only[go_sem,↓reduceIte]
 obtain⟨Z,hZ⟩:∃Z:Obj,Z=.cells #[.int .u64 0,.int .u64 0,.int .u64 0,.int .u64 0,.int .u64 0] 236:=⟨_,rfl⟩
 refine VS.ZW (fun F g=>g=h.push (.cells #[.int .u64 0,.int .u64 0,.int .u64 0,.int .u64 0,.int .u64 0] 236)∧F 0=.slice (some ⟨bb,oo,none⟩) (lo++hi).length c∧F 1=.int .u64 top∧F 4=.pointer (some ⟨h.size,0,none⟩)∧∃j:Nat,j≤8∧F 7=.int .i64 ((j:Int)-1)∧F 5=.int .u64 (Y1 (lo.drop j):Nat)∧F 6=.int .u64 (Y1 (hi.drop j):Nat))
  (fun F _=>(vi (F 7)+1).toNat) rfl ⟨rfl,rfl,rfl,rfl,8,by omega,rfl,by rw[List.drop_of_length_le (by omega)];rfl,by rw[List.drop_of_length_le (by omega)];rfl⟩ ?_
 rintro F g ⟨rfl,f0,f1,f4,j,hj,f7,f5,f6⟩
 by_cases ZD:0<j
 ·obtain⟨m,rfl⟩:∃m,j=m+1:=⟨j-1,by omega⟩
  have e1:((m+1:Nat):Int)-1=(m:Nat):=by omega
  rw[e1]at f7
  have g1:=hc m (by omega)
  have g2:=hc (8+m) (by omega)
  have d1:(lo++hi).getD m 0=lo.getD m 0:=by rw[List.getD_eq_getElem?_getD,List.getElem?_append_left (by omega),List.getD_eq_getElem?_getD]
  have d2:(lo++hi).getD (8+m) 0=hi.getD m 0:=by rw[List.getD_eq_getElem?_getD,List.getElem?_append_right (by omega),hlo,Nat.add_sub_cancel_left,List.getD_eq_getElem?_getD]
  rw[d1]at g1
  rw[d2]at g2
  have x1:=wlo.getD m
  have x2:=whi.getD m
  have n1:Y1 (lo.drop m)=Y1 (lo.drop (m+1))*256+lo.getD m 0:=by rw[ZkG (l:=lo) (by omega)];omega
  have n2:Y1 (hi.drop m)=Y1 (hi.drop (m+1))*256+hi.getD m 0:=by rw[ZkG (l:=hi) (by omega)];omega
  have b1:=US (wlo.drop (m+1)) (n:=7) (by rw[List.length_drop];omega)
  have b2:=US (whi.drop (m+1)) (n:=7) (by rw[List.length_drop];omega)
  rw[show 256 ^ 7=72057594037927936 from rfl]at b1 b2
  have s1:=ZAH _ b1
  have s2:=ZAH _ b2
  have o1:=Zos _ _ b1 x1
  have o2:=Zos _ _ b2 x2
  have em:(8:Int)+(m:Int)=((8+m:Nat):Int):=by omega
  have k1:(m:Int)<(lo++hi).length:=by omega
  have k2:((8+m:Nat):Int)<(lo++hi).length:=by omega
  have k0:(0:Int)≤m:=by omega
  have ZFR:bb<h.size:=hbb
  have m1:((lo.getD m 0:Nat):Int)%18446744073709551616=(lo.getD m 0:Nat):=by omega
  have m2:((hi.getD m 0:Nat):Int)%18446744073709551616=(hi.getD m 0:Nat):=by omega
  simp -implicitDefEqProofs only[go_sem,↓reduceIte,f0,f1,f4,f5,f6,f7,m1,m2,k0,k1,k2,em,Int.toNat_natCast,ZFR,g1,g2,s1,s2,o1,o2]
  refine⟨⟨rfl,f0,f1,f4,m,by omega,rfl,?_,?_⟩,?_⟩
  ·rw[n1];rfl
  ·rw[n2];rfl
  ·simp only[vi,Zk,↓reduceIte,f7];omega
 ·obtain rfl:j=0:=by omega
  rw[List.drop_zero]at f5 f6
  have k0:¬(0:Int)≤((0:Nat):Int)-1:=by omega
  have b1:=US wlo (n:=8) (by omega)
  have b2:=US whi (n:=8) (by omega)
  rw[show 256 ^ 8=18446744073709551616 from rfl]at b1 b2
  have Zfr:Y1 (lo++hi)=Y1 lo+18446744073709551616*Y1 hi:=by
   have:∀a b:List Nat,Y1 (a++b)=Y1 a+256 ^ a.length*Y1 b:=by
    intro a b
    induction a with
    | nil=>simp[Y1]
    | cons x a ih=>simp only[List.cons_append,Y1,ih,List.length_cons,Nat.pow_succ,Nat.mul_add,Nat.add_assoc];congr 2;rw[←Nat.mul_assoc,Nat.mul_comm 256]
   rw[this,hlo]
  rw[Zfr]
  generalize Y1 lo=L at *
  generalize Y1 hi=M at *
  have q1:=ZbZ L b1
  have q2:Xe .u64 (L:Int) 26=((L/2 ^ 26:Nat):Int):=Zco L 26 (by decide)
  have q3:=ZbZ (L/2 ^ 26) (by omega)
  have q4:Xe .u64 (L:Int) 52=((L/2 ^ 52:Nat):Int):=Zco L 52 (by decide)
  have q5:YC .u64 (M:Int) 12=((M*2 ^ 12%18446744073709551616:Nat):Int):=ZfK M 12 (by decide)
  have q6:=Zmx (L/2 ^ 52) (M*2 ^ 12%18446744073709551616) (by omega) (by omega)
  rw[Nat.or_comm,JQ (k:=12) (by omega) (by omega)]at q6
  have q7:=ZbZ (M*2 ^ 12%18446744073709551616+L/2 ^ 52) (by omega)
  have q8:Xe .u64 (M:Int) 14=((M/2 ^ 14:Nat):Int):=Zco M 14 (by decide)
  have q9:=ZbZ (M/2 ^ 14) (by omega)
  have q10:Xe .u64 (M:Int) 40=((M/2 ^ 40:Nat):Int):=Zco M 40 (by decide)
  have q11:YC .u64 (top:Int) 24=((top*2 ^ 24%18446744073709551616:Nat):Int):=ZfK top 24 (by decide)
  have q12:=Zmx (M/2 ^ 40) (top*2 ^ 24%18446744073709551616) (by omega) (by omega)
  rw[Nat.or_comm,JQ (k:=24) (by omega) (by omega)]at q12
  simp -implicitDefEqProofs only[go_sem,↓reduceIte,f0,f1,f4,f5,f6,f7,k0,q1,q2,q3,q4,q5,q6,q7,q8,q9,q10,q11,q12]
  have w1:L%67108864=(L+18446744073709551616*M)%67108864:=by omega
  have w2:L/2 ^ 26%67108864=(L+18446744073709551616*M)/67108864%67108864:=by omega
  have w3:(M*2 ^ 12%18446744073709551616+L/2 ^ 52)%67108864=(L+18446744073709551616*M)/4503599627370496%67108864:=by omega
  have w4:M/2 ^ 14%67108864=(L+18446744073709551616*M)/302231454903657293676544%67108864:=by omega
  have w5:top*2 ^ 24%18446744073709551616+M/2 ^ 40=(L+18446744073709551616*M)/20282409603651670423947251286016+top*16777216:=by omega
  rw[w1,w2,w3,w4,w5]
  rfl
def Zc3 (l:List Nat) (i:Nat):List Nat:=
 if i<4 then (l.set i (l.getD i 0%67108864)).set (i+1) ((l.set i (l.getD i 0%67108864)).getD (i+1) 0+l.getD i 0/67108864)
 else (l.set i (l.getD i 0%67108864)).set 0 ((l.set i (l.getD i 0%67108864)).getD 0 0+5*(l.getD i 0/67108864))
def Je (l:List Nat):Nat→List Nat
 | 0=>l
 | i+1=>Zc3 (Je l i) i
def Yg (K:Nat) (l:List Nat):Prop:=∀x∈l,x<K
theorem Yg.getD {K:Nat} {l:List Nat} (w:Yg K l) (hK:0<K) (i:Nat):l.getD i 0<K:=by
 by_cases hi:i<l.length
 ·have e:l.getD i 0=l[i]:=by rw[List.getD_eq_getElem?_getD,List.getElem?_eq_getElem hi];rfl
  rw[e];exact w _ (List.getElem_mem hi)
 ·rw[getD_none hi];exact hK
theorem Yg.set {K:Nat} {l:List Nat} (w:Yg K l) (i x:Nat) (hx:x<K):Yg K (l.set i x):=by
 intro y hy
 rcases List.mem_or_eq_of_mem_set hy with h|h
 ·exact w y h
 ·rw[h];exact hx
theorem Yg.mono {K K':Nat} {l:List Nat} (w:Yg K l) (h:K≤K'):Yg K' l:=fun x hx=>Nat.lt_of_lt_of_le (w x hx) h
theorem ZhJ (l:List Nat) (i:Nat):(Zc3 l i).length=l.length:=by
 unfold Zc3;split<;>simp
theorem ZcL (l:List Nat):∀i,(Je l i).length=l.length
 | 0=>rfl
 | i+1=>by rw[Je,ZhJ,ZcL l i]
theorem Zp1 {K:Nat} {l:List Nat} {i:Nat} (w:Yg K l) (h0:67108864≤K) (hK:K≤2 ^ 62):Yg (K+2 ^ 39) (Zc3 l i):=by
 have hx:=w.getD (by omega) i
 have w1:Yg K (l.set i (l.getD i 0%67108864)):=w.set i _ (by omega)
 have hy:=w1.getD (by omega) (i+1)
 have hz:=w1.getD (by omega) 0
 unfold Zc3
 split
 ·exact (w1.mono (by omega)).set _ _ (by omega)
 ·exact (w1.mono (by omega)).set _ _ (by omega)
theorem Zih {K:Nat} {l:List Nat} (w:Yg K l) (h0:67108864≤K) (hK:K≤2 ^ 61):∀i,i≤5→Yg (K+i*2 ^ 39) (Je l i)
 | 0,_=>by rw[Nat.zero_mul,Nat.add_zero];exact w
 | i+1,hi=>by
  have:=Zp1 (i:=i) (Zih w h0 hK i (by omega)) (by omega) (by omega)
  rw[Je]
  exact this.mono (by omega)
theorem ZdQ {l:List Nat} {i j x:Nat} (h:i≠j):(l.set i x).getD j 0=l.getD j 0:=by
 rw[List.getD_eq_getElem?_getD,List.getD_eq_getElem?_getD,List.getElem?_set_ne h]
def Yc (l:List Nat):Obj:=.cells (l.map uv++[]).toArray 236
theorem Zot (x:Nat):Xe .u64 (x:Int) 26=((x/67108864:Nat):Int):=Zco x 26 (by decide)
set_option maxHeartbeats 1000000 in
theorem Zm7 (T:World) (h:Hp) (bk:Nat) (l:List Nat) (hl:l.length=5) (w:Yg (2 ^ 61) l) (hb:h[bk]? = some (Yc l)) :
  Zd Tryz.prog T 148 #[.pointer (some ⟨bk,0,none⟩)] h fun v' h'=>∃a,a=Je l 5∧h'=h.setIfInBounds bk (Yc ((a.set 1 (a.getD 1 0+a.getD 0 0/67108864)).set 0 (a.getD 0 0%67108864))):=by
 refine Zd.Zi (args:=[_]) Tryz.func148 rfl rfl rfl rfl ?_
 simp -implicitDefEqProofs only[go_sem,↓reduceIte]
 refine VS.ZW (fun F g=>F 0=.pointer (some ⟨bk,0,none⟩)∧∃i:Nat,i≤5∧F 4=.int .i64 i∧g=h.setIfInBounds bk (Yc (Je l i)))
  (fun F _=>5-(vi (F 4)).toNat) rfl ⟨rfl,0,by omega,rfl,(Uc hb).symm⟩ ?_
 rintro F g ⟨f0,i,hi,f4,rfl⟩
 have hx:=ZP (o:=Yc (Je l i)) hb
 have hw:=Zih w (by decide) (by decide) i hi
 have hw2:=hw.getD (by omega) i
 have hln:(Je l i).length=5:=by rw[ZcL,hl]
 by_cases ZD:i<5
 ·have ZL:(i:Int)<5:=by omega
  have YN:Je l (i+1)=Zc3 (Je l i) i:=rfl
  obtain⟨a,ha⟩:=Zx (Je l i)
  rw[←ha]at hx hw hw2 hln YN ⊢
  obtain⟨G,hG⟩:=Zx (h.setIfInBounds bk (Yc a))
  rw[←hG]at hx ⊢
  have g1:=ZK hx (i:=i) (by omega)
  unfold uv at g1
  obtain⟨x,hxx⟩:=Zx (a.getD i 0)
  rw[←hxx]at g1 hw2
  have e1:=Zot x
  have e2:=ZbZ x (by omega)
  simp -implicitDefEqProofs only[go_sem,↓reduceIte,f0,f4,ZL,Int.toNat_natCast,Nat.zero_add,g1,e1]
  refine VS.w (bk+1) [8] (.q 0 (.q 1 (.q 2 (.q 3 (.q 4 (.q 5 (.q 6 (.q 7 (.w 8 .nil))))))))) mixed (by kernel_rfl) ?_
  have c1:Jp _ ⟨bk,i,none⟩ (.int .u64 (x%67108864:Nat))=_:=ZY (f:=uv) hx (i:=i) (by omega) (x%67108864) rfl
  have Qu:=ZP (o:=.cells ((a.set i (x%67108864)).map uv++[]).toArray 236) hx
  have hw1:=hw.set i (x%67108864) (by omega)
  have hc1:Zc3 a i=if i<4 then (a.set i (x%67108864)).set (i+1) ((a.set i (x%67108864)).getD (i+1) 0+x/67108864) else (a.set i (x%67108864)).set 0 ((a.set i (x%67108864)).getD 0 0+5*(x/67108864)):=by rw[hxx];rfl
  have hl1:(a.set i (x%67108864)).length=5:=by rw[List.length_set,hln]
  obtain⟨a1,ha1⟩:=Zx (a.set i (x%67108864))
  rw[←ha1]at Qu hw1 hc1 hl1 c1
  obtain⟨G1,hG1⟩:=Zx (G.setIfInBounds bk (.cells (a1.map uv++[]).toArray 236))
  rw[←hG1]at Qu c1
  by_cases h4:i<4
  ·have h4':(i:Int)<4:=by omega
   rw[if_pos h4]at hc1
   simp -implicitDefEqProofs only[go_sem,↓reduceIte,f0,f4,ZL,Int.toNat_natCast,Nat.zero_add,g1,e1,e2,c1,h4']
   refine VS.w (bk+1) [10] (.q 0 (.q 1 (.q 2 (.q 3 (.q 4 (.q 5 (.q 6 (.q 7 (.q 8 (.q 9 (.w 10 .nil))))))))))) mixed (by kernel_rfl) ?_
   have g2:=ZK Qu (i:=i+1) (by omega)
   unfold uv at g2
   have hy:=hw1.getD (by omega) (i+1)
   obtain⟨y,hyy⟩:=Zx (a1.getD (i+1) 0)
   rw[←hyy]at g2 hy hc1
   have e3:(y:Int)+((x/67108864:Nat):Int)=((y+x/67108864:Nat):Int):=by omega
   have e4:((y+x/67108864:Nat):Int)%18446744073709551616=((y+x/67108864:Nat):Int):=by omega
   have ei:(i:Int)+1=((i+1:Nat):Int):=rfl
   have hi1:((i+1:Nat):Int)<5:=by omega
   have c2:Jp G1 ⟨bk,i+1,none⟩ (.int .u64 (y+x/67108864:Nat))=_:=ZY (f:=uv) Qu (i:=i+1) (by omega) (y+x/67108864) rfl
   simp -implicitDefEqProofs only[go_sem,↓reduceIte,f0,f4,ZL,ei,hi1,Int.toNat_natCast,Nat.zero_add,g2,e3,e4,c2]
   refine⟨⟨f0,i+1,ZD,rfl,?_⟩,?_⟩
   ·rw[hG1,set_set,hG,set_set,YN,hc1];rfl
   ·simp only[vi,Zk,↓reduceIte,f4];omega
  ·have h4':¬(i:Int)<4:=by omega
   rw[if_neg h4]at hc1
   simp -implicitDefEqProofs only[go_sem,↓reduceIte,f0,f4,ZL,Int.toNat_natCast,Nat.zero_add,g1,e1,e2,c1,h4']
   refine VS.w (bk+1) [9] (.q 0 (.q 1 (.q 2 (.q 3 (.q 4 (.q 5 (.q 6 (.q 7 (.q 8 (.w 9 .nil)))))))))) mixed (by kernel_rfl) ?_
   have g2:=ZK Qu (i:=0) (by omega)
   unfold uv at g2
   have hy:=hw1.getD (by omega) 0
   obtain⟨y,hyy⟩:=Zx (a1.getD 0 0)
   rw[←hyy]at g2 hy hc1
   have e5:(5:Int)*((x/67108864:Nat):Int)=((5*(x/67108864):Nat):Int):=by omega
   have e6:((5*(x/67108864):Nat):Int)%18446744073709551616=((5*(x/67108864):Nat):Int):=by omega
   have e3:(y:Int)+((5*(x/67108864):Nat):Int)=((y+5*(x/67108864):Nat):Int):=by omega
   have e4:((y+5*(x/67108864):Nat):Int)%18446744073709551616=((y+5*(x/67108864):Nat):Int):=by omega
   have c2:Jp G1 ⟨bk,0,none⟩ (.int .u64 (y+5*(x/67108864):Nat))=_:=ZY (f:=uv) Qu (i:=0) (by omega) (y+5*(x/67108864)) rfl
   simp -implicitDefEqProofs only[go_sem,↓reduceIte,f0,f4,ZL,Int.toNat_natCast,Nat.zero_add,g2,e3,e4,e5,e6,c2]
   refine⟨⟨f0,i+1,ZD,rfl,?_⟩,?_⟩
   ·rw[hG1,set_set,hG,set_set,YN,hc1];rfl
   ·simp only[vi,Zk,↓reduceIte,f4];omega
 ·have YK:¬(i:Int)<5:=by omega
  obtain rfl:i=5:=by omega
  obtain⟨a,ha⟩:=Zx (Je l 5)
  rw[←ha]at hx hw hw2 hln ⊢
  obtain⟨G,hG⟩:=Zx (h.setIfInBounds bk (Yc a))
  rw[←hG]at hx ⊢
  have g0:=ZK hx (i:=0) (by omega)
  have g1:=ZK hx (i:=1) (by omega)
  have y0:=hw.getD (by omega) 0
  have y1:=hw.getD (by omega) 1
  unfold uv at g0 g1
  obtain⟨x,hxx⟩:=Zx (a.getD 0 0)
  obtain⟨y,hyy⟩:=Zx (a.getD 1 0)
  rw[←hxx]at g0 y0
  rw[←hyy]at g1 y1
  have e1:=Zot x
  have e2:=ZbZ x (by omega)
  have e3:(y:Int)+((x/67108864:Nat):Int)=((y+x/67108864:Nat):Int):=by omega
  have e4:((y+x/67108864:Nat):Int)%18446744073709551616=((y+x/67108864:Nat):Int):=by omega
  have c5:((5:Nat):Int)=5:=rfl
  rw[c5]at f4 YK
  simp -implicitDefEqProofs only[go_sem,↓reduceIte,f0,f4,YK]
  refine VS.w (bk+1) [12] (.q 0 (.q 1 (.q 2 (.q 3 (.q 4 (.q 5 (.q 6 (.q 7 (.q 8 (.q 9 (.q 10 (.q 11 (.w 12 .nil))))))))))))) mixed (by kernel_rfl) ?_
  have c1:Jp G ⟨bk,1,none⟩ (.int .u64 (y+x/67108864:Nat))=_:=ZY (f:=uv) hx (i:=1) (by omega) (y+x/67108864) rfl
  have Qu:=ZP (o:=.cells ((a.set 1 (y+x/67108864)).map uv++[]).toArray 236) hx
  have hl1:(a.set 1 (y+x/67108864)).length=5:=by rw[List.length_set,hln]
  obtain⟨a1,ha1⟩:=Zx (a.set 1 (y+x/67108864))
  rw[←ha1]at Qu hl1 c1
  obtain⟨G1,hG1⟩:=Zx (G.setIfInBounds bk (.cells (a1.map uv++[]).toArray 236))
  rw[←hG1]at Qu c1
  have g2:=ZK Qu (i:=0) (by omega)
  unfold uv at g2
  have g2e:a1.getD 0 0=x:=by rw[ha1,ZdQ (by decide),←hxx]
  rw[g2e]at g2
  simp -implicitDefEqProofs only[go_sem,↓reduceIte,f0,Nat.zero_add,g0,g1,e1,e3,e4,c1]
  refine VS.w (bk+1) [7] (.q 0 (.q 1 (.q 2 (.q 3 (.q 4 (.q 5 (.q 6 (.w 7 .nil)))))))) mixed (by kernel_rfl) ?_
  have c2:Jp G1 ⟨bk,0,none⟩ (.int .u64 (x%67108864:Nat))=_:=ZY (f:=uv) Qu (i:=0) (by omega) (x%67108864) rfl
  simp -implicitDefEqProofs only[go_sem,↓reduceIte,f0,Nat.zero_add,g2,e2,c2]
  rw[hG1,set_set,hG,set_set,ha1]
  exact⟨a,rfl,by rw[←hxx,←hyy];rfl⟩
theorem getD_set_ne {l:List Nat} {i j x:Nat} (h:i≠j):(l.set i x).getD j 0=l.getD j 0:=by
 rw[List.getD_eq_getElem?_getD,List.getD_eq_getElem?_getD,List.getElem?_set_ne h]
def H16:Nat:=256 ^ 16
def Za0:Nat:=4*256 ^ 16-5
def Ym:List Nat→Nat
 | []=>0
 | x :: l=>x+67108864*Ym l
theorem ZdR:Za0=1361129467683753853853498429727072845819:=rfl
theorem Zm8 {a b c d e:Nat}:∃q r0 r1 r2 r3 r4:Nat,Je [a,b,c,d,e] 5=[r0,r1,r2,r3,r4]∧Ym [a,b,c,d,e]=Ym [r0,r1,r2,r3,r4]+Za0*q∧r1<67108864∧r2<67108864∧r3<67108864∧r4<67108864∧r0≤67108863+5*q∧q≤(e+(d+(c+(b+a/67108864)/67108864)/67108864)/67108864)/67108864:=by
 refine⟨(e+(d+(c+(b+a/67108864)/67108864)/67108864)/67108864)/67108864,a%67108864+5*((e+(d+(c+(b+a/67108864)/67108864)/67108864)/67108864)/67108864),(b+a/67108864)%67108864,(c+(b+a/67108864)/67108864)%67108864,(d+(c+(b+a/67108864)/67108864)/67108864)%67108864,(e+(d+(c+(b+a/67108864)/67108864)/67108864)/67108864)%67108864,?_,?_,Nat.mod_lt _ (by decide),Nat.mod_lt _ (by decide),Nat.mod_lt _ (by decide),Nat.mod_lt _ (by decide),by omega,Nat.le_refl _⟩
 ·rfl
 ·simp only[Ym,ZdR]
  omega
theorem Zfu {l:List Nat} (h:l.length=5):∃a b c d e,l=[a,b,c,d,e]:=by
 match l,h with
 | [a,b,c,d,e],_=>exact⟨a,b,c,d,e,rfl⟩
def Y7 (l:List Nat):List Nat:=((Je l 5).set 1 ((Je l 5).getD 1 0+(Je l 5).getD 0 0/67108864)).set 0 ((Je l 5).getD 0 0%67108864)
theorem Yg.Zfu {K a b c d e:Nat} (ha:a<K) (hb:b<K) (hc:c<K) (hd:d<K) (he:e<K):Yg K [a,b,c,d,e]:=by
 intro x hx
 simp only[List.mem_cons,List.not_mem_nil,or_false]at hx
 rcases hx with rfl|rfl|rfl|rfl|rfl<;>assumption
theorem Yg.ZvB {K a b c d e:Nat} (w:Yg K [a,b,c,d,e]):a<K∧b<K∧c<K∧d<K∧e<K:=
 ⟨w a (by simp),w b (by simp),w c (by simp),w d (by simp),w e (by simp)⟩
theorem Zcp {l:List Nat} (hl:l.length=5) (w:Yg (2 ^ 61) l):(Y7 l).length=5∧Yg 134217728 (Y7 l)∧Ym (Y7 l)%Za0=Ym l%Za0∧Ym (Y7 l)<4*H16+2 ^ 44:=by
 obtain⟨a,b,c,d,e,rfl⟩:=Zfu hl
 obtain⟨wa,wb,wc,wd,we⟩:=w.ZvB
 obtain⟨q,r0,r1,r2,r3,r4,hc,hv,h1,h2,h3,h4,h0,hq⟩:=@Zm8 a b c d e
 have hL:Y7 [a,b,c,d,e]=[r0%67108864,r1+r0/67108864,r2,r3,r4]:=by unfold Y7;rw[hc];rfl
 have hq':q<2 ^ 36:=by omega
 have hr:r0/67108864<8192:=by omega
 have Zfr:Ym [r0%67108864,r1+r0/67108864,r2,r3,r4]=Ym [r0,r1,r2,r3,r4]:=by simp only[Ym];omega
 rw[hL]
 refine⟨rfl,Yg.Zfu (by omega) (by omega) (by omega) (by omega) (by omega),?_,?_⟩
 ·rw[Zfr,hv,Nat.add_mul_mod_self_left]
 ·rw[Zfr]
  have e16:H16=340282366920938463463374607431768211456:=rfl
  rw[e16]
  have h0':r0<549755813888:=by omega
  clear hv hc hq hq' hL Zfr h0
  simp only[Ym]
  omega
def ZbF (a b:Nat) (out:List Nat) (i k:Nat):List Nat:=if i+k<5 then out.set (i+k) (out.getD (i+k) 0+a*b) else out.set (i+k-5) (out.getD (i+k-5) 0+5*a*b)
def Zb0 (a:Nat) (bs out:List Nat) (i:Nat):Nat→List Nat
 | 0=>out
 | k+1=>ZbF a (bs.getD k 0) (Zb0 a bs out i k) i k
def Uy (xs bs:List Nat):Nat→List Nat
 | 0=>[0,0,0,0,0]
 | i+1=>Zb0 (xs.getD i 0) bs (Uy xs bs i) i 5
theorem Zji (a b:Nat) (out:List Nat) (i k:Nat):(ZbF a b out i k).length=out.length:=by unfold ZbF;split<;>simp
theorem Zao (a:Nat) (bs out:List Nat) (i:Nat):∀k,(Zb0 a bs out i k).length=out.length
 | 0=>rfl
 | k+1=>by rw[Zb0,Zji,Zao a bs out i k]
theorem Zap (xs bs:List Nat):∀i,(Uy xs bs i).length=5
 | 0=>rfl
 | i+1=>by rw[Uy,Zao,Zap xs bs i]
theorem Zew {a b:Nat} (ha:a<268435456) (hb:b<67108864):a*b<18014398509481984:=
 Nat.lt_of_le_of_lt (Nat.mul_le_mul (Nat.le_of_lt_succ (show a<268435455+1 from ha)) (Nat.le_of_lt_succ (show b<67108863+1 from hb))) (by decide)
theorem ZgE {a b:Nat} (ha:a<268435456) (hb:b<67108864):5*a*b<90071992547409920:=by
 have:=Zew ha hb
 rw[Nat.mul_assoc];omega
theorem ZsS {K a b:Nat} {out:List Nat} {i k:Nat} (w:Yg K out) (hK:0<K) (ha:a<268435456) (hb:b<67108864):Yg (K+90071992547409920) (ZbF a b out i k):=by
 have h1:=Zew ha hb
 have h2:=ZgE ha hb
 have q1:=w.getD hK (i+k)
 have q2:=w.getD hK (i+k-5)
 unfold ZbF
 split
 ·exact (w.mono (by omega)).set _ _ (by omega)
 ·exact (w.mono (by omega)).set _ _ (by omega)
theorem Zjj {K a:Nat} {bs out:List Nat} {i:Nat} (w:Yg K out) (hK:0<K) (ha:a<268435456) (hb:Yg 67108864 bs):∀k,Yg (K+k*90071992547409920) (Zb0 a bs out i k)
 | 0=>by rw[Nat.zero_mul];exact w
 | k+1=>by
  rw[Zb0,Nat.add_mul,Nat.one_mul,←Nat.add_assoc]
  exact ZsS (Zjj w hK ha hb k) (by omega) ha (hb.getD (by omega) k)
theorem Zjk {xs bs:List Nat} (ha:Yg 268435456 xs) (hb:Yg 67108864 bs):∀i,Yg (1+i*450359962737049600) (Uy xs bs i)
 | 0=>Yg.Zfu (by omega) (by omega) (by omega) (by omega) (by omega)
 | i+1=>by
  rw[Uy]
  exact (Zjj (Zjk ha hb i) (by omega) (ha.getD (by omega) i) hb 5).mono (by omega)
theorem Zex:∀{l:List Nat} {i x:Nat},i<l.length→Ym (l.set i (l.getD i 0+x))=Ym l+x*67108864 ^ i
 | y :: l,0,x,_=>by simp only[List.set_cons_zero,List.getD_cons_zero,Ym,Nat.pow_zero,Nat.mul_one];omega
 | y :: l,i+1,x,h=>by
  simp only[List.set_cons_succ,List.getD_cons_succ,Ym]
  rw[Zex (l:=l) (i:=i) (x:=x) (by simpa using h),Nat.pow_succ,←Nat.mul_assoc]
  omega
theorem X5:67108864 ^ 5=Za0+5:=rfl
theorem ZAI (v a b y P:Nat):(v+5*a*b*y)%P=(v+a*b*(y*(P+5)))%P:=by
 have e:a*b*(y*(P+5))=5*a*b*y+P*(a*b*y):=by
  rw[Nat.mul_add,Nat.mul_add,Nat.add_comm]
  congr 1
  ·rw[Nat.mul_comm y 5,←Nat.mul_assoc,Nat.mul_comm (a*b) 5,←Nat.mul_assoc 5 a b]
  ·rw[Nat.mul_comm y P,←Nat.mul_assoc,Nat.mul_comm (a*b) P,Nat.mul_assoc]
 rw[e,←Nat.add_assoc,Nat.add_mul_mod_self_left]
theorem Zp2 {a b:Nat} {out:List Nat} {i k:Nat} (hl:out.length=5) (hi:i<5) (hk:k<5):Ym (ZbF a b out i k)%Za0=(Ym out+a*b*67108864 ^ (i+k))%Za0:=by
 unfold ZbF
 split
 ·rename_i h
  rw[Zex (by omega)]
 ·rename_i h
  rw[Zex (by omega)]
  obtain⟨j,hj⟩:∃j,i+k=j+5:=⟨i+k-5,by omega⟩
  rw[hj,Nat.add_sub_cancel,Nat.pow_add,X5]
  exact ZAI _ _ _ _ _
def pvn (bs:List Nat):Nat→Nat
 | 0=>0
 | k+1=>pvn bs k+bs.getD k 0*67108864 ^ k
theorem ZkH {bs:List Nat} (h:bs.length=5):pvn bs 5=Ym bs:=by
 obtain⟨a,b,c,d,e,rfl⟩:=Zfu h
 simp only[pvn,Ym,List.getD_cons_zero,List.getD_cons_succ]
 omega
theorem ZkI {a:Nat} {bs out:List Nat} {i:Nat} (hl:out.length=5) (hi:i<5):∀k,k≤5→Ym (Zb0 a bs out i k)%Za0=(Ym out+a*67108864 ^ i*pvn bs k)%Za0
 | 0,_=>by rw[Zb0,pvn,Nat.mul_zero,Nat.add_zero]
 | k+1,hk=>by
  rw[Zb0,Zp2 (by rw[Zao,hl]) hi (by omega),Nat.add_mod,ZkI hl hi k (by omega),←Nat.add_mod,pvn,Nat.mul_add,←Nat.add_assoc,Nat.pow_add]
  congr 2
  rw[Nat.mul_assoc,Nat.mul_assoc a]
  congr 1
  rw[←Nat.mul_assoc,Nat.mul_comm (bs.getD k 0),Nat.mul_assoc]
theorem ZkJ {xs bs:List Nat} (hb:bs.length=5):∀i,i≤5→Ym (Uy xs bs i)%Za0=(pvn xs i*Ym bs)%Za0
 | 0,_=>by rw[pvn,Nat.zero_mul];rfl
 | i+1,hi=>by
  rw[Uy,ZkI (Zap xs bs i) (by omega) 5 (by omega),Nat.add_mod,ZkJ hb i (by omega),←Nat.add_mod,ZkH hb,pvn,Nat.add_mul]
theorem Zii {xs bs:List Nat} (ha:xs.length=5) (hb:bs.length=5) (wa:Yg 268435456 xs) (wb:Yg 67108864 bs) :
  Yg (2 ^ 61) (Uy xs bs 5)∧(Uy xs bs 5).length=5∧Ym (Uy xs bs 5)%Za0=Ym xs*Ym bs%Za0:=
 ⟨(Zjk wa wb 5).mono (by decide),Zap xs bs 5,by rw[ZkJ hb 5 (by omega),ZkH ha]⟩
def ywh (m:List Nat):Nat→List Nat
 | 0=>m.set 0 (m.getD 0 0+5)
 | i+1=>((ywh m i).set (i+1) ((ywh m i).getD (i+1) 0+(ywh m i).getD i 0/67108864)).set i ((ywh m i).getD i 0%67108864)
theorem ZgF (m:List Nat):∀i,(ywh m i).length=m.length
 | 0=>by simp[ywh]
 | i+1=>by rw[ywh,List.length_set,List.length_set,ZgF m i]
theorem ZsT {m:List Nat} (w:Yg 134217728 m):∀i,i≤10→Yg (134217728+6+i*8) (ywh m i)
 | 0,_=>(w.mono (by omega)).set _ _ (by have:=w.getD (by omega) 0;omega)
 | i+1,hi=>by
  have h:=ZsT w i (by omega)
  have q1:=h.getD (by omega) (i+1)
  have q2:=h.getD (by omega) i
  rw[ywh]
  exact ((h.mono (by omega)).set _ _ (by omega)).set _ _ (by omega)
def Zb1 (m:List Nat):List Nat:=if (ywh m 4).getD 4 0/67108864=0 then m else (ywh m 4).set 4 ((ywh m 4).getD 4 0%67108864)
theorem ZFS {A B C P:Nat} (h1:A+5=B) (h2:B=C) (h3:C<P+5):A<P:=by omega
theorem ZFT {A B C q:Nat} (h1:A+5=B) (h2:B=C+1361129467683753853853498429727072845824*q) (hv:A<1361129467683753853853498429727072845824+2 ^ 44) (h0:¬q=0):q=1:=by omega
theorem ZFU {A B C P:Nat} (h1:A+5=B) (h2:B=C+(P+5)) (hv:A<P+5+2 ^ 44) (hP:2 ^ 45<P):A=C+P*1∧C<P:=by omega
theorem Zp3 {m:List Nat} (hl:m.length=5) (w:Yg 134217728 m) (hv:Ym m<4*H16+2 ^ 44):(Zb1 m).length=5∧Yg 134217728 (Zb1 m)∧Ym (Zb1 m)=Ym m%Za0:=by
 obtain⟨a,b,c,d,e,rfl⟩:=Zfu hl
 obtain⟨wa,wb,wc,wd,we⟩:=w.ZvB
 obtain⟨t0,ht0⟩:∃t,t=a+5:=⟨_,rfl⟩
 obtain⟨t1,ht1⟩:∃t,t=b+t0/67108864:=⟨_,rfl⟩
 obtain⟨t2,ht2⟩:∃t,t=c+t1/67108864:=⟨_,rfl⟩
 obtain⟨t3,ht3⟩:∃t,t=d+t2/67108864:=⟨_,rfl⟩
 obtain⟨t4,ht4⟩:∃t,t=e+t3/67108864:=⟨_,rfl⟩
 have hY:ywh [a,b,c,d,e] 4=[t0%67108864,t1%67108864,t2%67108864,t3%67108864,t4]:=by rw[ht4,ht3,ht2,ht1,ht0];rfl
 have hW:Zb1 [a,b,c,d,e]=if t4/67108864=0 then [a,b,c,d,e] else [t0%67108864,t1%67108864,t2%67108864,t3%67108864,t4%67108864]:=by unfold Zb1;rw[hY];rfl
 have e16:H16=340282366920938463463374607431768211456:=rfl
 rw[hW]
 have hs:Ym [a,b,c,d,e]+5=Ym [t0%67108864,t1%67108864,t2%67108864,t3%67108864,t4]:=by simp only[Ym];omega
 have hx:Ym [t0%67108864,t1%67108864,t2%67108864,t3%67108864,t4]=Ym [t0%67108864,t1%67108864,t2%67108864,t3%67108864,t4%67108864]+(Za0+5)*(t4/67108864):=by rw[ZdR];simp only[Ym];omega
 have hb4:Ym [t0%67108864,t1%67108864,t2%67108864,t3%67108864,t4%67108864]<Za0+5:=by rw[ZdR];simp only[Ym];omega
 have hH:4*H16=Za0+5:=rfl
 rw[hH]at hv
 split
 ·rename_i h0
  refine⟨rfl,w,?_⟩
  rw[h0,Nat.mul_zero,Nat.add_zero]at hx
  rw[Nat.mod_eq_of_lt (ZFS hs hx hb4)]
 ·rename_i h0
  refine⟨rfl,Yg.Zfu (by omega) (by omega) (by omega) (by omega) (by omega),?_⟩
  have h1:t4/67108864=1:=by
   rw[ZdR]at hx hv
   exact ZFT hs hx hv h0
  rw[h1,Nat.mul_one]at hx
  obtain⟨hk,hC⟩:=ZFU hs hx hv (by rw[ZdR];decide)
  rw[hk,Nat.add_mul_mod_self_left,Nat.mod_eq_of_lt hC]
theorem ZkK (T:World) (h:Hp) (bk:Nat) (l:List Nat) (hl:l.length=5) (w:Yg (2 ^ 61) l) (hb:h[bk]? = some (Yc l)) :
  Zd Tryz.prog T 148 #[.pointer (some ⟨bk,0,none⟩)] h fun v' h'=>h'=h.setIfInBounds bk (Yc (Y7 l)):=
 (Zm7 T h bk l hl w hb).mono fun v' h' ⟨a,ha,hh⟩=>by subst ha;exact hh
theorem Zjl {l:List Nat} {i:Nat} (hi:i<l.length):nth (l.map uv) i=some (.int .u64 (l.getD i 0:Nat)):=by
 rw[Yl,List.getElem?_map,List.getElem?_eq_getElem hi,List.getD_eq_getElem?_getD,List.getElem?_eq_getElem hi];rfl
theorem Zb2 {g:Hp} {b:Nat} {l:List Nat} (hl:l.length=5) (hx:g[b]? = some (Yc l)):rd g ⟨b,0,none⟩ 5=some (l.map uv):=by
 unfold Yc at hx
 rw[List.append_nil]at hx
 exact Zo hx (by simpa using hl)
set_option maxHeartbeats 1000000 in
theorem ZkL (T:World) (h:Hp) (xs bs:List Nat) (ha:xs.length=5) (hb:bs.length=5) (wa:Yg 268435456 xs) (wb:Yg 67108864 bs) :
  Zd Tryz.prog T 145 #[.agg (xs.map uv).toArray,.agg (bs.map uv).toArray] h fun v' h'=>v'=.agg ((Y7 (Uy xs bs 5)).map uv).toArray∧Zf h.size h h':=by
 have la:(xs.map uv).length=5:=by simpa using ha
 have lb:(bs.map uv).length=5:=by simpa using hb
 have ta:(xs.map uv).take 5=xs.map uv:=List.take_of_length_le (by omega)
 refine Zd.Zi (args:=[_,_]) Tryz.func145 rfl rfl rfl rfl ?_
 simp -implicitDefEqProofs only[go_sem,↓reduceIte,la,lb,ta]
 obtain⟨H,hH⟩:=Zx (((((h.push (.cells (xs.map uv).toArray 236)).push (.cells (bs.map uv).toArray 236)).push (.cells #[.int .u64 0,.int .u64 0,.int .u64 0,.int .u64 0,.int .u64 0] 236)).push (.cells #[.int .u64 0,.int .u64 0,.int .u64 0,.int .u64 0,.int .u64 0] 236)):Hp)
 have HB:Zf h.size h H:=by rw[hH];exact (((Zf.push (Nat.le_refl _) _).Ye (by simp) _).Ye (by simp;omega) _).Ye (by simp;omega) _
 have Hs:H.size=h.size+1+1+1+1:=by rw[hH];simp
 have H1:H[h.size+1]? = some (Yc bs):=by
  rw[hH,Zq (by simp),Zq (by simp)]
  have:=Zb (h:=h.push (.cells (xs.map uv).toArray 236)) (o:=.cells (bs.map uv).toArray 236)
  rw[Array.size_push]at this
  rw[this];unfold Yc;rw[List.append_nil]
 have H3:H[h.size+1+1+1]? = some (Yc (Uy xs bs 0)):=by
  have:=Zb (h:=(((h.push (.cells (xs.map uv).toArray 236)).push (.cells (bs.map uv).toArray 236)).push (.cells #[.int .u64 0,.int .u64 0,.int .u64 0,.int .u64 0,.int .u64 0] 236))) (o:=.cells #[.int .u64 0,.int .u64 0,.int .u64 0,.int .u64 0,.int .u64 0] 236)
  rw[Array.size_push,Array.size_push,Array.size_push]at this
  rw[hH,this];rfl
 have H2:H[h.size+1+1]? = some (Yc [0,0,0,0,0]):=by
  have:=Zb (h:=((h.push (.cells (xs.map uv).toArray 236)).push (.cells (bs.map uv).toArray 236))) (o:=.cells #[.int .u64 0,.int .u64 0,.int .u64 0,.int .u64 0,.int .u64 0] 236)
  rw[Array.size_push,Array.size_push]at this
  rw[hH,Zq (by simp),this];rfl
 rw[←hH]
 clear hH
 obtain⟨bo,hbo⟩:=Zx (h.size+1+1+1)
 obtain⟨br,hbr⟩:=Zx (h.size+1+1)
 obtain⟨bb,hbb⟩:=Zx (h.size+1)
 rw[←hbo]at H3 ⊢
 rw[←hbr]at H2 ⊢
 rw[←hbb]at H1 ⊢
 refine VS.ZW (fun F g=>F 3=.pointer (some ⟨bb,0,none⟩)∧F 4=.pointer (some ⟨br,0,none⟩)∧F 5=.pointer (some ⟨bo,0,none⟩)∧F 10=.agg (xs.map uv).toArray∧∃i:Nat,i≤5∧F 11=.int .i64 i∧g=H.setIfInBounds bo (Yc (Uy xs bs i)))
  (fun F _=>5-(vi (F 11)).toNat) rfl ⟨rfl,rfl,rfl,rfl,0,by omega,rfl,(Uc H3).symm⟩ ?_
 rintro F g ⟨f3,f4,f5,f10,i,hi,f11,rfl⟩
 by_cases ZD:i<5
 ·have ZL:(i:Int)<5:=by omega
  have n1:=Zjl (l:=xs) (i:=i) (by omega)
  have H1':(H.setIfInBounds bo (Yc (Uy xs bs i)))[bb]? = some (Yc bs):=by rw[Array.getElem?_setIfInBounds,if_neg (by omega)];exact H1
  have r1:=Zb2 hb H1'
  have wA:=wa.getD (by omega) i
  have Zm9:Uy xs bs (i+1)=Zb0 (xs.getD i 0) bs (Uy xs bs i) i 5:=rfl
  obtain⟨a,hax⟩:=Zx (xs.getD i 0)
  rw[←hax]at n1 wA Zm9
  simp -implicitDefEqProofs only[go_sem,↓reduceIte,f3,f4,f5,f10,f11,ZL,Int.toNat_natCast,n1,r1]
  have wO:Yg (1+i*450359962737049600) (Uy xs bs i):=Zjk wa wb i
  have lO:=Zap xs bs i
  obtain⟨o,ho⟩:=Zx (Uy xs bs i)
  rw[←ho]at Zm9 wO lO ⊢
  refine VS.ZW (fun F g=>F 3=.pointer (some ⟨bb,0,none⟩)∧F 4=.pointer (some ⟨br,0,none⟩)∧F 5=.pointer (some ⟨bo,0,none⟩)∧F 10=.agg (xs.map uv).toArray∧F 11=.int .i64 i∧F 6=.int .i64 i∧F 7=.int .u64 a∧F 15=.agg (bs.map uv).toArray∧∃k:Nat,k≤5∧F 16=.int .i64 k∧g=H.setIfInBounds bo (Yc (Zb0 a bs o i k)))
   (fun F _=>5-(vi (F 16)).toNat) rfl ⟨f3,f4,f5,f10,f11,rfl,rfl,rfl,0,by omega,rfl,rfl⟩ ?_
  clear f3 f4 f5 f10 f11 F
  rintro F g ⟨f3,f4,f5,f10,f11,f6,f7,f15,k,hk,f16,rfl⟩
  by_cases hlk:k<5
  ·have ZAJ:(k:Int)<5:=by omega
   have n2:=Zjl (l:=bs) (i:=k) (by omega)
   have wB:=wb.getD (by omega) k
   have ZbG:Zb0 a bs o i (k+1)=ZbF a (bs.getD k 0) (Zb0 a bs o i k) i k:=rfl
   obtain⟨b,hbx⟩:=Zx (bs.getD k 0)
   rw[←hbx]at n2 wB ZbG
   have wR:=Zjj wO (by omega) wA wb (i:=i) k
   have lR:(Zb0 a bs o i k).length=5:=by rw[Zao,lO]
   have hx:(H.setIfInBounds bo (Yc (Zb0 a bs o i k)))[bo]? = some (Yc (Zb0 a bs o i k)):=ZP H3
   have hp:=Zew wA wB
   have hp5:=ZgE wA wB
   obtain⟨r,hr⟩:=Zx (Zb0 a bs o i k)
   rw[←hr]at ZbG wR lR hx ⊢
   obtain⟨G,hG⟩:=Zx (H.setIfInBounds bo (Yc r))
   rw[←hG]at hx ⊢
   have eik:(i:Int)+(k:Int)=((i+k:Nat):Int):=rfl
   by_cases h5:i+k<5
   ·have h5':((i+k:Nat):Int)<5:=by omega
    have g1:=ZK hx (i:=i+k) (by omega)
    have y1:=wR.getD (by omega) (i+k)
    unfold uv at g1
    have hs:ZbF a b r i k=r.set (i+k) (r.getD (i+k) 0+a*b):=by unfold ZbF;rw[if_pos h5]
    rw[hs]at ZbG
    obtain⟨y,hy⟩:=Zx (r.getD (i+k) 0)
    rw[←hy]at g1 y1 ZbG
    have e1:(a:Int)*(b:Int)=((a*b:Nat):Int):=(Int.natCast_mul a b).symm
    have e2:((a*b:Nat):Int)%18446744073709551616=((a*b:Nat):Int):=by omega
    obtain⟨p,hp'⟩:=Zx (a*b)
    rw[←hp']at e1 e2 hp ZbG
    have e3:(y:Int)+(p:Int)=((y+p:Nat):Int):=rfl
    have e4:((y+p:Nat):Int)%18446744073709551616=((y+p:Nat):Int):=by omega
    have c1:Jp G ⟨bo,i+k,none⟩ (.int .u64 (y+p:Nat))=_:=ZY (f:=uv) hx (i:=i+k) (by omega) (y+p) rfl
    simp -implicitDefEqProofs only[go_sem,↓reduceIte,f3,f4,f5,f6,f7,f10,f11,f15,f16,ZAJ,Int.toNat_natCast,n2,eik,h5',g1,e1,e2,e3,e4,c1]
    refine⟨⟨f3,f4,f5,f10,f11,f6,f7,f15,k+1,hlk,rfl,?_⟩,?_⟩
    ·rw[hG,set_set,ZbG];rfl
    ·simp only[vi,Zk,↓reduceIte,f16];omega
   ·have h5':¬((i+k:Nat):Int)<5:=by omega
    have g1:=ZK hx (i:=i+k-5) (by omega)
    have y1:=wR.getD (by omega) (i+k-5)
    unfold uv at g1
    have hs:ZbF a b r i k=r.set (i+k-5) (r.getD (i+k-5) 0+5*a*b):=by unfold ZbF;rw[if_neg h5]
    rw[hs]at ZbG
    obtain⟨y,hy⟩:=Zx (r.getD (i+k-5) 0)
    rw[←hy]at g1 y1 ZbG
    have e0:(5:Int)*(a:Int)=((5*a:Nat):Int):=rfl
    have e0':((5*a:Nat):Int)%18446744073709551616=((5*a:Nat):Int):=by omega
    have e1:((5*a:Nat):Int)*(b:Int)=((5*a*b:Nat):Int):=(Int.natCast_mul (5*a) b).symm
    have e2:((5*a*b:Nat):Int)%18446744073709551616=((5*a*b:Nat):Int):=by omega
    obtain⟨p,hp'⟩:=Zx (5*a*b)
    rw[←hp']at e1 e2 hp5 ZbG
    have e3:(y:Int)+(p:Int)=((y+p:Nat):Int):=rfl
    have e4:((y+p:Nat):Int)%18446744073709551616=((y+p:Nat):Int):=by omega
    have e5:((i+k:Nat):Int)-5=((i+k-5:Nat):Int):=by omega
    have e6:((i+k-5:Nat):Int)<5:=by omega
    have c1:Jp G ⟨bo,i+k-5,none⟩ (.int .u64 (y+p:Nat))=_:=ZY (f:=uv) hx (i:=i+k-5) (by omega) (y+p) rfl
    simp -implicitDefEqProofs only[go_sem,↓reduceIte,f3,f4,f5,f6,f7,f10,f11,f15,f16,ZAJ,Int.toNat_natCast,n2,eik,h5',g1,e0,e0',e1,e2,e3,e4,e5,e6,c1]
    refine⟨⟨f3,f4,f5,f10,f11,f6,f7,f15,k+1,hlk,rfl,?_⟩,?_⟩
    ·rw[hG,set_set,ZbG];rfl
    ·simp only[vi,Zk,↓reduceIte,f16];omega
  ·have YK:¬(k:Int)<5:=by omega
   obtain rfl:k=5:=by omega
   have c5:((5:Nat):Int)=5:=rfl
   rw[c5]at f16 YK
   simp -implicitDefEqProofs only[go_sem,↓reduceIte,f3,f4,f5,f10,f11,f16,YK]
   refine⟨⟨f3,f4,f5,f10,i+1,ZD,rfl,?_⟩,?_⟩
   ·rw[Zm9]
   ·simp only[vi,Zk,↓reduceIte,f11];omega
 ·have YK:¬(i:Int)<5:=by omega
  obtain rfl:i=5:=by omega
  have c5:((5:Nat):Int)=5:=rfl
  rw[c5]at f11 YK
  have hx:(H.setIfInBounds bo (Yc (Uy xs bs 5)))[bo]? = some (Yc (Uy xs bs 5)):=ZP H3
  have hx2:(H.setIfInBounds bo (Yc (Uy xs bs 5)))[br]? = some (Yc [0,0,0,0,0]):=by rw[Array.getElem?_setIfInBounds,if_neg (by omega)];exact H2
  have HB2:Zf h.size h (H.setIfInBounds bo (Yc (Uy xs bs 5))):=HB.Zj (by omega) _
  obtain⟨w1,w2,w3⟩:=Zii ha hb wa wb
  obtain⟨o,ho⟩:=Zx (Uy xs bs 5)
  rw[←ho]at hx hx2 HB2 w1 w2 ⊢
  generalize H.setIfInBounds bo (Yc o)=G at *
  simp -implicitDefEqProofs only[go_sem,↓reduceIte,f3,f4,f5,f10,f11,YK]
  refine (ZkK T G bo o w2 w1 hx).use ?_
  rintro _ _ rfl
  obtain⟨m1,m2,m3⟩:=Zcp w2 w1
  have hx3:(G.setIfInBounds bo (Yc (Y7 o)))[bo]? = some (Yc (Y7 o)):=ZP hx
  have hx4:(G.setIfInBounds bo (Yc (Y7 o)))[br]? = some (Yc [0,0,0,0,0]):=by rw[Array.getElem?_setIfInBounds,if_neg (by omega)];exact hx2
  have HB3:Zf h.size h (G.setIfInBounds bo (Yc (Y7 o))):=HB2.Zj (by omega) _
  generalize G.setIfInBounds bo (Yc (Y7 o))=G2 at *
  have r3:=Zb2 m1 hx3
  have lc:((Y7 o).map uv).length=5:=by simpa using m1
  have w4:=ZQ (h:=G2) (b:=br) (l:=([0,0,0,0,0].map uv)) (by unfold Yc at hx4;rw[List.append_nil]at hx4;exact hx4) 0 ((Y7 o).map uv)
  have ho4:((Y7 o).map uv).all Z8=true:=by simp[uv,Z8]
  rw[if_pos ⟨by simp[lc],ho4⟩,ZN (by simp[lc])]at w4
  have tc:((Y7 o).map uv).take 5=(Y7 o).map uv:=List.take_of_length_le (by omega)
  have hlr:=Za hx4
  simp -implicitDefEqProofs only[go_sem,↓reduceIte,f3,f4,f5,r3,w4,lc,tc,hlr]
  exact HB3.Zj (by omega) _
theorem ZkM (T:World) (h:Hp) (xs:List Nat) (ha:xs.length=5) (wa:Yg 268435456 xs) :
  Zd Tryz.prog T 146 #[.agg (xs.map uv).toArray] h fun v' h'=>v'=.agg ((Zb1 (Y7 xs)).map uv).toArray∧Zf h.size h h':=by
 have la:(xs.map uv).length=5:=by simpa using ha
 refine Zd.Zi (args:=[_]) Tryz.func146 rfl rfl rfl rfl ?_
 simp -implicitDefEqProofs only[go_sem,↓reduceIte,la]
 obtain⟨H,hH⟩:=Zx (((h.push (.cells (xs.map uv).toArray 236)).push (.cells #[.int .u64 0,.int .u64 0,.int .u64 0,.int .u64 0,.int .u64 0] 236)):Hp)
 have HB:Zf h.size h H:=by rw[hH];exact ((Zf.push (Nat.le_refl _) _).Ye (by simp) _)
 have Hs:H.size=h.size+1+1:=by rw[hH];simp
 have H0:H[h.size]? = some (Yc xs):=by
  rw[hH,Zq (by simp),Zb];unfold Yc;rw[List.append_nil]
 have H1:H[h.size+1]? = some (Yc [0,0,0,0,0]):=by
  have:=Zb (h:=(h.push (.cells (xs.map uv).toArray 236))) (o:=.cells #[.int .u64 0,.int .u64 0,.int .u64 0,.int .u64 0,.int .u64 0] 236)
  rw[Array.size_push]at this
  rw[hH,this];rfl
 rw[←hH]
 clear hH
 refine (ZkK T H h.size xs ha (wa.mono (by decide)) H0).use ?_
 rintro _ _ rfl
 obtain⟨m1,m2,m3,m4⟩:=Zcp ha (wa.mono (by decide))
 have hx0:(H.setIfInBounds h.size (Yc (Y7 xs)))[h.size]? = some (Yc (Y7 xs)):=ZP H0
 have Qu:(H.setIfInBounds h.size (Yc (Y7 xs)))[h.size+1]? = some (Yc [0,0,0,0,0]):=by rw[Array.getElem?_setIfInBounds,if_neg (by omega)];exact H1
 have HB2:Zf h.size h (H.setIfInBounds h.size (Yc (Y7 xs))):=HB.Zj (Nat.le_refl _) _
 have Hs2:(H.setIfInBounds h.size (Yc (Y7 xs))).size=h.size+1+1:=by rw[Array.size_setIfInBounds];exact Hs
 obtain⟨m,hm⟩:=Zx (Y7 xs)
 rw[←hm]at hx0 Qu HB2 Hs2 m1 m2 m3 m4 ⊢
 generalize H.setIfInBounds h.size (Yc m)=G at *
 have r0:=Zb2 m1 hx0
 have lm:(m.map uv).length=5:=by simpa using m1
 have hom:(m.map uv).all Z8=true:=by simp[uv,Z8]
 have lp:Yq [Value.int .u64 0,.int .u64 0,.int .u64 0,.int .u64 0,.int .u64 0] 0 (m.map uv)=m.map uv:=ZN lm
 have n0:=Zjl (l:=m) (i:=0) (by omega)
 have y0:=m2.getD (by omega) 0
 have hw0:ywh m 0=m.set 0 (m.getD 0 0+5):=rfl
 obtain⟨y,hy⟩:=Zx (m.getD 0 0)
 rw[←hy]at n0 y0 hw0
 have e1:(y:Int)+5=((y+5:Nat):Int):=rfl
 have e2:((y+5:Nat):Int)%18446744073709551616=((y+5:Nat):Int):=by omega
 simp -implicitDefEqProofs only[go_sem,↓reduceIte,r0,lm,hom,Hs2,lp,n0,e1,e2]
 have hms:(m.map uv).set 0 (.int .u64 (y+5:Nat))=(m.set 0 (y+5)).map uv:=by rw[List.map_set];rfl
 rw[hms,←hw0]
 obtain⟨J,hJ⟩:=Zx (G.push (.cells ((ywh m 0).map uv).toArray 236))
 have J3:J[h.size+1+1]? = some (Yc (ywh m 0)):=by
  rw[hJ,←Hs2,Zb];unfold Yc;rw[List.append_nil]
 have J0:J[h.size]? = some (Yc m):=by rw[hJ,Zq (by omega)];exact hx0
 have J1:J[h.size+1]? = some (Yc [0,0,0,0,0]):=by rw[hJ,Zq (by omega)];exact Qu
 have JB:Zf h.size h J:=by rw[hJ];exact HB2.Ye (by omega) _
 rw[←hJ]
 clear hJ
 obtain⟨b3,hb3⟩:∃b,b=h.size+1+1:=⟨_,rfl⟩
 obtain⟨b2,hb2⟩:∃b,b=h.size+1:=⟨_,rfl⟩
 rw[←hb3]at J3 ⊢
 rw[←hb2]at J1 ⊢
 refine VS.ZW (fun F g=>F 1=.pointer (some ⟨h.size,0,none⟩)∧F 2=.pointer (some ⟨b2,0,none⟩)∧F 3=.pointer (some ⟨b3,0,none⟩)∧∃i:Nat,i≤4∧F 11=.int .i64 i∧g=J.setIfInBounds b3 (Yc (ywh m i)))
  (fun F _=>4-(vi (F 11)).toNat) rfl ⟨rfl,rfl,rfl,0,by omega,rfl,(Uc J3).symm⟩ ?_
 rintro F g ⟨f1,f2,f3,i,hi,f11,rfl⟩
 have hx:(J.setIfInBounds b3 (Yc (ywh m i)))[b3]? = some (Yc (ywh m i)):=ZP J3
 have wY:=ZsT m2 i (by omega)
 have lY:(ywh m i).length=5:=by rw[ZgF,m1]
 by_cases ZD:i<4
 ·have ZL:(i:Int)<4:=by omega
  have YN:ywh m (i+1)=((ywh m i).set (i+1) ((ywh m i).getD (i+1) 0+(ywh m i).getD i 0/67108864)).set i ((ywh m i).getD i 0%67108864):=rfl
  obtain⟨r,hr⟩:=Zx (ywh m i)
  rw[←hr]at hx wY lY YN ⊢
  obtain⟨G1,hG1⟩:=Zx (J.setIfInBounds b3 (Yc r))
  rw[←hG1]at hx ⊢
  have g1:=ZK hx (i:=i+1) (by omega)
  have g0:=ZK hx (i:=i) (by omega)
  have q1:=wY.getD (by omega) (i+1)
  have q0:=wY.getD (by omega) i
  unfold uv at g0 g1
  obtain⟨a,hax⟩:=Zx (r.getD i 0)
  obtain⟨b,hbx⟩:=Zx (r.getD (i+1) 0)
  rw[←hax]at g0 q0 YN
  rw[←hbx]at g1 q1 YN
  have s1:=Zot a
  have s2:=ZbZ a (by omega)
  have t1:(b:Int)+((a/67108864:Nat):Int)=((b+a/67108864:Nat):Int):=rfl
  have t2:((b+a/67108864:Nat):Int)%18446744073709551616=((b+a/67108864:Nat):Int):=by omega
  have ei:(i:Int)+1=((i+1:Nat):Int):=rfl
  have hi5:((i+1:Nat):Int)<5:=by omega
  have ZFV:(i:Int)<5:=by omega
  have c1:Jp G1 ⟨b3,i+1,none⟩ (.int .u64 (b+a/67108864:Nat))=_:=ZY (f:=uv) hx (i:=i+1) (by omega) (b+a/67108864) rfl
  have hy1:=ZP (o:=.cells ((r.set (i+1) (b+a/67108864)).map uv++[]).toArray 236) hx
  have l1:(r.set (i+1) (b+a/67108864)).length=5:=by rw[List.length_set,lY]
  have v1:(r.set (i+1) (b+a/67108864)).getD i 0=a:=by rw[ZdQ (by omega),←hax]
  obtain⟨r1,hr1⟩:=Zx (r.set (i+1) (b+a/67108864))
  rw[←hr1]at c1 hy1 l1 v1 YN
  obtain⟨G2,hG2⟩:=Zx (G1.setIfInBounds b3 (.cells (r1.map uv++[]).toArray 236))
  rw[←hG2]at c1 hy1
  have g2:=ZK hy1 (i:=i) (by omega)
  unfold uv at g2
  rw[v1]at g2
  have c2:Jp G2 ⟨b3,i,none⟩ (.int .u64 (a%67108864:Nat))=_:=ZY (f:=uv) hy1 (i:=i) (by omega) (a%67108864) rfl
  simp -implicitDefEqProofs only[go_sem,↓reduceIte,f1,f2,f3,f11,ZL]
  refine VS.w (b3+1) [10] (.q 0 (.q 1 (.q 2 (.q 3 (.q 4 (.q 5 (.q 6 (.q 7 (.q 8 (.q 9 (.w 10 .nil))))))))))) mixed (by kernel_rfl) ?_
  simp -implicitDefEqProofs only[go_sem,↓reduceIte,f1,f2,f3,f11,ei,hi5,ZFV,Int.toNat_natCast,Nat.zero_add,g0,g1,s1,t1,t2,c1,g2,s2,c2]
  refine⟨⟨f1,f2,f3,i+1,ZD,rfl,?_⟩,?_⟩
  ·rw[hG2,set_set,hG1,set_set,YN];rfl
  ·simp only[vi,Zk,↓reduceIte,f11];omega
 ·have YK:¬(i:Int)<4:=by omega
  obtain rfl:i=4:=by omega
  have c4:((4:Nat):Int)=4:=rfl
  rw[c4]at f11 YK
  have hW:Zb1 m=if (ywh m 4).getD 4 0/67108864=0 then m else (ywh m 4).set 4 ((ywh m 4).getD 4 0%67108864):=rfl
  have hy0:(J.setIfInBounds b3 (Yc (ywh m 4)))[h.size]? = some (Yc m):=by rw[Array.getElem?_setIfInBounds,if_neg (by omega)];exact J0
  have hy1:(J.setIfInBounds b3 (Yc (ywh m 4)))[b2]? = some (Yc [0,0,0,0,0]):=by rw[Array.getElem?_setIfInBounds,if_neg (by omega)];exact J1
  have HB3:Zf h.size h (J.setIfInBounds b3 (Yc (ywh m 4))):=JB.Zj (by omega) _
  obtain⟨r,hr⟩:=Zx (ywh m 4)
  rw[←hr]at hx wY lY hy0 hy1 HB3 hW ⊢
  generalize J.setIfInBounds b3 (Yc r)=G1 at *
  have g4:=ZK hx (i:=4) (by omega)
  have q4:=wY.getD (by omega) 4
  unfold uv at g4
  obtain⟨a,hax⟩:=Zx (r.getD 4 0)
  rw[←hax]at g4 q4 hW
  have s1:=Zot a
  have s2:=ZbZ a (by omega)
  have w4:=fun (k:List Nat) (hk:k.length=5)=>ZQ (h:=G1) (b:=b2) (l:=([0,0,0,0,0].map uv)) (by unfold Yc at hy1;rw[List.append_nil]at hy1;exact hy1) 0 (k.map uv)
  have h2s:=Za hy1
  by_cases h0:a/67108864=0
  ·have h0':((a/67108864:Nat):Int)=0:=by omega
   rw[if_pos h0]at hW
   have w5:=w4 m m1
   rw[if_pos ⟨by simp[lm],hom⟩,ZN (by simp[lm])]at w5
   have r1:=Zb2 m1 hy0
   have tm:(m.map uv).take 5=m.map uv:=List.take_of_length_le (by omega)
   simp -implicitDefEqProofs only[go_sem,↓reduceIte,f1,f2,f3,f11,YK,g4,s1,h0',r1,w5,lm,tm,h2s]
   exact⟨by rw[hW],HB3.Zj (by omega) _⟩
  ·have h0':¬((a/67108864:Nat):Int)=0:=by omega
   rw[if_neg h0]at hW
   have c1:Jp G1 ⟨b3,4,none⟩ (.int .u64 (a%67108864:Nat))=_:=ZY (f:=uv) hx (i:=4) (by omega) (a%67108864) rfl
   have hz:=ZP (o:=.cells ((r.set 4 (a%67108864)).map uv++[]).toArray 236) hx
   have l1:(r.set 4 (a%67108864)).length=5:=by rw[List.length_set,lY]
   have HB4:Zf h.size h (G1.setIfInBounds b3 (.cells ((r.set 4 (a%67108864)).map uv++[]).toArray 236)):=HB3.Zj (by omega) _
   have hz2:(G1.setIfInBounds b3 (.cells ((r.set 4 (a%67108864)).map uv++[]).toArray 236))[b2]? = some (Yc [0,0,0,0,0]):=by rw[Array.getElem?_setIfInBounds,if_neg (by omega)];exact hy1
   rw[hW]
   obtain⟨r1,hr1⟩:=Zx (r.set 4 (a%67108864))
   rw[←hr1]at c1 hz l1 HB4 hz2 ⊢
   generalize G1.setIfInBounds b3 (.cells (r1.map uv++[]).toArray 236)=G2 at *
   have r4:=Zb2 l1 hz
   have lr:(r1.map uv).length=5:=by simpa using l1
   have hor:(r1.map uv).all Z8=true:=by simp[uv,Z8]
   have w5:=ZQ (h:=G2) (b:=b2) (l:=([0,0,0,0,0].map uv)) (by unfold Yc at hz2;rw[List.append_nil]at hz2;exact hz2) 0 (r1.map uv)
   rw[if_pos ⟨by simp[lr],hor⟩,ZN (by simp[lr])]at w5
   have tm:(r1.map uv).take 5=r1.map uv:=List.take_of_length_le (by omega)
   have ZFW:=Za hz2
   simp -implicitDefEqProofs only[go_sem,↓reduceIte,f1,f2,f3,f11,YK,g4,s1,s2,h0',Nat.zero_add,c1,r4,w5,lr,tm,ZFW]
   exact HB4.Zj (by omega) _
def ZsU (key:List Nat) (i:Nat):Nat:=if i%4=3 then key.getD i 0%16 else if i%4=0∧0<i then key.getD i 0/4*4 else key.getD i 0
def XX (key:List Nat):List Nat:=(List.range 16).map (ZsU key)
def ZAK (data:List Nat) (k:Nat):List Nat:=(data.drop (16*k)).take 16++[1]
def ZsV (r:Nat) (data:List Nat):Nat→Nat
 | 0=>0
 | k+1=>(ZsV r data k+Y1 (ZAK data k))*r%Za0
def ZvC (key data:List Nat):Nat:=ZsV (Y1 (XX key)) data ((data.length+15)/16)+Y1 ((key.drop 16).take 16)
def Zna (key data:List Nat):List Nat:=(List.range 16).map fun i=>ZvC key data/256 ^ i%256
theorem ZhK (key:List Nat):(XX key).length=16:=by simp[XX]
theorem ZkN (key data:List Nat):(Zna key data).length=16:=by simp[Zna]
theorem Zcq {h:Hp} {p:Option Addr} {c n:Nat} {l:List Nat} (s:Bs h (.slice p n c) l) {m:Nat} (hm:m≤l.length) (c':Nat):Bs h (.slice p m c') (l.take m):=by
 refine⟨?_,fun x hx=>s.byte x (List.mem_of_mem_take hx)⟩
 obtain⟨p',cap,hv,hl,hc⟩:=s.sl
 simp only[Value.slice.injEq]at hv
 obtain⟨rfl,_,rfl⟩:=hv
 refine⟨_,c',by rw[List.length_take,Nat.min_eq_left hm],by simp,fun Ys=>?_⟩
 obtain⟨b,o,rfl,YR⟩:=hc (by intro e;simp at e;subst e;simp at Ys)
 refine⟨b,o,rfl,fun i hi=>?_⟩
 have hi':i<m∧i<l.length:=by rw[List.length_map,List.length_take]at hi;omega
 rw[YR i (by simp;omega)]
 simp
theorem Zya {h:Hp} {p:Option Addr} {c n:Nat} {l:List Nat} (s:Bs h (.slice p n c) l) (hn:l.length=n) {k m:Nat} (hk:k+m≤n) (JO:n≤c) (c':Nat):Bs h (.slice (ZmW p 1 c k) m c') ((l.drop k).take m):=
 Zcq (Zcl s hn (k:=k) (by omega) JO c') (by rw[List.length_drop];omega) c'
def ZaE (key data:List Nat):Int:=if key.length≠32∨4000<data.length then 1 else 0
def ZsW (B:Nat) (h:Hp) (v:Value) (key data:List Nat):Prop:=∃w,v=.tuple #[w,.int .i64 (ZaE key data)]∧ZZ B 5 h w (if ZaE key data=0 then Zna key data else [])
def XY:List (Option IntKind):=rep 32 [some .i64]++rep 8 [none]
theorem Ud:∀{ks:List (Option IntKind)} {vs:List Value} (i:Nat) (v:Value),Yt ks vs=true→(∀k,ks[i]? = some k→Un k v=true)→Yt ks (vs.set i v)=true:=by
 intro ks
 induction ks with
 | nil=>intro vs i v h _;cases vs<;>simp[Yt]at h ⊢
 | cons k ks ih=>
  intro vs i v h hk
  cases vs with
  | nil=>simp[Yt]at h
  | cons x vs=>
   simp only[Yt,Bool.and_eq_true]at h
   cases i with
   | zero=>simp only[List.set_cons_zero,Yt,Bool.and_eq_true];exact⟨hk k rfl,h.2⟩
   | succ i=>simp only[List.set_cons_succ,Yt,Bool.and_eq_true];exact⟨h.1,ih i v h.2 (fun k' hk'=>hk k' (by simpa using hk'))⟩
theorem Qd {i:Nat} (hi:i<32) (n:Int):∀k,XY[i]? = some k→Un k (.int .i64 n)=true:=by
 intro k hk
 have:∀i<32,XY[i]? = some (some .i64):=by decide
 rw[this i hi]at hk
 obtain rfl:=Option.some.inj hk
 rfl
theorem ZkO {i:Nat} (h1:32≤i) (b:Bool):∀k,XY[i]? = some k→Un k (.bool b)=true:=by
 intro k hk
 have:∀j<8,XY[32+j]? = some none:=by decide
 by_cases h2:i<40
 ·have:=this (i-32) (by omega)
  rw[show 32+(i-32)=i by omega]at this
  rw[this]at hk
  obtain rfl:=Option.some.inj hk
  rfl
 ·rw[List.getElem?_eq_none (by show 40≤i;omega)]at hk;cases hk
theorem ZdS {g:Hp} {b:Nat} {o:Obj} (hx:g[b]? = some o):g.setIfInBounds b o=g:=by
 apply Array.ext_getElem?
 intro i
 rw[Array.getElem?_setIfInBounds]
 by_cases hb:b=i
 ·subst hb;rw[if_pos rfl,if_pos (Za hx),hx]
 ·rw[if_neg hb]
structure ZAL where
 cells:List Value
 code:Int
 val:Int
def Zb3 (cs:List Value) (k c n v:Nat):List Value × Int:=
 if k=1 then (cs.set n (.int .i64 v),v) else if k=2 then (cs,ci cs n) else (cs.set (32+n) (.bool true),0)
def UT (cs:List Value) (k c s n v:Nat):ZAL:=
 if k=0 then ⟨cs,0,0⟩ else
 if (s:Int)+1=ci cs (8+c) then ⟨cs,ci cs (16+c*2),ci cs (16+c*2+1)⟩ else
 if (s:Int)<ci cs (8+c) then ⟨cs,7,0⟩ else
 if cb cs (32+c)=true then ⟨cs,11,0⟩ else
 ⟨((((Zb3 cs k c n v).1.set (8+c) (.int .i64 ((s:Int)+1))).set (16+c*2) (.int .i64 0)).set (16+c*2+1) (.int .i64 (Zb3 cs k c n v).2)),0,(Zb3 cs k c n v).2⟩
def Ze4 (cs:List Value) (k c s n v:Int):Int:=if Qw cs=true then 5 else YQ k c s n v
def Jx:List Value:=rep 32 [Value.int .i64 0]++rep 8 [Value.bool false]
def doL (cs:List Value) (k c s n v:Int):List Value:=
 if Ze4 cs k c s n v=0 then [.agg (UT cs k.toNat c.toNat s.toNat n.toNat v.toNat).cells.toArray,.agg [.int .i64 (UT cs k.toNat c.toNat s.toNat n.toNat v.toNat).code,.int .i64 (UT cs k.toNat c.toNat s.toNat n.toNat v.toNat).val].toArray,.int .i64 0]
  else [.agg Jx.toArray,.agg [.int .i64 0,.int .i64 0].toArray,.int .i64 (Ze4 cs k c s n v)]
def Zw6 (v':Value) (cs:List Value) (k c s n v:Int):Prop:=v'=.tuple (doL cs k c s n v).toArray
theorem Zbs {k c s n v:Int} (h:YQ k c s n v=0):∃k' c' s' n' v':Nat,k=k'∧c=c'∧s=s'∧n=n'∧v=v'∧k'≤3∧c'≤7∧s'≤1048576∧n'≤7∧v'≤1073741824:=by
 have:0≤k∧k≤3∧0≤c∧c≤7∧0≤s∧s≤1048576∧0≤n∧n≤7∧0≤v∧v≤1073741824:=by
  unfold YQ at h
  repeat' split at h
  all_goals omega
 exact⟨k.toNat,c.toNat,s.toNat,n.toNat,v.toNat,by omega,by omega,by omega,by omega,by omega,by omega,by omega,by omega,by omega,by omega⟩
theorem Zij {cs:List Value} {i j:Nat} {x:Value} (h:i≠j):ci (cs.set i x) j=ci cs j:=by
 unfold ci
 rw[Yl,Yl,List.getElem?_set_ne h]
theorem ints_set {cs:List Value} {j:Nat} (hj:j<cs.length) (x:Int) (hi:∀i,i<32→nth cs i=some (.int .i64 (ci cs i))):∀i,i<32→nth (cs.set j (.int .i64 x)) i=some (.int .i64 (ci (cs.set j (.int .i64 x)) i)):=by
 intro i h32
 by_cases e:j=i
 ·subst e
  have:nth (cs.set j (.int .i64 x)) j=some (.int .i64 x):=by rw[Yl,List.getElem?_set_self hj]
  unfold ci
  rw[this]
 ·rw[Zij e,Yl,List.getElem?_set_ne e,←Yl];exact hi i h32
theorem Zp4 (cs:List Value) (k c n v:Nat) (x:Value) (hn:n≤7) (hc:c≤7):Zb3 (cs.set (8+c) x) k c n v=((Zb3 cs k c n v).1.set (8+c) x,(Zb3 cs k c n v).2):=by
 unfold Zb3
 by_cases k1:k=1
 ·rw[if_pos k1,if_pos k1,List.set_comm _ _ (by omega)]
 ·rw[if_neg k1,if_neg k1]
  by_cases k2:k=2
  ·rw[if_pos k2,if_pos k2,Zij (by omega)]
  ·rw[if_neg k2,if_neg k2,List.set_comm _ _ (by omega)]
theorem ZkP {cs:List Value} (hf:Yt XY cs=true) (k c n v:Nat) (hn:n≤7):Yt XY (Zb3 cs k c n v).1=true:=by
 unfold Zb3
 by_cases k1:k=1
 ·rw[if_pos k1];exact Ud n _ hf (Qd (by omega) _)
 ·rw[if_neg k1]
  by_cases k2:k=2
  ·rw[if_pos k2];exact hf
  ·rw[if_neg k2];exact Ud (32+n) _ hf (ZkO (by omega) _)
theorem Zp5 {cs:List Value} (hf:Yt XY cs=true) (k c s n v:Nat) (hn:n≤7) (hc:c≤7):Yt XY (UT cs k c s n v).cells=true:=by
 unfold UT
 repeat' split
 all_goals first|exact hf|skip
 exact Ud _ _ (Ud _ _ (Ud _ _ (ZkP hf k c n v hn) (Qd (by omega) _)) (Qd (by omega) _)) (Qd (by omega) _)
theorem ZkQ (T:World) (h:Hp) (b:Nat) (cs:List Value) (k c s n v:Nat) (hl:cs.length=40) (hi:∀i,i<32→nth cs i=some (.int .i64 (ci cs i))) (hn:n≤7) (hk:1≤k) (hk3:k≤3) (hx:h[b]? = some (.cells cs.toArray 72)) :
  Zd Tryz.prog T 60 #[.pointer (some ⟨b,0,none⟩),.agg (Qr k c s n v).toArray] h fun v' h'=>v'=.agg [.int .i64 0,.int .i64 (Zb3 cs k c n v).2].toArray∧Zf h.size (h.setIfInBounds b (.cells (Zb3 cs k c n v).1.toArray 72)) h':=by
 refine Zd.Zi (args:=[_,_]) Tryz.func60 rfl rfl rfl rfl ?_
 have hb:=Za hx
 have hn8:(n:Int)<8:=by omega
 unfold Qr Zb3
 by_cases k1:k=1
 ·subst k1
  simp +contextual -implicitDefEqProofs only[go_sem,↓reduceIte]
  refine VS.w (h.size+2) [8] (.q 0 (.q 1 (.q 2 (.q 3 (.q 4 (.q 5 (.q 6 (.q 7 (.w 8 .nil))))))))) mixed (by kernel_rfl) ?_
  have w1:=Yu hx n (.int .i64 v)
  rw[if_pos ⟨by omega,rfl⟩]at w1
  have nn:nth (cs.set n (.int .i64 (v:Int))) n=some (.int .i64 v):=by rw[Yl,List.getElem?_set_self (by omega)]
  simp +contextual -implicitDefEqProofs only[go_sem,↓reduceIte,hn8,w1,hb]
  refine VS.w (h.size+2) [8] (.q 0 (.q 1 (.q 2 (.q 3 (.q 4 (.q 5 (.q 6 (.q 7 (.w 8 .nil))))))))) mixed (by kernel_rfl) ?_
  simp +contextual -implicitDefEqProofs only[go_sem,↓reduceIte,hn8,hb,nn]
  try exact ((Zf.push (by simp) _).Ye (by simp) _)
 ·by_cases k2:k=2
  ·subst k2
   have nn:=hi n (by omega)
   have x1:hc h ⟨b,n,none⟩=some (.int .i64 (ci cs n)):=by rw[Zg hx];exact nn
   have hsb:=ZdS hx
   simp +contextual -implicitDefEqProofs only[go_sem,↓reduceIte,hsb]
   refine VS.w (h.size+2) [8] (.q 0 (.q 1 (.q 2 (.q 3 (.q 4 (.q 5 (.q 6 (.q 7 (.w 8 .nil))))))))) mixed (by kernel_rfl) ?_
   simp +contextual -implicitDefEqProofs only[go_sem,↓reduceIte,hn8,hb,x1]
  ·have k3:k=3:=by omega
   subst k3
   have w1:=Yu hx (32+n) (.bool true)
   rw[if_pos ⟨by omega,rfl⟩]at w1
   simp +contextual -implicitDefEqProofs only[go_sem,↓reduceIte]
   refine VS.w (h.size+2) [6] (.q 0 (.q 1 (.q 2 (.q 3 (.q 4 (.q 5 (.w 6 .nil))))))) mixed (by kernel_rfl) ?_
   simp +contextual -implicitDefEqProofs only[go_sem,↓reduceIte,hn8,w1,hb]
   try exact ((Zf.push (by simp) _).Ye (by simp) _)
theorem Znb (T:World) (h:Hp) (cs:List Value) (k c s n v:Int) (hf:Yt XY cs=true) (hi:∀i,i<32→nth cs i=some (.int .i64 (ci cs i))) (hb:∀i,32≤i→i<40→nth cs i=some (.bool (cb cs i))) :
  Zd Tryz.prog T 37 #[.agg cs.toArray,.agg (Qr k c s n v).toArray] h fun v' h'=>Zw6 v' cs k c s n v∧Zf h.size h h':=by
 have hl:cs.length=40:=YL hf
 have tk:=Xi hl
 have Xf:=Zgf hf
 refine Zd.XM (args:=[_,_]) Tryz.func37 rfl rfl rfl rfl ?_
 unfold Qr
 simp +contextual -implicitDefEqProofs only[go_sem,↓reduceIte,hl,tk]
 refine (ZpL T _ cs hl hi).use ?_
 rintro _ _ ⟨rfl,rfl⟩
 unfold Zw6 doL Ze4
 by_cases e1:Qw cs=true
 ·simp +contextual -implicitDefEqProofs only[go_sem,↓reduceIte,e1]
  refine⟨rfl,?_⟩
  (repeat' (first|exact Zf.refl _ _|assumption|refine Zf.add ?_ _|refine Zf.Zj ?_ (by first|omega|(simp;omega)) _|refine Zf.trans (by assumption) ?_))
 ·have e1:Qw cs=false:=by simpa using e1
  simp +contextual -implicitDefEqProofs only[go_sem,↓reduceIte,e1]
  refine (JZ T _ k c s n v).use ?_
  rintro _ _ ⟨rfl,rfl⟩
  unfold Qr
  by_cases e2:YQ k c s n v=0
  ·obtain⟨k,c,s,n,v,rfl,rfl,rfl,rfl,rfl,y1,y2,y3,y4,y5⟩:=Zbs e2
   simp only[Int.toNat_natCast]
   have XU:Jx=[.int .i64 0,.int .i64 0,.int .i64 0,.int .i64 0,.int .i64 0,.int .i64 0,.int .i64 0,.int .i64 0,.int .i64 0,.int .i64 0,.int .i64 0,.int .i64 0,.int .i64 0,.int .i64 0,.int .i64 0,.int .i64 0,.int .i64 0,.int .i64 0,.int .i64 0,.int .i64 0,.int .i64 0,.int .i64 0,.int .i64 0,.int .i64 0,.int .i64 0,.int .i64 0,.int .i64 0,.int .i64 0,.int .i64 0,.int .i64 0,.int .i64 0,.int .i64 0,.bool false,.bool false,.bool false,.bool false,.bool false,.bool false,.bool false,.bool false]:=rfl
   obtain⟨H,hH⟩:=Zx (((((((h.push (.cells cs.toArray 72)).push (.cells [.int .i64 k,.int .i64 c,.int .i64 s,.int .i64 n,.int .i64 v].toArray 77)).push (.cells [.int .i64 0,.int .i64 0,.int .i64 0,.int .i64 0,.int .i64 0,.int .i64 0,.int .i64 0,.int .i64 0,.int .i64 0,.int .i64 0,.int .i64 0,.int .i64 0,.int .i64 0,.int .i64 0,.int .i64 0,.int .i64 0,.int .i64 0,.int .i64 0,.int .i64 0,.int .i64 0,.int .i64 0,.int .i64 0,.int .i64 0,.int .i64 0,.int .i64 0,.int .i64 0,.int .i64 0,.int .i64 0,.int .i64 0,.int .i64 0,.int .i64 0,.int .i64 0,.bool false,.bool false,.bool false,.bool false,.bool false,.bool false,.bool false,.bool false].toArray 72)).push (.cells [.int .i64 0,.int .i64 0].toArray 68)).push (.cells cs.toArray 72)).push (.cells [.int .i64 k,.int .i64 c,.int .i64 s,.int .i64 n,.int .i64 v].toArray 77)):Hp)
   have x0:H[h.size]? = some (.cells cs.toArray 72):=by rw[hH];simp only[Array.getElem?_push,Array.size_push,IntWalk.iteOmega,↓reduceIte]
   have x1:H[h.size+1]? = some (.cells [.int .i64 k,.int .i64 c,.int .i64 s,.int .i64 n,.int .i64 v].toArray 77):=by rw[hH];simp only[Array.getElem?_push,Array.size_push,IntWalk.iteOmega,↓reduceIte]
   have x2:H[h.size+2]? = some (.cells Jx.toArray 72):=by rw[hH,XU];simp only[Array.getElem?_push,Array.size_push,IntWalk.iteOmega,↓reduceIte]
   have x3:H[h.size+3]? = some (.cells [.int .i64 0,.int .i64 0].toArray 68):=by rw[hH];simp only[Array.getElem?_push,Array.size_push,IntWalk.iteOmega,↓reduceIte]
   have hHs:H.size=h.size+6:=by rw[hH];simp
   have hHb:Zf h.size h H:=by rw[hH];(repeat' (first|exact Zf.refl _ _|assumption|refine Zf.add ?_ _|refine Zf.Zj ?_ (by first|omega|(simp;omega)) _|refine Zf.trans (by assumption) ?_))
   rw[←hH]
   clear hH XU
   have c1:hc H ⟨h.size+1,0,none⟩=some (.int .i64 k):=by rw[Zg x1];rfl
   have c2:hc H ⟨h.size+1,1,none⟩=some (.int .i64 c):=by rw[Zg x1];rfl
   have c3:hc H ⟨h.size+1,2,none⟩=some (.int .i64 s):=by rw[Zg x1];rfl
   have cc:(c:Int)<8:=by omega
   have ZAM:=hi (8+c) (by omega)
   have lx:hc H ⟨h.size,8+c,none⟩=some (.int .i64 (ci cs (8+c))):=by rw[Zg x0];exact ZAM
   have fin:∀(G:Hp) (D:List Value) (a b:Int),D.length=40→D.all Z8=true→G[h.size+2]? = some (.cells Jx.toArray 72)→G[h.size+3]? = some (.cells [.int .i64 0,.int .i64 0].toArray 68) →
     wr G ⟨h.size+1+1,0,none⟩ D=some (G.setIfInBounds (h.size+1+1) (.cells D.toArray 72)) ∧
     wr (G.setIfInBounds (h.size+1+1) (.cells D.toArray 72)) ⟨h.size+1+1+1,0,none⟩ [.int .i64 a,.int .i64 b]=some ((G.setIfInBounds (h.size+1+1) (.cells D.toArray 72)).setIfInBounds (h.size+1+1+1) (.cells [.int .i64 a,.int .i64 b].toArray 68)):=by
    intro G D a b d1 d2 g2 g3
    refine⟨?_,?_⟩
    ·rw[ZQ (b:=h.size+1+1) g2 0 D,ZN (by rw[d1];rfl),if_pos ⟨by rw[d1];exact Nat.le_refl _,d2⟩]
    ·rw[ZQ (b:=h.size+1+1+1) (l:=[.int .i64 0,.int .i64 0]) (t:=68) (by rw[Array.getElem?_setIfInBounds,if_neg (by omega)];exact g3),if_pos ⟨by simp,rfl⟩]
     rfl
   have r0:=Zo x0 hl
   have Zp6:∀(G:Hp) (o o':Obj),Zf h.size h G→Zf h.size h ((G.setIfInBounds (h.size+1+1) o).setIfInBounds (h.size+1+1+1) o'):=fun G o o' hG=>(hG.Zj (by omega) _).Zj (by omega) _
   by_cases k0:k=0
   ·subst k0
    have ed:UT cs 0 c s n v=⟨cs,0,0⟩:=rfl
    obtain⟨w2,w3⟩:=fin H cs 0 0 hl Xf x2 x3
    simp -implicitDefEqProofs only[go_sem,↓reduceIte,e2,c1,c2,cc,ed,r0,w2,w3,hl,hHs,tk,hHb]
    exact Zp6 H _ _ hHb
   ·have k0':¬(k:Int)=0:=by omega
    simp -implicitDefEqProofs only[go_sem,↓reduceIte,e2,c1,c2,cc,k0']
    refine VS.q mixed (by kernel_rfl) ?_
    by_cases q1:(s:Int)+1=ci cs (8+c)
    ·have ed:UT cs k c s n v=⟨cs,ci cs (16+c*2),ci cs (16+c*2+1)⟩:=by unfold UT;rw[if_neg k0,if_pos q1]
     obtain⟨w2,w3⟩:=fin H cs (ci cs (16+c*2)) (ci cs (16+c*2+1)) hl Xf x2 x3
     have ra:rd H ⟨h.size,16+c*2,none⟩ 2=some [.int .i64 (ci cs (16+c*2)),.int .i64 (ci cs (16+c*2+1))]:=by
      rw[Z4 x0 (by omega),Zka (hi _ (by omega)) (hi _ (by omega))]
     simp -implicitDefEqProofs only[go_sem,↓reduceIte,c3,lx,q1]
     refine VS.w (h.size+1+1) [] (.q 0 (.q 1 (.q 2 (.q 3 (.q 4 (.q 5 (.s 6 (.s 7 (.q 8 .nil))))))))) mixed (by kernel_rfl) ?_
     simp -implicitDefEqProofs only[go_sem,↓reduceIte,e2,c2,cc,ed,r0,ra,w2,w3,hl,hHs,tk,hHb]
     exact Zp6 H _ _ hHb
    ·simp -implicitDefEqProofs only[go_sem,↓reduceIte,c3,lx,q1]
     refine VS.q mixed (by kernel_rfl) ?_
     by_cases q2:(s:Int)<ci cs (8+c)
     ·have ed:UT cs k c s n v=⟨cs,7,0⟩:=by unfold UT;rw[if_neg k0,if_neg q1,if_pos q2]
      obtain⟨w2,w3⟩:=fin H cs 7 0 hl Xf x2 x3
      simp -implicitDefEqProofs only[go_sem,↓reduceIte,c3,lx,q2,e2,ed,r0,w2,w3,hl,hHs,tk,hHb]
      exact Zp6 H _ _ hHb
     ·have rv:hc H ⟨h.size,32+c,none⟩=some (.bool (cb cs (32+c))):=by rw[Zg x0];exact hb _ (by omega) (by omega)
      by_cases q3:cb cs (32+c)=true
      ·have ed:UT cs k c s n v=⟨cs,11,0⟩:=by unfold UT;rw[if_neg k0,if_neg q1,if_neg q2,if_pos q3]
       obtain⟨w2,w3⟩:=fin H cs 11 0 hl Xf x2 x3
       rw[q3]at rv
       simp -implicitDefEqProofs only[go_sem,↓reduceIte,c3,lx,q2,c2,cc,rv,e2,ed,r0,w2,w3,hl,hHs,tk,hHb]
       exact Zp6 H _ _ hHb
      ·have q3':cb cs (32+c)=false:=by simpa using q3
       rw[q3']at rv
       have w1:=Yu x0 (8+c) (.int .i64 ((s:Int)+1))
       rw[if_pos ⟨by omega,rfl⟩]at w1
       have rc:=Zo x1 (n:=5) rfl
       have x1':(H.setIfInBounds h.size (.cells (cs.set (8+c) (.int .i64 ((s:Int)+1))).toArray 72))[h.size+1]? = some (.cells [.int .i64 k,.int .i64 c,.int .i64 s,.int .i64 n,.int .i64 v].toArray 77):=by rw[Array.getElem?_setIfInBounds,if_neg (by omega)];exact x1
       have rc':=Zo x1' (n:=5) rfl
       simp -implicitDefEqProofs only[go_sem,↓reduceIte,c3,lx,q2,c2,cc,rv,w1,rc']
       have x0':(H.setIfInBounds h.size (.cells (cs.set (8+c) (.int .i64 ((s:Int)+1))).toArray 72))[h.size]? = some (.cells (cs.set (8+c) (.int .i64 ((s:Int)+1))).toArray 72):=by rw[Array.getElem?_setIfInBounds,if_pos rfl,if_pos (by omega)]
       have Q2:Zf h.size h (H.setIfInBounds h.size (.cells (cs.set (8+c) (.int .i64 ((s:Int)+1))).toArray 72)):=hHb.Zj (Nat.le_refl _) _
       have x2':(H.setIfInBounds h.size (.cells (cs.set (8+c) (.int .i64 ((s:Int)+1))).toArray 72))[h.size+2]? = some (.cells Jx.toArray 72):=by rw[Array.getElem?_setIfInBounds,if_neg (by omega)];exact x2
       have x3':(H.setIfInBounds h.size (.cells (cs.set (8+c) (.int .i64 ((s:Int)+1))).toArray 72))[h.size+3]? = some (.cells [.int .i64 0,.int .i64 0].toArray 68):=by rw[Array.getElem?_setIfInBounds,if_neg (by omega)];exact x3
       have hGs:(H.setIfInBounds h.size (.cells (cs.set (8+c) (.int .i64 ((s:Int)+1))).toArray 72)).size=h.size+6:=by rw[Array.size_setIfInBounds];exact hHs
       refine (ZkQ T _ h.size (cs.set (8+c) (.int .i64 ((s:Int)+1))) k c s n v (by rw[List.length_set];exact hl) (ints_set (by omega) _ hi) (by omega) (by omega) (by omega) x0').use ?_
       rintro _ g1 ⟨rfl,b1⟩
       rw[Zp4 cs k c n v _ (by omega) (by omega)]at b1 ⊢
       have hfA:=ZkP hf k c n v (by omega)
       have ed:UT cs k c s n v=⟨((((Zb3 cs k c n v).1.set (8+c) (.int .i64 ((s:Int)+1))).set (16+c*2) (.int .i64 0)).set (16+c*2+1) (.int .i64 (Zb3 cs k c n v).2)),0,(Zb3 cs k c n v).2⟩:=by unfold UT;rw[if_neg k0,if_neg q1,if_neg q2,if_neg q3]
       obtain⟨A,hA⟩:=Zx ((Zb3 cs k c n v).1.set (8+c) (.int .i64 ((s:Int)+1)))
       obtain⟨a,ha⟩:=Zx ((Zb3 cs k c n v).2)
       rw[←hA,←ha]at ed
       simp only[←hA,←ha]at b1 ⊢
       have ZAN:Yt XY A=true:=by rw[hA];exact Ud _ _ hfA (Qd (by omega) _)
       have ZLD:A.length=40:=YL ZAN
       obtain⟨G,hG⟩:=Zx (H.setIfInBounds h.size (.cells (cs.set (8+c) (.int .i64 ((s:Int)+1))).toArray 72):Hp)
       rw[←hG]at b1 x1' x2' x3' Q2 hGs
       clear x0' rc' hG
       rw[hGs]at b1
       have g0:g1[h.size]? = some (.cells A.toArray 72):=b1.get (by omega) (by rw[Array.getElem?_setIfInBounds,if_pos rfl,if_pos (by omega)])
       have g1c:=b1.get (k:=h.size+1) (by omega) (by rw[Array.getElem?_setIfInBounds,if_neg (by omega)];exact x1')
       have g2:=b1.get (k:=h.size+2) (by omega) (by rw[Array.getElem?_setIfInBounds,if_neg (by omega)];exact x2')
       have g3:=b1.get (k:=h.size+3) (by omega) (by rw[Array.getElem?_setIfInBounds,if_neg (by omega)];exact x3')
       have gs:h.size+6≤g1.size:=by have:=b1.size;rw[Array.size_setIfInBounds,hGs]at this;exact this
       have gB:Zf h.size h g1:=(Q2.Zj (Nat.le_refl _) _).trans (b1.mono (by omega))
       clear b1 Q2 x1' x2' x3' hGs
       have gc:hc g1 ⟨h.size+1,1,none⟩=some (.int .i64 c):=by rw[Zg g1c];rfl
       have wa:=ZQ g0 (16+c*2) [.int .i64 0,.int .i64 a]
       rw[if_pos ⟨by simp only[List.length_cons,List.length_nil];omega,rfl⟩,ZaP,ZaP]at wa
       have wa:wr g1 ⟨h.size,16+c*2,none⟩ [.int .i64 0,.int .i64 a]=some (g1.setIfInBounds h.size (.cells ((A.set (16+c*2) (.int .i64 0)).set (16+c*2+1) (.int .i64 a)).toArray 72)):=by rw[wa];simp[Yq]
       simp -implicitDefEqProofs only[go_sem,↓reduceIte,gc,cc,wa]
       obtain⟨D,hD⟩:=Zx ((A.set (16+c*2) (.int .i64 0)).set (16+c*2+1) (.int .i64 a))
       have hfD:Yt XY D=true:=by rw[hD];exact Ud _ _ (Ud _ _ ZAN (Qd (by omega) _)) (Qd (by omega) _)
       have ZvD:D.length=40:=YL hfD
       have ZAO:=Zgf hfD
       have tkD:=Xi ZvD
       rw[←hD]at ed ⊢
       obtain⟨G,hG⟩:=Zx ((g1.setIfInBounds h.size (.cells D.toArray 72)).push (.cells [.int .i64 0,.int .i64 a].toArray 68):Hp)
       have n0:G[h.size]? = some (.cells D.toArray 72):=by rw[hG];simp only[Array.getElem?_push,Array.size_setIfInBounds,Array.getElem?_setIfInBounds,IntWalk.iteOmega,↓reduceIte]
       have n2:G[h.size+2]? = some (.cells Jx.toArray 72):=by rw[hG];simp only[Array.getElem?_push,Array.size_setIfInBounds,Array.getElem?_setIfInBounds,IntWalk.iteOmega,↓reduceIte];exact g2
       have n3:G[h.size+3]? = some (.cells [.int .i64 0,.int .i64 0].toArray 68):=by rw[hG];simp only[Array.getElem?_push,Array.size_setIfInBounds,Array.getElem?_setIfInBounds,IntWalk.iteOmega,↓reduceIte];exact g3
       have n6:G[g1.size]? = some (.cells [.int .i64 0,.int .i64 a].toArray 68):=by rw[hG];simp only[Array.getElem?_push,Array.size_setIfInBounds,IntWalk.iteOmega,↓reduceIte]
       have nB:Zf h.size h G:=by rw[hG];exact (gB.Zj (Nat.le_refl _) _).Ye (by simp;omega) _
       have nS:G.size=g1.size+1:=by rw[hG];simp
       rw[←hG]
       have rA:=Zo n0 ZvD
       have rB:=Zo n6 (n:=2) rfl
       obtain⟨w2,w3⟩:=fin G D 0 a ZvD ZAO n2 n3
       refine VS.w (h.size+1) [2,3,4] (.q 0 (.or 1 (.w 2 (.w 3 (.w 4 .nil))) (.s 2 (.s 1 (.w 3 (.w 4 .nil)))))) mixed (by kernel_rfl) ?_
       have z1:h.size<h.size+1:=by omega
       have z2:h.size+1+1<G.size:=by omega
       have z3:h.size+1+1+1<G.size:=by omega
       simp -implicitDefEqProofs only[go_sem,↓reduceIte,rA,rB,w2,w3,ZvD,tkD,z1,z2,z3,ed]
       exact⟨Zp6 G _ _ nB,Zp6 G _ _ nB⟩
  ·simp +contextual -implicitDefEqProofs only[go_sem,↓reduceIte,e2]
   refine⟨rfl,?_⟩
   (repeat' (first|exact Zf.refl _ _|assumption|refine Zf.add ?_ _|refine Zf.Zj ?_ (by first|omega|(simp;omega)) _|refine Zf.trans (by assumption) ?_))
theorem ZsX {g:Hp} {b:Nat} {o o':Obj} (hx:g[b]? = some o'):(g.setIfInBounds b o)[b]? = some o:=by rw[Array.getElem?_setIfInBounds,if_pos rfl,if_pos (Za hx)]
def vt0:Vt:=⟨0,⟨0,0⟩,0,0,0,0,0⟩
def Zjm (v:Vt):List Value:=[.int .i64 v.k,.int .i64 v.c,.int .i64 v.s,.int .i64 v.nm,.int .i64 v.v]
def Ql (slot:Int) (ZAP v:Vt):Vt:=if v.slot=slot∧below ZAP.b v.b then v else ZAP
def QR (slot:Int) (l:List Vt):Vt:=l.foldl (Ql slot) vt0
def QS (l:List Vt):Bool:=l.all fun v=>decide (Z5 v)
def Zaq (slot:Int) (l:List Vt):Int:=if slot<0∨39<slot then 2 else if QS l=true then 0 else 5
def Zjn (v':Value) (slot:Int) (l:List Vt):Prop:=
 v'=.tuple [.agg (Zjm (if Zaq slot l=0 then QR slot l else vt0)).toArray,.bool (if Zaq slot l=0 then decide (0<(QR slot l).b.r) else false),.int .i64 (Zaq slot l)].toArray
def Vss (h:Hp) (v:Value) (LL:List (List Vt)):Prop:=∃p c,v=.slice p LL.length c∧(LL≠[]→∃b o,p=some ⟨b,o,none⟩∧b<h.size∧∀i (hi:i<LL.length),∃w,hc h ⟨b,o+i,none⟩=some w∧Ts Zm 8 h w LL[i]∧LL[i].length≤2199023255552)
theorem Zp7 (LL:List (List Vt)) (i:Nat) (hi:i<LL.length):(LL.take (i+1)).flatten=(LL.take i).flatten++LL[i]:=by
 rw[Yi LL i hi,List.flatten_append,List.flatten_singleton]
theorem Znc (a b:List Vt):QS (a++b)=(QS a&&QS b):=by simp[QS]
theorem Zjo {l:List Vt} {v:Vt} (hv:v∈l) (hm:¬Z5 v):QS l=false:=by
 rw[QS,List.all_eq_false]
 exact⟨v,hv,by simpa using hm⟩
set_option maxHeartbeats 1000000 in
theorem ZvE (T:World) (h:Hp) (u:Value) (LL:List (List Vt)) (slot:Int) (s:Vss h u LL) (hL:LL.length≤4611686018427387904) :
  Zd Tryz.prog T 126 #[u,.int .i64 slot] h fun v' h'=>Zjn v' slot LL.flatten∧Zf h.size h h':=by
 have hpe:Zaq slot LL.flatten=if slot<0∨39<slot then 2 else if QS LL.flatten=true then 0 else 5:=rfl
 obtain⟨p,c,rfl,YR⟩:=s
 refine Zd.XM (args:=[_,_]) Tryz.func126 rfl rfl rfl rfl ?_
 unfold Zjn
 by_cases q1:slot<0
 ·rw[if_pos (.inl q1)]at hpe
  simp -implicitDefEqProofs only[go_sem,↓reduceIte,q1,hpe]
  rfl
 ·by_cases q2:39<slot
  ·rw[if_pos (.inr q2)]at hpe
   have q2':40≤slot:=by omega
   simp -implicitDefEqProofs only[go_sem,↓reduceIte,q1,q2',hpe]
   rfl
  ·rw[if_neg (by omega)]at hpe
   have q2':¬40≤slot:=by omega
   simp -implicitDefEqProofs only[go_sem,↓reduceIte,q1,q2']
   obtain⟨H,hH⟩:=Zx ((h.push (.cells #[.int .i64 0,.int .i64 0,.int .i64 0,.int .i64 0,.int .i64 0] 77)).push (.cells #[.int .i64 0,.int .i64 0,.int .i64 0,.int .i64 0,.int .i64 0,.int .i64 0,.int .i64 0,.int .i64 0] 96):Hp)
   have HB:Zf h.size h H:=by rw[hH];(repeat' (first|exact Zf.refl _ _|assumption|refine Zf.add ?_ _|refine Zf.Zj ?_ (by first|omega|(simp;omega)) _|refine Zf.trans (by assumption) ?_))
   have HZ:H[h.size]? = some (.cells (Zjm vt0).toArray 77):=by rw[hH,Zq (by simp),Zb];rfl
   have HV:H[h.size+1]? = some (.cells (Zm vt0).toArray 96):=by
    have:=Zb (h:=h.push (.cells #[.int .i64 0,.int .i64 0,.int .i64 0,.int .i64 0,.int .i64 0] 77)) (o:=.cells #[.int .i64 0,.int .i64 0,.int .i64 0,.int .i64 0,.int .i64 0,.int .i64 0,.int .i64 0,.int .i64 0] 96)
    rw[Array.size_push]at this
    rw[hH,this];rfl
   rw[←hH]
   clear hH
   have wz:∀g:Hp,g[h.size]? = some (.cells (Zjm vt0).toArray 77)→∀w:List Value,w.length=5→w.all Z8=true→wr g ⟨h.size,0,none⟩ w=some (g.setIfInBounds h.size (.cells w.toArray 77)):=by
    intro g hg w h5 h1
    rw[ZQ hg 0 w,ZN (by rw[h5];rfl),if_pos ⟨by rw[h5];exact Nat.le_refl _,h1⟩]
   refine VS.ZW (fun F g=>F 1=.int .i64 slot∧F 4=.pointer (some ⟨h.size,0,none⟩)∧F 7=.pointer (some ⟨h.size+1,0,none⟩)∧F 19=.slice p LL.length c∧F 20=.int .i64 LL.length∧Zf h.size h g∧g[h.size]? = some (.cells (Zjm vt0).toArray 77)∧∃i:Nat,i≤LL.length∧F 21=.int .i64 i∧g[h.size+1]? = some (.cells (Zm (QR slot (LL.take i).flatten)).toArray 96)∧QS (LL.take i).flatten=true)
    (fun F _=>LL.length-(vi (F 21)).toNat) rfl ⟨rfl,rfl,rfl,rfl,rfl,HB,HZ,0,by omega,rfl,HV,rfl⟩ ?_
   clear HB HZ HV H
   rintro F g ⟨f1,f4,f7,f19,f20,hg,gZ,i,hi,f21,gV,YU⟩
   have zV:=Za gV
   by_cases ZD:i<LL.length
   ·have ZL:(i:Int)<LL.length:=by omega
    obtain⟨bb,oo,rfl,hbb,YR⟩:=YR (by intro e;rw[e]at ZD;simp at ZD)
    obtain⟨w,hw,tw,hwl⟩:=YR i ZD
    have hw':V.hc g ⟨bb,oo+i,none⟩=some w:=by rw[hg.hc (by exact hbb)];exact hw
    have Zw7:=Zp7 LL i ZD
    have ZsY:LL[i]∈LL:=List.getElem_mem ZD
    obtain⟨L,hLi⟩:=Zx (LL[i])
    rw[←hLi]at tw hwl Zw7 ZsY
    obtain⟨pw,cw,rfl,hwc⟩:=QP tw
    simp -implicitDefEqProofs only[go_sem,↓reduceIte,f1,f4,f7,f19,f20,f21,ZL,Int.toNat_natCast,hw']
    refine VS.ZW (fun F g=>F 1=.int .i64 slot∧F 4=.pointer (some ⟨h.size,0,none⟩)∧F 7=.pointer (some ⟨h.size+1,0,none⟩)∧F 19=.slice (some ⟨bb,oo,none⟩) LL.length c∧F 20=.int .i64 LL.length∧F 21=.int .i64 i∧F 25=.slice pw L.length cw∧F 26=.int .i64 L.length∧Zf h.size h g∧g[h.size]? = some (.cells (Zjm vt0).toArray 77)∧∃j:Nat,j≤L.length∧F 27=.int .i64 j∧g[h.size+1]? = some (.cells (Zm (QR slot ((LL.take i).flatten++L.take j))).toArray 96)∧QS ((LL.take i).flatten++L.take j)=true)
     (fun F _=>L.length-(vi (F 27)).toNat) rfl ⟨f1,f4,f7,f19,f20,f21,rfl,rfl,hg,gZ,0,by omega,rfl,by rw[List.take_zero,List.append_nil];exact gV,by rw[List.take_zero,List.append_nil];exact YU⟩ ?_
    clear f1 f4 f7 f19 f20 f21 F hg gZ gV YU zV hw'
    rintro F g ⟨f1,f4,f7,f19,f20,f21,f25,f26,hg,gZ,j,hj,f27,gV,YU⟩
    have zV:=Za gV
    by_cases hlj:j<L.length
    ·have ZFX:(j:Int)<L.length:=by omega
     obtain⟨b2,o2,rfl,hb2,_,hwc⟩:=hwc (by intro e;rw[e]at hlj;simp at hlj)
     have r1:rd g ⟨b2,o2+j*8,none⟩ 8=some (Zm L[j]):=by rw[JP hg (by exact hb2)];exact hwc j hlj
     have hsn:(LL.take i).flatten++L.take (j+1)=((LL.take i).flatten++L.take j)++[L[j]]:=by rw[Yi L j hlj,List.append_assoc]
     have Zw8:L[j]∈LL.flatten:=List.mem_flatten.2 ⟨L,ZsY,List.getElem_mem hlj⟩
     obtain⟨v,hv⟩:=Zx (L[j])
     rw[←hv]at r1 hsn Zw8
     have XL:QR slot ((LL.take i).flatten++L.take (j+1))=Ql slot (QR slot ((LL.take i).flatten++L.take j)) v:=by
      rw[hsn];unfold QR;rw[List.foldl_append];rfl
     have hm':QS ((LL.take i).flatten++L.take (j+1))=decide (Z5 v):=by rw[hsn,Znc,YU,Bool.true_and];simp[QS]
     obtain⟨B,hB⟩:=Zx (QR slot ((LL.take i).flatten++L.take j))
     rw[←hB]at gV XL
     unfold Zm at r1
     simp -implicitDefEqProofs only[go_sem,↓reduceIte,f1,f4,f7,f19,f20,f21,f25,f26,f27,ZFX,Int.toNat_natCast,r1]
     refine (ZfJ T _ v).use ?_
     rintro _ g1 ⟨rfl,b1⟩
     have hgp:Zf g.size g g1:=(Zf.push (Nat.le_refl _) _).trans (b1.mono (by simp))
     have y0:g1[g.size]? = some (.cells (Zm v).toArray 96):=b1.get (by simp) Zb
     have z1:=hgp.size
     have hg1:=hg.trans (hgp.mono hg.size)
     have gZ1:=hgp.get (Za gZ) gZ
     have gV1:=hgp.get zV gV
     have z0:=Za y0
     by_cases c1:Z5 v
     ·rw[decide_eq_true c1]at hm'
      have y1:V.hc g1 ⟨g.size,0,none⟩=some (.int .i64 v.slot):=by rw[Zg y0];rfl
      have y2:rd g1 ⟨g.size,1,none⟩ 2=some (X6 v.b):=by rw[Z4 y0 (by simp[Zm])];rfl
      have y3:rd g1 ⟨h.size+1,1,none⟩ 2=some (X6 B.b):=by rw[Z4 gV1 (by simp[Zm])];rfl
      by_cases c2:v.slot=slot
      ·simp -implicitDefEqProofs only[go_sem,↓reduceIte,f1,f4,f7,f19,f20,f21,f25,f26,f27,c1,y1,c2,y2,y3]
       refine (UR T _ v.b B.b).use ?_
       rintro _ g2 ⟨rfl,b2'⟩
       have z2:=b2'.size
       have QF:=hg1.trans (b2'.mono hg1.size)
       have gZ2:=b2'.get (Za gZ1) gZ1
       have gV2:=b2'.get (Za gV1) gV1
       have y02:=b2'.get z0 y0
       by_cases c3:below B.b v.b
       ·have c3':=(ZaX v.b B.b).2 c3
        have rV:=Zo y02 (n:=8) rfl
        have wV:=ZQ gV2 0 (Zm v)
        rw[ZN (by simp[Zm]),if_pos ⟨by simp[Zm],rfl⟩]at wV
        have hpk:Ql slot B v=v:=by unfold Ql;rw[if_pos ⟨c2,c3⟩]
        rw[hpk]at XL
        unfold Zm at rV wV
        simp -implicitDefEqProofs only[go_sem,↓reduceIte,f1,f4,f7,f19,f20,f21,f25,f26,f27,c3',rV,wV]
        refine⟨⟨f1,f4,f7,f19,f20,f21,f25,f26,QF.Zj (by omega) _,?_,j+1,hlj,rfl,?_,hm'⟩,?_⟩
        ·rw[Array.getElem?_setIfInBounds,if_neg (by omega)];exact gZ2
        ·rw[XL];exact ZsX gV2
        ·simp only[vi,Zk,↓reduceIte,f27];omega
       ·have c3':¬0<Zet v.b B.b:=fun h=>c3 ((ZaX v.b B.b).1 h)
        have hpk:Ql slot B v=B:=by unfold Ql;rw[if_neg (fun h=>c3 h.2)]
        rw[hpk]at XL
        simp -implicitDefEqProofs only[go_sem,↓reduceIte,f1,f4,f7,f19,f20,f21,f25,f26,f27,c3']
        refine⟨⟨f1,f4,f7,f19,f20,f21,f25,f26,QF,gZ2,j+1,hlj,rfl,?_,hm'⟩,?_⟩
        ·rw[XL];exact gV2
        ·simp only[vi,Zk,↓reduceIte,f27];omega
      ·have hpk:Ql slot B v=B:=by unfold Ql;rw[if_neg (fun h=>c2 h.1)]
       rw[hpk]at XL
       simp -implicitDefEqProofs only[go_sem,↓reduceIte,f1,f4,f7,f19,f20,f21,f25,f26,f27,c1,y1,c2]
       refine⟨⟨f1,f4,f7,f19,f20,f21,f25,f26,hg1,gZ1,j+1,hlj,rfl,?_,hm'⟩,?_⟩
       ·rw[XL];exact gV1
       ·simp only[vi,Zk,↓reduceIte,f27];omega
     ·have hf:=Zjo Zw8 c1
      rw[hf,if_neg (by decide)]at hpe
      have wz1:=wz g1 gZ1 [.int .i64 0,.int .i64 0,.int .i64 0,.int .i64 0,.int .i64 0] rfl rfl
      have zl:=Za gZ1
      simp -implicitDefEqProofs only[go_sem,↓reduceIte,f1,f4,f7,c1,wz1,zl,hpe]
      exact⟨rfl,hg1.Zj (Nat.le_refl _) _⟩
    ·have ZFY:¬(j:Int)<L.length:=by omega
     obtain rfl:j=L.length:=by omega
     rw[List.take_length,←Zw7]at gV YU
     simp -implicitDefEqProofs only[go_sem,↓reduceIte,f1,f4,f7,f19,f20,f21,f25,f26,f27,ZFY]
     refine⟨⟨f1,f4,f7,f19,f20,hg,gZ,i+1,ZD,rfl,gV,YU⟩,?_⟩
     simp only[vi,Zk,↓reduceIte,f21];omega
   ·have YK:¬(i:Int)<LL.length:=by omega
    obtain rfl:i=LL.length:=by omega
    rw[List.take_length]at gV YU
    rw[YU,if_pos rfl]at hpe
    rw[hpe,if_pos rfl,if_pos rfl]
    obtain⟨B,hB⟩:=Zx (QR slot LL.flatten)
    rw[←hB]at gV ⊢
    have r1:rd g ⟨h.size+1,3,none⟩ 5=some (Zjm B):=by rw[Z4 gV (by simp[Zm])];rfl
    have r2:V.hc g ⟨h.size+1,1,none⟩=some (.int .i64 B.b.r):=by rw[Zg gV];rfl
    have wB:=wz g gZ (Zjm B) rfl rfl
    have zl:=Za gZ
    unfold Zjm at r1 wB ⊢
    simp -implicitDefEqProofs only[go_sem,↓reduceIte,f1,f4,f7,f19,f20,f21,YK]
    refine VS.w (h.size) [] (.q 0 (.q 2 (.q 3 (.or 1 (.or 4 (.q 5 (.s 6 (.q 7 (.q 8 .nil)))) (.s 6 (.s 4 (.q 5 (.q 7 (.q 8 .nil)))))) (.s 4 (.q 5 (.s 1 (.s 6 (.q 7 (.q 8 .nil)))))))))) mixed (by kernel_rfl) ?_
    simp -implicitDefEqProofs only[go_sem,↓reduceIte,f4,f7,r1,r2,wB,zl]
    have Znd:=hg.Zj (Nat.le_refl _) (.cells #[.int .i64 B.k,.int .i64 B.c,.int .i64 B.s,.int .i64 B.nm,.int .i64 B.v] 77)
    exact⟨⟨Znd,Znd⟩,Znd⟩
end Go.Proofs.YtnhbpmoeaodmnaaGreatDoor
