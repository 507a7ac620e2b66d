/- Ballots and votes: what the small functions compute; no condition but those in the statements. -/
import Derived.Test.YtpomedigibbeeaaGreatDoorVst
import Derived.Test.YtpomedigibbeeaaGreatDoorW13
import Derived.Test.YtpomedigibbeeaaGreatDoorLchks
namespace Go.Proofs.YtpomedigibbeeaaGreatDoor
open Go Go.V
set_option linter.unusedSimpArgs false
set_option linter.unusedVariables false
set_option maxRecDepth 100000
structure XL where
 r:Int
 n:Int
structure Vt where
 slot:Int
 b:XL
 k:Int
 c:Int
 s:Int
 nm:Int
 v:Int
def X1 (b:XL):List Value:=[.int .i64 b.r,.int .i64 b.n]
def Zm (v:Vt):List Value:=[.int .i64 v.slot,.int .i64 v.b.r,.int .i64 v.b.n,.int .i64 v.k,.int .i64 v.c,.int .i64 v.s,.int .i64 v.nm,.int .i64 v.v]
def ZS (b:XL):Prop:=(1≤b.r∧b.r≤65536)∧(0≤b.n∧b.n≤4)
instance (b:XL):Decidable (ZS b):=by unfold ZS;infer_instance
def Z9 (v:Vt):Prop:=(0≤v.slot∧v.slot≤39)∧ZS v.b∧YJ v.k v.c v.s v.nm v.v=0
instance (v:Vt):Decidable (Z9 v):=by unfold Z9;infer_instance
def below (a b:XL):Prop:=a.r<b.r∨(a.r=b.r∧a.n<b.n)
instance (a b:XL):Decidable (below a b):=by unfold below;infer_instance
def Su (a b:Int):Int:=if a<b then -1 else if b<a then 1 else 0
def Oo (a b:XL):Int:=if Su a.r b.r=0 then Su a.n b.n else Su a.r b.r
theorem Ve (a b:XL):0<Oo a b↔below b a:=by
 unfold Oo Su below
 repeat' split
 all_goals omega
theorem Pe (a b:XL):Oo a b<0↔below a b:=by
 unfold Oo Su below
 repeat' split
 all_goals omega
theorem Ea (T:World) (h:Hp) (a:Int):Zc Tryz.prog T 144 #[.int .i64 a] h fun v' h'=>v'=.bool false∧h'=h:=by
 refine Zc.Zh (args:=[_]) Tryz.func144 rfl rfl rfl rfl ?_
 simp -implicitDefEqProofs only[go_sem,↓reduceIte]
theorem Wz (T:World) (h:Hp) (a b:Int):Zc Tryz.prog T 129 #[.int .i64 a,.int .i64 b] h fun v' h'=>v'=.int .i64 (Su a b)∧h'=h:=by
 refine Zc.Zh (args:=[_,_]) Tryz.func129 rfl rfl rfl rfl ?_
 simp -implicitDefEqProofs only[go_sem,↓reduceIte]
 refine (Ea T _ _).pure ?_
 simp -implicitDefEqProofs only[go_sem,↓reduceIte]
 refine (Ea T _ _).pure ?_
 unfold Su
 by_cases q1:a<b
 ·simp -implicitDefEqProofs only[go_sem,↓reduceIte,q1]
 ·by_cases q2:b<a
  ·simp -implicitDefEqProofs only[go_sem,↓reduceIte,q1,q2]
  ·simp -implicitDefEqProofs only[go_sem,↓reduceIte,q1,q2]
theorem kD (T:World) (h:Hp) (b:Nat) (x y:Int) (h0:hc h ⟨b,0,none⟩=some (.int .i64 x)) (h1:hc h ⟨b,1,none⟩=some (.int .i64 y)):Zc Tryz.prog T 143 #[.slice (some ⟨b,0,none⟩) 2 2] h fun v' h'=>v'=.int .i64 (if x=0 then y else x)∧h'=h:=by
 refine Zc.Zh (args:=[_]) Tryz.func143 rfl rfl rfl rfl ?_
 simp -implicitDefEqProofs only[go_sem,↓reduceIte]
 refine VS.rounds 3 rfl ?_
 by_cases q1:x=0
 ·by_cases q2:y=0
  ·simp -implicitDefEqProofs only[go_sem,↓reduceIte,h0,h1,q1,q2,Int.reduceAdd]
  ·simp -implicitDefEqProofs only[go_sem,↓reduceIte,h0,h1,q1,q2,Int.reduceAdd]
 ·simp -implicitDefEqProofs only[go_sem,↓reduceIte,h0,h1,q1]
theorem Vf (T:World) (h:Hp) (b:XL):Zc Tryz.prog T 123 #[.agg (X1 b).toArray] h fun v' h'=>v'=.bool (decide (ZS b))∧h'=h.push (.cells (X1 b).toArray 102):=by
 refine Zc.Zh (args:=[_]) Tryz.func123 rfl rfl rfl rfl ?_
 unfold X1
 by_cases q1:1≤b.r
 ·by_cases q2:b.r≤65536
  ·by_cases q3:0≤b.n
   ·by_cases q4:b.n<5
    ·have e:ZS b:=⟨⟨q1,q2⟩,q3,by omega⟩
     simp -implicitDefEqProofs only[go_sem,↓reduceIte,q1,q2,q3,q4,e]
    ·have e:¬ZS b:=by unfold ZS;omega
     simp -implicitDefEqProofs only[go_sem,↓reduceIte,q1,q2,q3,q4,e]
   ·have e:¬ZS b:=by unfold ZS;omega
    simp -implicitDefEqProofs only[go_sem,↓reduceIte,q1,q2,q3,e]
  ·have e:¬ZS b:=by unfold ZS;omega
   simp -implicitDefEqProofs only[go_sem,↓reduceIte,q1,q2,e]
 ·have e:¬ZS b:=by unfold ZS;omega
  simp -implicitDefEqProofs only[go_sem,↓reduceIte,q1,e]
theorem UL (T:World) (h:Hp) (a b:XL):Zc Tryz.prog T 124 #[.agg (X1 a).toArray,.agg (X1 b).toArray] h fun v' h'=>v'=.int .i64 (Oo a b)∧Zf h.size h h':=by
 refine Zc.Zh (args:=[_,_]) Tryz.func124 rfl rfl rfl rfl ?_
 unfold X1
 simp -implicitDefEqProofs only[go_sem,↓reduceIte]
 refine VS.w (h.size+2) [] (.q 0 (.q 1 (.q 2 (.q 3 (.q 5 (.q 6 (.q 7 (.q 8 (.s 4 (.s 9 (.s 10 (.s 11 (.q 12 .nil))))))))))))) mixed (by kernel_rfl) ?_
 simp -implicitDefEqProofs only[go_sem,↓reduceIte]
 refine (Wz T _ _ _).pure ?_
 simp -implicitDefEqProofs only[go_sem,↓reduceIte]
 refine (Wz T _ _ _).pure ?_
 simp -implicitDefEqProofs only[go_sem,↓reduceIte]
 refine⟨(Zf.refl _ _).Yf (by simp) _,?_⟩
 refine (kD T _ _ (Su a.r b.r) (Su a.n b.n) ?_ ?_).pure ?_
 ·simp -implicitDefEqProofs only[go_sem,↓reduceIte]
 ·simp -implicitDefEqProofs only[go_sem,↓reduceIte]
 unfold Oo
 simp -implicitDefEqProofs only[go_sem,↓reduceIte]
 refine⟨(Zf.refl _ _).Yf (by simp) _,?_⟩
 (repeat' (first|exact Zf.refl _ _|assumption|refine Zf.add ?_ _|refine Zf.Zk ?_ (by first|omega|(simp;omega)) _|refine Zf.trans (by assumption) ?_))
theorem Mn (T:World) (h:Hp) (v:Vt):Zc Tryz.prog T 126 #[.agg (Zm v).toArray] h fun v' h'=>v'=.bool (decide (Z9 v))∧Zf h.size h h':=by
 refine Zc.Zh (args:=[_]) Tryz.func126 rfl rfl rfl rfl ?_
 unfold Zm
 by_cases q1:0≤v.slot
 ·by_cases q2:v.slot<40
  ·simp -implicitDefEqProofs only[go_sem,↓reduceIte,q1,q2]
   refine (Vf T _ v.b).use ?_
   rintro _ _ ⟨rfl,rfl⟩
   unfold X1
   by_cases q3:ZS v.b
   ·simp -implicitDefEqProofs only[go_sem,↓reduceIte,q3]
    refine (JO T _ v.k v.c v.s v.nm v.v).use ?_
    rintro _ _ ⟨rfl,rfl⟩
    by_cases q4:YJ v.k v.c v.s v.nm v.v=0
    ·have e:Z9 v:=⟨⟨q1,by omega⟩,q3,q4⟩
     simp -implicitDefEqProofs only[go_sem,↓reduceIte,q4,e]
     (repeat' (first|exact Zf.refl _ _|assumption|refine Zf.add ?_ _|refine Zf.Zk ?_ (by first|omega|(simp;omega)) _|refine Zf.trans (by assumption) ?_))
    ·have e:¬Z9 v:=fun h=>q4 h.2.2
     simp -implicitDefEqProofs only[go_sem,↓reduceIte,q4,e]
     (repeat' (first|exact Zf.refl _ _|assumption|refine Zf.add ?_ _|refine Zf.Zk ?_ (by first|omega|(simp;omega)) _|refine Zf.trans (by assumption) ?_))
   ·have e:¬Z9 v:=fun h=>q3 h.2.1
    simp -implicitDefEqProofs only[go_sem,↓reduceIte,q3,e]
  ·have e:¬Z9 v:=by unfold Z9;omega
   simp -implicitDefEqProofs only[go_sem,↓reduceIte,q1,q2,e]
 ·have e:¬Z9 v:=by unfold Z9;omega
  simp -implicitDefEqProofs only[go_sem,↓reduceIte,q1,e]
theorem QG {h:Hp} {v:Value} {l:List Vt} (s:Ts Zm 8 h v l):∃p cap,v=.slice p l.length cap∧(l≠[]→∃b o,p=some ⟨b,o,none⟩∧b<h.size∧(∀i (hi:i<l.length),hc h ⟨b,o+i*8,none⟩=some (.int .i64 l[i].slot))∧∀i (hi:i<l.length),rd h ⟨b,o+i*8,none⟩ 8=some (Zm l[i])):=by
 obtain⟨p,cap,hv,Uo⟩:=Ts.open (enc:=Zm) (n:=8) (fun _=>rfl) (by decide) s
 refine⟨p,cap,hv,fun Yq=>?_⟩
 obtain⟨b,o,hp,hb,YL⟩:=Uo Yq
 exact⟨b,o,hp,hb,fun i hi=>(YL i hi).hc (i:=0) rfl,fun i hi=>(YL i hi).rd (by simp[Zm]) rfl⟩
def Oq (l:List Vt) (j:Nat):Int:=((l[j]?).map (·.slot)).getD (-1)
def WB (l:List Vt) (i:Nat):Int:=if i=0 then -1 else Oq l (i-1)
def VI (p:XL) (l:List Vt) (i:Nat):Bool:=match l[i]? with
 | some v=>decide (Z9 v∧¬below p v.b∧(i=0∨Oq l (i-1)<v.slot))
 | none=>true
def XC (p:XL) (l:List Vt):Int:=if ¬ZS p∧¬(p.r=0∧p.n=0) then 5 else if (List.range l.length).all (VI p l)=true then 0 else 5
theorem Ot {l:List Vt} {j:Nat} (hj:j<l.length):Oq l j=l[j].slot:=by
 unfold Oq;rw[List.getElem?_eq_getElem hj];rfl
theorem Lw {p:XL} {l:List Vt} {i:Nat} (hi:i<l.length):VI p l i=true↔Z9 l[i]∧¬below p l[i].b∧(i=0∨Oq l (i-1)<l[i].slot):=by
 unfold VI
 rw[List.getElem?_eq_getElem hi]
 simp only[decide_eq_true_eq]
theorem IM {p:XL} {l:List Vt} {i:Nat} (hi:i<l.length):VI p l i=true↔Z9 l[i]∧¬below p l[i].b∧WB l i<l[i].slot:=by
 rw[Lw hi]
 unfold WB
 by_cases h0:i=0
 ·rw[if_pos h0]
  constructor
  ·rintro⟨h1,h2,_⟩;exact⟨h1,h2,by have:=h1.1.1;omega⟩
  ·rintro⟨h1,h2,_⟩;exact⟨h1,h2,.inl h0⟩
 ·rw[if_neg h0]
  constructor
  ·rintro⟨h1,h2,h3⟩;exact⟨h1,h2,h3.resolve_left h0⟩
  ·rintro⟨h1,h2,h3⟩;exact⟨h1,h2,.inr h3⟩
theorem Nc {p:XL} {l:List Vt} (hp:¬(¬ZS p∧¬(p.r=0∧p.n=0))) (hg:∀j,j<l.length→VI p l j=true):XC p l=0:=by
 unfold XC
 rw[if_neg hp,if_pos (List.all_eq_true.2 fun i hi=>hg i (List.mem_range.1 hi))]
theorem QH {p:XL} {l:List Vt} {i:Nat} (hi:i<l.length) (hb:VI p l i=false):XC p l=5:=by
 unfold XC
 split
 ·rfl
 ·rw[if_neg]
  intro h
  have:=List.all_eq_true.1 h i (List.mem_range.2 hi)
  rw[hb]at this;cases this
def YB (p:XL) (v:Value):List Value:=[.int .i64 p.r,.int .i64 p.n,v]
theorem SK (T:World) (h:Hp) (p:XL) (u:Value) (l:List Vt) (s:Ts Zm 8 h u l) (hlen:l.length≤4611686018427387904) :
  Zc Tryz.prog T 122 #[.agg (YB p u).toArray] h fun v' h'=>v'=.int .i64 (XC p l)∧Zf h.size h h':=by
 obtain⟨pv,cv,rfl,YL⟩:=QG s
 refine Zc.Zh (args:=[_]) Tryz.func122 rfl rfl rfl rfl ?_
 unfold YB
 by_cases z:p.r=0∧p.n=0
 ·obtain⟨z1,z2⟩:=z
  have Hq:¬(¬ZS p∧¬(p.r=0∧p.n=0)):=fun h=>h.2 ⟨z1,z2⟩
  simp -implicitDefEqProofs only[go_sem,↓reduceIte,z1,z2]
  obtain⟨H,hH⟩:=Zy (h.push (.cells [.int .i64 0,.int .i64 0,.slice pv l.length cv].toArray 105):Hp)
  have x0:H[h.size]? = some (.cells (YB p (.slice pv l.length cv)).toArray 105):=by rw[hH];unfold YB;rw[z1,z2];exact Zb
  have Bk:Zf h.size h H:=by rw[hH];(repeat' (first|exact Zf.refl _ _|assumption|refine Zf.add ?_ _|refine Zf.Zk ?_ (by first|omega|(simp;omega)) _|refine Zf.trans (by assumption) ?_))
  rw[←hH]
  clear hH
  have hz:=Za x0
  refine VS.ZV (fun F g=>Zf H.size H g∧F 1=.pointer (some ⟨h.size,0,none⟩)∧F 17=.slice pv l.length cv∧F 18=.int .i64 l.length∧∃i:Nat,i≤l.length∧F 19=.int .i64 i∧F 3=.int .i64 (WB l i)∧∀j,j<i→VI p l j=true)
   (fun F _=>l.length-(vi (F 19)).toNat) rfl ⟨Zf.refl _ _,rfl,rfl,rfl,0,by omega,rfl,rfl,fun j hj=>by omega⟩ ?_
  rintro F g ⟨hg,f1,f17,f18,i,hi,f19,f3,YU⟩
  have SI:=hg.size
  have Gd:Zf h.size h g:=Bk.trans (hg.mono (by omega))
  by_cases ZA:i<l.length
  ·have ZI:(i:Int)<l.length:=by omega
   obtain⟨bb,oo,rfl,UX,Ge,YL⟩:=YL (by intro e;rw[e]at ZA;simp at ZA)
   have ZkA:bb<H.size:=by have:=Bk.size;omega
   have r1:rd g ⟨bb,oo+i*8,none⟩ 8=some (Zm l[i]):=by
    rw[JH Gd (by exact UX)];exact YL i ZA
   have rp:rd g ⟨h.size,0,none⟩ 2=some [.int .i64 p.r,.int .i64 p.n]:=by rw[JH hg (by exact hz),Z3 x0 (by simp[YB])];rfl
   have hsl:=Ot ZA
   have gl:=IM (p:=p) ZA
   obtain⟨v,hv⟩:=Zy (l[i])
   rw[←hv]at r1 gl hsl
   unfold Zm at r1
   have YE:WB l (i+1)=v.slot:=by unfold WB;rw[if_neg (by omega),Nat.add_sub_cancel];exact hsl
   simp -implicitDefEqProofs only[go_sem,↓reduceIte,f1,f17,f18,f19,ZI,r1]
   refine (Mn T _ v).use ?_
   rintro _ g1 ⟨rfl,b1⟩
   have b1s:=b1.size
   simp only[Array.size_push]at b1s
   have y0:g1[g.size]? = some (.cells [.int .i64 v.slot,.int .i64 v.b.r,.int .i64 v.b.n,.int .i64 v.k,.int .i64 v.c,.int .i64 v.s,.int .i64 v.nm,.int .i64 v.v].toArray 146):=b1.get (by simp) Zb
   have y1:hc g1 ⟨g.size,0,none⟩=some (.int .i64 v.slot):=by rw[Zg y0];rfl
   have y2:rd g1 ⟨g.size,1,none⟩ 2=some [.int .i64 v.b.r,.int .i64 v.b.n]:=by rw[Z3 y0 (by simp)];rfl
   have gP:Zf g.size g g1:=(Zf.push (Nat.le_refl _) _).trans (b1.mono (by simp))
   have y3:rd g1 ⟨h.size,0,none⟩ 2=some [.int .i64 p.r,.int .i64 p.n]:=by rw[JH gP (by show h.size<g.size;omega)];exact rp
   have QP:Zf h.size h g1:=Gd.trans (gP.mono (by omega))
   have PY:Zf H.size H g1:=hg.trans (gP.mono (by omega))
   by_cases c1:Z9 v
   ·by_cases c2:v.slot≤WB l i
    ·have e:=QH (p:=p) ZA (by cases Fv:VI p l i with|false=>rfl|true=>exact absurd (gl.1 Fv).2.2 (by omega))
     simp -implicitDefEqProofs only[go_sem,↓reduceIte,f1,f3,c1,c2,y1,e,QP]
    ·simp -implicitDefEqProofs only[go_sem,↓reduceIte,f1,f3,c1,c2,y1,y2,y3]
     refine (UL T _ v.b p).use ?_
     rintro _ g2 ⟨rfl,b2⟩
     have y4:hc g2 ⟨g.size,0,none⟩=some (.int .i64 v.slot):=by rw[b2.hc (by show g.size<g1.size;omega)];exact y1
     have Tn:Zf h.size h g2:=QP.trans (b2.mono (by have:=QP.size;omega))
     have Qt:Zf H.size H g2:=PY.trans (b2.mono (by have:=PY.size;omega))
     by_cases c3:below p v.b
     ·have e:=QH (p:=p) ZA (by cases Fv:VI p l i with|false=>rfl|true=>exact absurd c3 (gl.1 Fv).2.1)
      have kE:=(Ve v.b p).2 c3
      simp -implicitDefEqProofs only[go_sem,↓reduceIte,kE,e,Tn]
     ·have kE:¬0<Oo v.b p:=fun h=>c3 ((Ve v.b p).1 h)
      simp -implicitDefEqProofs only[go_sem,↓reduceIte,kE,f1,f17,f18,f19,y4]
      refine⟨⟨Qt,f1,f17,f18,i+1,ZA,rfl,by rw[YE];rfl,fun j hj=>?_⟩,?_⟩
      ·by_cases U8:j=i
       ·subst U8;exact gl.2 ⟨c1,c3,by omega⟩
       ·exact YU j (by omega)
      ·simp only[vi,Zj,↓reduceIte,f19];omega
   ·have e:=QH (p:=p) ZA (by cases Fv:VI p l i with|false=>rfl|true=>exact absurd (gl.1 Fv).1 c1)
    simp -implicitDefEqProofs only[go_sem,↓reduceIte,c1,e,QP]
  ·have YF:¬(i:Int)<l.length:=by omega
   obtain rfl:i=l.length:=by omega
   have e:=Nc Hq YU
   simp -implicitDefEqProofs only[go_sem,↓reduceIte,f17,f18,f19,YF,e,Gd]
 ·have z':¬p.r=0∨¬p.n=0:=by omega
  by_cases q:ZS p
  ·have Hq:¬(¬ZS p∧¬(p.r=0∧p.n=0)):=fun h=>h.1 q
   have zz:(p.r=0∧p.n=0)=False:=eq_false z
   by_cases z1:p.r=0
   ·have z2:¬p.n=0:=fun e=>z ⟨z1,e⟩
    exact absurd q.1.1 (by omega)
   ·simp -implicitDefEqProofs only[go_sem,↓reduceIte,z1]
    refine (Vf T _ p).use ?_
    rintro _ _ ⟨rfl,rfl⟩
    simp -implicitDefEqProofs only[go_sem,↓reduceIte,q]
    obtain⟨H,hH⟩:=Zy ((h.push (.cells [.int .i64 p.r,.int .i64 p.n,.slice pv l.length cv].toArray 105)).push (.cells (X1 p).toArray 102):Hp)
    have x0:H[h.size]? = some (.cells (YB p (.slice pv l.length cv)).toArray 105):=by rw[hH];simp only[Array.getElem?_push,Array.size_push,IntWalk.iteOmega,↓reduceIte];rfl
    have Bk:Zf h.size h H:=by rw[hH];(repeat' (first|exact Zf.refl _ _|assumption|refine Zf.add ?_ _|refine Zf.Zk ?_ (by first|omega|(simp;omega)) _|refine Zf.trans (by assumption) ?_))
    rw[←hH]
    clear hH
    have hz:=Za x0
    refine VS.ZV (fun F g=>Zf H.size H g∧F 1=.pointer (some ⟨h.size,0,none⟩)∧F 17=.slice pv l.length cv∧F 18=.int .i64 l.length∧∃i:Nat,i≤l.length∧F 19=.int .i64 i∧F 3=.int .i64 (WB l i)∧∀j,j<i→VI p l j=true)
     (fun F _=>l.length-(vi (F 19)).toNat) rfl ⟨Zf.refl _ _,rfl,rfl,rfl,0,by omega,rfl,rfl,fun j hj=>by omega⟩ ?_
    rintro F g ⟨hg,f1,f17,f18,i,hi,f19,f3,YU⟩
    have SI:=hg.size
    have Gd:Zf h.size h g:=Bk.trans (hg.mono (by omega))
    by_cases ZA:i<l.length
    ·have ZI:(i:Int)<l.length:=by omega
     obtain⟨bb,oo,rfl,UX,Ge,YL⟩:=YL (by intro e;rw[e]at ZA;simp at ZA)
     have ZkA:bb<H.size:=by have:=Bk.size;omega
     have r1:rd g ⟨bb,oo+i*8,none⟩ 8=some (Zm l[i]):=by
      rw[JH Gd (by exact UX)];exact YL i ZA
     have rp:rd g ⟨h.size,0,none⟩ 2=some [.int .i64 p.r,.int .i64 p.n]:=by rw[JH hg (by exact hz),Z3 x0 (by simp[YB])];rfl
     have hsl:=Ot ZA
     have gl:=IM (p:=p) ZA
     obtain⟨v,hv⟩:=Zy (l[i])
     rw[←hv]at r1 gl hsl
     unfold Zm at r1
     have YE:WB l (i+1)=v.slot:=by unfold WB;rw[if_neg (by omega),Nat.add_sub_cancel];exact hsl
     simp -implicitDefEqProofs only[go_sem,↓reduceIte,f1,f17,f18,f19,ZI,r1]
     refine (Mn T _ v).use ?_
     rintro _ g1 ⟨rfl,b1⟩
     have b1s:=b1.size
     simp only[Array.size_push]at b1s
     have y0:g1[g.size]? = some (.cells [.int .i64 v.slot,.int .i64 v.b.r,.int .i64 v.b.n,.int .i64 v.k,.int .i64 v.c,.int .i64 v.s,.int .i64 v.nm,.int .i64 v.v].toArray 146):=b1.get (by simp) Zb
     have y1:hc g1 ⟨g.size,0,none⟩=some (.int .i64 v.slot):=by rw[Zg y0];rfl
     have y2:rd g1 ⟨g.size,1,none⟩ 2=some [.int .i64 v.b.r,.int .i64 v.b.n]:=by rw[Z3 y0 (by simp)];rfl
     have gP:Zf g.size g g1:=(Zf.push (Nat.le_refl _) _).trans (b1.mono (by simp))
     have y3:rd g1 ⟨h.size,0,none⟩ 2=some [.int .i64 p.r,.int .i64 p.n]:=by rw[JH gP (by show h.size<g.size;omega)];exact rp
     have QP:Zf h.size h g1:=Gd.trans (gP.mono (by omega))
     have PY:Zf H.size H g1:=hg.trans (gP.mono (by omega))
     by_cases c1:Z9 v
     ·by_cases c2:v.slot≤WB l i
      ·have e:=QH (p:=p) ZA (by cases Fv:VI p l i with|false=>rfl|true=>exact absurd (gl.1 Fv).2.2 (by omega))
       simp -implicitDefEqProofs only[go_sem,↓reduceIte,f1,f3,c1,c2,y1,e,QP]
      ·simp -implicitDefEqProofs only[go_sem,↓reduceIte,f1,f3,c1,c2,y1,y2,y3]
       refine (UL T _ v.b p).use ?_
       rintro _ g2 ⟨rfl,b2⟩
       have y4:hc g2 ⟨g.size,0,none⟩=some (.int .i64 v.slot):=by rw[b2.hc (by show g.size<g1.size;omega)];exact y1
       have Tn:Zf h.size h g2:=QP.trans (b2.mono (by have:=QP.size;omega))
       have Qt:Zf H.size H g2:=PY.trans (b2.mono (by have:=PY.size;omega))
       by_cases c3:below p v.b
       ·have e:=QH (p:=p) ZA (by cases Fv:VI p l i with|false=>rfl|true=>exact absurd c3 (gl.1 Fv).2.1)
        have kE:=(Ve v.b p).2 c3
        simp -implicitDefEqProofs only[go_sem,↓reduceIte,kE,e,Tn]
       ·have kE:¬0<Oo v.b p:=fun h=>c3 ((Ve v.b p).1 h)
        simp -implicitDefEqProofs only[go_sem,↓reduceIte,kE,f1,f17,f18,f19,y4]
        refine⟨⟨Qt,f1,f17,f18,i+1,ZA,rfl,by rw[YE];rfl,fun j hj=>?_⟩,?_⟩
        ·by_cases U8:j=i
         ·subst U8;exact gl.2 ⟨c1,c3,by omega⟩
         ·exact YU j (by omega)
        ·simp only[vi,Zj,↓reduceIte,f19];omega
     ·have e:=QH (p:=p) ZA (by cases Fv:VI p l i with|false=>rfl|true=>exact absurd (gl.1 Fv).1 c1)
      simp -implicitDefEqProofs only[go_sem,↓reduceIte,c1,e,QP]
    ·have YF:¬(i:Int)<l.length:=by omega
     obtain rfl:i=l.length:=by omega
     have e:=Nc Hq YU
     simp -implicitDefEqProofs only[go_sem,↓reduceIte,f17,f18,f19,YF,e,Gd]
  ·have e:XC p l=5:=by unfold XC;rw[if_pos ⟨q,z⟩]
   by_cases z1:p.r=0
   ·have z2:¬p.n=0:=fun e=>z ⟨z1,e⟩
    have hb:=Vf T (h.push (.cells [.int .i64 0,.int .i64 p.n,.slice pv l.length cv].toArray 105)) p
    simp -implicitDefEqProofs only[go_sem,↓reduceIte,z1,z2]
    unfold X1 at hb
    rw[z1]at hb
    refine hb.use ?_
    rintro _ _ ⟨rfl,rfl⟩
    simp -implicitDefEqProofs only[go_sem,↓reduceIte,q,e]
   ·simp -implicitDefEqProofs only[go_sem,↓reduceIte,z1]
    refine (Vf T _ p).use ?_
    rintro _ _ ⟨rfl,rfl⟩
    simp -implicitDefEqProofs only[go_sem,↓reduceIte,q,e]
theorem WC (T:World) (h:Hp) (u:Value) (l:List Vt) (s:Ts Zm 8 h u l) (hl:l.length≤2199023255552) :
  Zc Tryz.prog T 125 #[u] h fun v' h'=>X7 h.size 146 Zm 8 h' v' l∧Zf h.size h h':=by
 obtain⟨p,c,rfl,Uo⟩:=QG s
 refine Zc.Zh (args:=[_]) Tryz.func125 rfl rfl rfl rfl ?_
 cases p with
 | none=>
  have:l=[]:=by
   cases l with
   | nil=>rfl
   | cons x l=>obtain⟨b,o,hp,_⟩:=Uo (by simp);cases hp
  subst this
  simp -implicitDefEqProofs only[go_sem,↓reduceIte]
  exact X7.nil _ _ _ _ _
 | some a=>
  simp -implicitDefEqProofs only[go_sem,↓reduceIte]
  refine Sb (E:=146) (B:=h.size) (n:=8) (bytes:=64) Ty Tryz.underlying103 RX aq rfl ao (fun _=>rfl) (X7.KL _ _ Zm 8 _ _) (by simp) (s.Z7 (Zf.push (Nat.le_refl _) _)) (by simp;omega) (by omega) ?_
  intro v' h' ho hb _
  simp -implicitDefEqProofs only[go_sem,↓reduceIte]
  exact⟨by simpa using ho,(Zf.push (Nat.le_refl _) _).trans hb⟩
def Yu (p:XL) (l:List Vt) (b:XL):Int:=if XC p l≠0 then 5 else if ¬ZS b then 2 else if below b p then 7 else 0
theorem Nf (p:XL) (l:List Vt):XC p l=0∨XC p l=5:=by
 unfold XC
 repeat' split
 all_goals simp
def Eb (B:Nat) (h':Hp) (v':Value) (p:XL) (l:List Vt) (b:XL):Prop:=∃w1 w2,v'=.tuple [.agg (YB (if Yu p l b=0 then b else ⟨0,0⟩) w1).toArray,w2,.int .i64 (Yu p l b)].toArray ∧
 X7 B 146 Zm 8 h' w1 (if Yu p l b=0 then l else [])∧X7 B 146 Zm 8 h' w2 (if Yu p l b=0 then l else [])
theorem VJ (T:World) (h:Hp) (p:XL) (u:Value) (l:List Vt) (b:XL) (s:Ts Zm 8 h u l) (hl:l.length≤2199023255552) :
  Zc Tryz.prog T 103 #[.agg (YB p u).toArray,.agg (X1 b).toArray] h fun v' h'=>Eb h.size h' v' p l b∧Zf h.size h h':=by
 obtain⟨pu,cu,rfl,Uo⟩:=QG s
 refine Zc.XJ (args:=[_,_]) Tryz.func103 rfl rfl rfl rfl ?_
 unfold YB X1
 simp -implicitDefEqProofs only[go_sem,↓reduceIte]
 have Vg:Zf h.size h ((((h.push (.cells [.int .i64 p.r,.int .i64 p.n,.slice pu l.length cu].toArray 105)).push (.cells [.int .i64 b.r,.int .i64 b.n].toArray 102)).push (.cells [.int .i64 0,.int .i64 0,.slice none 0 0].toArray 105))):=by (repeat' (first|exact Zf.refl _ _|assumption|refine Zf.add ?_ _|refine Zf.Zk ?_ (by first|omega|(simp;omega)) _|refine Zf.trans (by assumption) ?_))
 refine (SK T _ p _ l (s.Z7 Vg) (by omega)).use ?_
 rintro _ g1 ⟨rfl,b1⟩
 have x0:g1[h.size]? = some (.cells (YB p (.slice pu l.length cu)).toArray 105):=b1.get (by simp only[Array.size_push];omega) (by simp only[Array.getElem?_push,Array.size_push,IntWalk.iteOmega,↓reduceIte,YB])
 have x1:g1[h.size+1]? = some (.cells [.int .i64 b.r,.int .i64 b.n].toArray 102):=b1.get (by simp only[Array.size_push];omega) (by simp only[Array.getElem?_push,Array.size_push,IntWalk.iteOmega,↓reduceIte])
 have x2:g1[h.size+2]? = some (.cells [.int .i64 0,.int .i64 0,.slice none 0 0].toArray 105):=b1.get (by simp only[Array.size_push];omega) (by simp only[Array.getElem?_push,Array.size_push,IntWalk.iteOmega,↓reduceIte])
 have QP:Zf h.size h g1:=Vg.trans (b1.mono (by simp;omega))
 have z1:=Za x2
 clear b1 Vg
 have fin:∀(G:Hp) (w:List Value),w.length=3→w.all Z6=true→G[h.size+2]? = some (.cells [.int .i64 0,.int .i64 0,.slice none 0 0].toArray 105)→wr G ⟨h.size+1+1,0,none⟩ w=some (G.setIfInBounds (h.size+1+1) (.cells w.toArray 105)):=by
  intro G w h3 h1 hx
  rw[ZP (b:=h.size+1+1) hx 0 w,ZM (by rw[h3];rfl),if_pos ⟨by rw[h3];simp,h1⟩]
 unfold Eb
 rcases Nf p l with e0|e0
 ·have r1:=Zo x1 (n:=2) rfl
  simp -implicitDefEqProofs only[go_sem,↓reduceIte,e0,r1]
  refine (Vf T _ b).use ?_
  rintro _ _ ⟨rfl,rfl⟩
  by_cases q1:ZS b
  ·have rp:rd g1 ⟨h.size,0,none⟩ 2=some [.int .i64 p.r,.int .i64 p.n]:=by rw[Z3 x0 (by simp[YB])];rfl
   have z2:h.size<g1.size:=by omega
   have z3:h.size+1<g1.size:=by omega
   unfold X1
   simp -implicitDefEqProofs only[go_sem,↓reduceIte,q1,r1,rp,z2,z3]
   refine (UL T _ b p).use ?_
   rintro _ g2 ⟨rfl,b2⟩
   have Ec:Zf g1.size g1 g2:=(Zf.push (Nat.le_refl _) _).trans (b2.mono (by simp))
   have xO:=Ec.get z2 x0
   have uK:=Ec.get z3 x1
   have xP:=Ec.get z1 x2
   have Tn:=QP.trans (Ec.mono QP.size)
   have z5:=Za xP
   by_cases q2:below b p
   ·have e:Yu p l b=7:=by unfold Yu;rw[if_neg (by rw[e0];decide),if_neg (fun h=>h q1),if_pos q2]
    have w2:=fin g2 [.int .i64 0,.int .i64 0,.slice none 0 0] rfl rfl xP
    have qA:Oo b p<0:=(Pe b p).2 q2
    simp -implicitDefEqProofs only[go_sem,↓reduceIte,qA,e,w2,z5]
    refine⟨⟨_,_,rfl,X7.nil _ _ _ _ _,X7.nil _ _ _ _ _⟩,?_⟩
    exact Tn.Zk (by omega) _
   ·have e:Yu p l b=0:=by unfold Yu;rw[if_neg (by rw[e0];decide),if_neg (fun h=>h q1),if_neg q2]
    have r1':=Zo uK (n:=2) rfl
    have rv:hc g2 ⟨h.size,2,none⟩=some (.slice pu l.length cu):=by rw[Zg xO];rfl
    have qA:¬Oo b p<0:=fun h=>q2 ((Pe b p).1 h)
    simp -implicitDefEqProofs only[go_sem,↓reduceIte,qA]
    refine VS.w (h.size+2) [] (.q 0 (.q 1 (.q 2 (.q 5 (.q 6 (.s 3 (.q 4 (.s 7 (.s 8 (.q 9 (.q 10 .nil))))))))))) mixed (by kernel_rfl) ?_
    have z6:h.size<h.size+2:=by omega
    have z7:h.size+1<h.size+2:=by omega
    simp -implicitDefEqProofs only[go_sem,↓reduceIte,r1',rv,z6,z7]
    refine (WC T _ _ l (s.Z7 Tn) hl).use ?_
    rintro w1 g3 ⟨o1,b3⟩
    obtain⟨p1,c1,rfl,_⟩:=o1.open
    have b3':Zf (h.size+2) g2 g3:=b3.mono (by omega)
    simp -implicitDefEqProofs only[go_sem,↓reduceIte]
    refine⟨b3',?_⟩
    refine (WC T _ _ l ((s.Z7 Tn).Z7 b3) hl).use ?_
    rintro w2 g4 ⟨o2,b4⟩
    have b3s:=b3.size
    have b4s:=b4.size
    have Bl:Zf (h.size+2) g2 g4:=b3'.trans (b4.mono (by omega))
    have ZcM:g4[h.size+2]? = some (.cells [.int .i64 0,.int .i64 0,.slice none 0 0].toArray 105):=b4.get (by omega) (b3.get z5 xP)
    have z8:=Za ZcM
    have wf:=fin g4 [.int .i64 b.r,.int .i64 b.n,.slice p1 l.length c1] rfl rfl ZcM
    have aE:=Tn.trans ((b3.trans (b4.mono b3s)).mono Tn.size)
    simp -implicitDefEqProofs only[go_sem,↓reduceIte,e,wf,z8]
    refine⟨Bl,Bl.Zk (by omega) _,⟨_,_,rfl,?_,?_⟩,?_⟩
    ·exact (((o1.Z7 b4 (Nat.le_refl _)).mono (B':=h.size+1+1+1) (by omega)).ZR (by omega) _).mono (by omega)
    ·exact ((o2.mono (B':=h.size+1+1+1) (by omega)).ZR (by omega) _).mono (by omega)
    ·exact aE.Zk (by omega) _
  ·have e:Yu p l b=2:=by unfold Yu;rw[if_neg (by rw[e0];decide),if_pos q1]
   have w2:=fin g1 [.int .i64 0,.int .i64 0,.slice none 0 0] rfl rfl x2
   simp -implicitDefEqProofs only[go_sem,↓reduceIte,q1,e,w2,z1]
   exact⟨⟨_,_,rfl,X7.nil _ _ _ _ _,X7.nil _ _ _ _ _⟩,(QP.Zk (by omega) _).Yf (by simp;omega) _⟩
 ·have e:Yu p l b=5:=by unfold Yu;rw[if_pos (by rw[e0];decide)]
  have w2:=fin g1 [.int .i64 0,.int .i64 0,.slice none 0 0] rfl rfl x2
  simp -implicitDefEqProofs only[go_sem,↓reduceIte,e0,e,w2,z1]
  exact⟨⟨_,_,rfl,X7.nil _ _ _ _ _,X7.nil _ _ _ _ _⟩,QP.Zk (by omega) _⟩
def xQ (l:List Vt):Prop:=∀i j (hi:i<l.length) (hj:j<l.length),i<j→l[i].slot<l[j].slot
theorem Pf {p:XL} {l:List Vt} (h:XC p l=0):∀j,j<l.length→VI p l j=true:=by
 intro j hj
 unfold XC at h
 split at h
 ·cases h
 ·split at h
  ·rename_i YU
   exact List.all_eq_true.1 YU j (List.mem_range.2 hj)
  ·cases h
theorem Lx {p:XL} {l:List Vt} (h:XC p l=0):xQ l:=by
 have hg:=Pf h
 intro i j
 induction j with
 | zero=>intro _ _ h;omega
 | succ j ih=>
  intro hi hj gK
  have h1:=(Lw hj).1 (hg _ hj)
  have h2:Oq l j<l[j+1].slot:=by
   rcases h1.2.2 with h|h
   ·omega
   ·simpa using h
  rw[Ot (by omega)]at h2
  by_cases e:i=j
  ·subst e;exact h2
  ·exact Int.lt_trans (ih hi (by omega) (by omega)) h2
theorem Bm {p:XL} {l:List Vt} (h:XC p l=0):∀x∈l,Z9 x:=by
 intro x hx
 obtain⟨j,hj,rfl⟩:=List.mem_iff_getElem.1 hx
 exact ((Lw hj).1 (Pf h j hj)).1
def Qv (l:List Vt) (v:Vt):List Vt:=l.filter (fun x=>decide (x.slot<v.slot))++v :: l.filter (fun x=>decide (v.slot<x.slot))
theorem Ng {α:Type} (q:α→Bool) (l:List α) (i:Nat) (h1:∀j (hj:j<l.length),j<i→q l[j]=true) (h2:∀j (hj:j<l.length),i≤j→q l[j]=false):l.filter q=l.take i:=by
 conv=>lhs;rw[←List.take_append_drop i l]
 rw[List.filter_append,List.filter_eq_self.2,List.filter_eq_nil_iff.2,List.append_nil]
 ·intro x hx
  obtain⟨j,hj,rfl⟩:=List.mem_iff_getElem.1 hx
  rw[List.getElem_drop]
  rw[h2 _ (by rw[List.length_drop]at hj;omega) (by omega)]
  decide
 ·intro x hx
  obtain⟨j,hj,rfl⟩:=List.mem_iff_getElem.1 hx
  rw[List.length_take]at hj
  rw[List.getElem_take]
  exact h1 _ (by omega) (by omega)
theorem Nh {α:Type} (q:α→Bool) (l:List α) (i:Nat) (h1:∀j (hj:j<l.length),j<i→q l[j]=false) (h2:∀j (hj:j<l.length),i≤j→q l[j]=true):l.filter q=l.drop i:=by
 conv=>lhs;rw[←List.take_append_drop i l]
 rw[List.filter_append,List.filter_eq_nil_iff.2,List.filter_eq_self.2,List.nil_append]
 ·intro x hx
  obtain⟨j,hj,rfl⟩:=List.mem_iff_getElem.1 hx
  rw[List.getElem_drop]
  exact h2 _ (by rw[List.length_drop]at hj;omega) (by omega)
 ·intro x hx
  obtain⟨j,hj,rfl⟩:=List.mem_iff_getElem.1 hx
  rw[List.length_take]at hj
  rw[List.getElem_take,h1 _ (by omega) (by omega)]
  decide
theorem kF {l:List Vt} (hs:xQ l) {v:Vt} {i:Nat} (hi:i<l.length) (he:l[i].slot=v.slot):Qv l v=l.set i v:=by
 have a1:l.filter (fun x=>decide (x.slot<v.slot))=l.take i:=Ng _ _ _
  (fun j hj U8=>decide_eq_true (by have:=hs j i hj hi U8;omega))
  (fun j hj gK=>decide_eq_false (by
    by_cases e:i=j
    ·subst e;omega
    ·have:=hs i j hi hj (by omega);omega))
 have a2:l.filter (fun x=>decide (v.slot<x.slot))=l.drop (i+1):=Nh _ _ _
  (fun j hj U8=>decide_eq_false (by
    by_cases e:j=i
    ·subst e;omega
    ·have:=hs j i hj hi (by omega);omega))
  (fun j hj gK=>decide_eq_true (by have:=hs i j hi hj (by omega);omega))
 rw[Qv,a1,a2,List.set_eq_take_append_cons_drop,if_pos hi]
theorem kG {l:List Vt} (hs:xQ l) {v:Vt} {i:Nat} (hi:i≤l.length) (h1:∀j (hj:j<l.length),j<i→l[j].slot<v.slot) (h2:∀j (hj:j<l.length),i≤j→v.slot<l[j].slot):Qv l v=l.take i++v :: l.drop i:=by
 have a1:l.filter (fun x=>decide (x.slot<v.slot))=l.take i:=Ng _ _ _ (fun j hj U8=>decide_eq_true (h1 j hj U8)) (fun j hj gK=>decide_eq_false (by have:=h2 j hj gK;omega))
 have a2:l.filter (fun x=>decide (v.slot<x.slot))=l.drop i:=Nh _ _ _ (fun j hj U8=>decide_eq_false (by have:=h1 j hj U8;omega)) (fun j hj gK=>decide_eq_true (h2 j hj gK))
 rw[Qv,a1,a2]
def YV:List Nat→Nat
 | []=>0
 | x :: l=>x+256*YV l
def Dg (l:List Nat):Prop:=∀x∈l,x<256
theorem Dg.getD {l:List Nat} (w:Dg l) (i:Nat):l.getD i 0<256:=ZF w i
theorem Dg.set {l:List Nat} {x:Nat} (w:Dg l) (i:Nat) (hx:x<256):Dg (l.set i x):=by
 intro y hy
 rcases List.mem_or_eq_of_mem_set hy with h|h
 ·exact w y h
 ·rw[h];exact hx
theorem qB {l:List Nat} (w:Dg l):YV l<256 ^ l.length:=by
 induction l with
 | nil=>simp[YV]
 | cons x l ih=>
  have h1:=ih fun y hy=>w y (List.mem_cons_of_mem _ hy)
  have h2:=w x List.mem_cons_self
  simp only[YV,List.length_cons,Nat.pow_succ]
  omega
theorem Bn {l:List Nat} (w:Dg l) (i:Nat):l.getD i 0=YV l/256 ^ i%256:=by
 induction l generalizing i with
 | nil=>simp[YV]
 | cons x l ih=>
  have hx:=w x List.mem_cons_self
  cases i with
  | zero=>simp only[List.getD_cons_zero,YV,Nat.pow_zero,Nat.div_one];omega
  | succ i=>
   rw[List.getD_cons_succ,ih (fun y hy=>w y (List.mem_cons_of_mem _ hy)) i,YV,Nat.pow_succ,Nat.mul_comm (256 ^ i) 256,←Nat.div_div_eq_div_mul]
   congr 2
   omega
theorem getD_none {l:List Nat} {i:Nat} (hi:¬i<l.length):l.getD i 0=0:=by
 rw[List.getD_eq_getElem?_getD,List.getElem?_eq_none (by omega)];rfl
def uv (x:Nat):Value:=.int .u64 (x:Nat)
def Gf (n top:Nat):List Nat:=[n%67108864,n/67108864%67108864,n/4503599627370496%67108864,n/302231454903657293676544%67108864,n/20282409603651670423947251286016+top*16777216]
theorem Mo (x n:Nat) (hn:n≤64):Yw .u64 (x:Int) (n:Int)=((x*2 ^ n%18446744073709551616:Nat):Int):=by
 rw[HG .u64 x n (by show n≤64;omega),RL];rfl
theorem Sh (x n:Nat) (hn:n≤64):Y7 .u64 (x:Int) (n:Int)=((x/2 ^ n:Nat):Int):=by
 rw[Sa .u64 x n (by show n≤64;omega),Nat.shiftRight_eq_div_pow]
theorem TI (x:Nat) (hx:x<18446744073709551616):Z5 .and .u64 (x:Int) 67108863=((x%67108864:Nat):Int):=by
 have h:=pW x 67108863 hx (by decide)
 have e:x &&& 67108863=x%67108864:=Nat.and_two_pow_sub_one_eq_mod x 26
 rw[e]at h
 exact h
theorem aF (L b:Nat) (hL:L<72057594037927936) (hb:b<256):Z5 .or .u64 ((L*256:Nat):Int) (b:Int)=((L*256+b:Nat):Int):=by
 rw[CF _ _ (by omega) (by omega),JI (k:=8) (by omega) (by omega)]
theorem ZcN (L:Nat) (hL:L<72057594037927936):Yw .u64 (L:Int) 8=((L*256:Nat):Int):=by
 have h:=Mo L 8 (by decide)
 rw[show L*2 ^ 8%18446744073709551616=L*256 by omega]at h
 exact h
theorem Ed {l:List Nat} {m:Nat} (hm:m<l.length):YV (l.drop m)=l.getD m 0+256*YV (l.drop (m+1)):=by
 rw[List.drop_eq_getElem_cons hm]
 have e:l.getD m 0=l[m]:=by rw[List.getD_eq_getElem?_getD,List.getElem?_eq_getElem hm];rfl
 rw[e];rfl
theorem Dg.drop {l:List Nat} (w:Dg l) (i:Nat):Dg (l.drop i):=fun x hx=>w x (List.mem_of_mem_drop hx)
theorem UM {l:List Nat} (w:Dg l) {n:Nat} (hn:l.length≤n):YV l<256 ^ n:=Nat.lt_of_lt_of_le (qB w) (Nat.pow_le_pow_right (by omega) hn)
set_option maxHeartbeats 1000000 in
theorem Ou (T:World) (h:Hp) (v:Value) (l:List Nat) (top:Nat) (s:Bs h v l) (hl:l.length=16) (ht:top≤1) :
  Zc Tryz.prog T 131 #[v,.int .u64 top] h fun v' h'=>v'=.agg ((Gf (YV l) top).map uv).toArray∧Zf h.size h h':=by
 have wb:=s.byte
 obtain⟨p,c,rfl,hc⟩:=s.Uh
 obtain⟨bb,oo,rfl,UX,hc⟩:=hc (by intro e;subst e;simp at hl)
 obtain⟨lo,hi,rfl,hlo,hhi⟩:∃lo hi:List Nat,l=lo++hi∧lo.length=8∧hi.length=8:=⟨l.take 8,l.drop 8,(List.take_append_drop 8 l).symm,by rw[List.length_take];omega,by rw[List.length_drop];omega⟩
 have wlo:Dg lo:=fun x hx=>wb x (List.mem_append_left _ hx)
 have whi:Dg hi:=fun x hx=>wb x (List.mem_append_right _ hx)
 refine Zc.Zh (args:=[_,_]) Tryz.func131 rfl rfl rfl rfl ?_
 simp -implicitDefEqProofs only[go_sem,↓reduceIte]
 obtain⟨Z,hZ⟩:∃Z:Obj,Z=.cells #[.int .u64 0,.int .u64 0,.int .u64 0,.int .u64 0,.int .u64 0] 227:=⟨_,rfl⟩
 refine VS.ZV (fun F g=>g=h.push (.cells #[.int .u64 0,.int .u64 0,.int .u64 0,.int .u64 0,.int .u64 0] 227)∧F 0=.slice (some ⟨bb,oo,none⟩) (lo++hi).length c∧F 1=.int .u64 top∧F 4=.pointer (some ⟨h.size,0,none⟩)∧∃j:Nat,j≤8∧F 7=.int .i64 ((j:Int)-1)∧F 5=.int .u64 (YV (lo.drop j):Nat)∧F 6=.int .u64 (YV (hi.drop j):Nat))
  (fun F _=>(vi (F 7)+1).toNat) rfl ⟨rfl,rfl,rfl,rfl,8,by omega,rfl,by rw[List.drop_of_length_le (by omega)];rfl,by rw[List.drop_of_length_le (by omega)];rfl⟩ ?_
 rintro F g ⟨rfl,f0,f1,f4,j,hj,f7,f5,f6⟩
 by_cases ZA:0<j
 ·obtain⟨m,rfl⟩:∃m,j=m+1:=⟨j-1,by omega⟩
  have e1:((m+1:Nat):Int)-1=(m:Nat):=by omega
  rw[e1]at f7
  have g1:=hc m (by omega)
  have g2:=hc (8+m) (by omega)
  have d1:(lo++hi).getD m 0=lo.getD m 0:=by rw[List.getD_eq_getElem?_getD,List.getElem?_append_left (by omega),List.getD_eq_getElem?_getD]
  have d2:(lo++hi).getD (8+m) 0=hi.getD m 0:=by rw[List.getD_eq_getElem?_getD,List.getElem?_append_right (by omega),hlo,Nat.add_sub_cancel_left,List.getD_eq_getElem?_getD]
  rw[d1]at g1
  rw[d2]at g2
  have x1:=wlo.getD m
  have x2:=whi.getD m
  have n1:YV (lo.drop m)=YV (lo.drop (m+1))*256+lo.getD m 0:=by rw[Ed (l:=lo) (by omega)];omega
  have n2:YV (hi.drop m)=YV (hi.drop (m+1))*256+hi.getD m 0:=by rw[Ed (l:=hi) (by omega)];omega
  have b1:=UM (wlo.drop (m+1)) (n:=7) (by rw[List.length_drop];omega)
  have b2:=UM (whi.drop (m+1)) (n:=7) (by rw[List.length_drop];omega)
  rw[show 256 ^ 7=72057594037927936 from rfl]at b1 b2
  have s1:=ZcN _ b1
  have s2:=ZcN _ b2
  have o1:=aF _ _ b1 x1
  have o2:=aF _ _ b2 x2
  have em:(8:Int)+(m:Int)=((8+m:Nat):Int):=by omega
  have k1:(m:Int)<(lo++hi).length:=by omega
  have k2:((8+m:Nat):Int)<(lo++hi).length:=by omega
  have k0:(0:Int)≤m:=by omega
  have ZkD:bb<h.size:=UX
  have m1:((lo.getD m 0:Nat):Int)%18446744073709551616=(lo.getD m 0:Nat):=by omega
  have m2:((hi.getD m 0:Nat):Int)%18446744073709551616=(hi.getD m 0:Nat):=by omega
  simp -implicitDefEqProofs only[go_sem,↓reduceIte,f0,f1,f4,f5,f6,f7,m1,m2,k0,k1,k2,em,Int.toNat_natCast,ZkD,g1,g2,s1,s2,o1,o2]
  refine⟨⟨rfl,f0,f1,f4,m,by omega,rfl,?_,?_⟩,?_⟩
  ·rw[n1];rfl
  ·rw[n2];rfl
  ·simp only[vi,Zj,↓reduceIte,f7];omega
 ·obtain rfl:j=0:=by omega
  rw[List.drop_zero]at f5 f6
  have k0:¬(0:Int)≤((0:Nat):Int)-1:=by omega
  have b1:=UM wlo (n:=8) (by omega)
  have b2:=UM whi (n:=8) (by omega)
  rw[show 256 ^ 8=18446744073709551616 from rfl]at b1 b2
  have NO:YV (lo++hi)=YV lo+18446744073709551616*YV hi:=by
   have:∀a b:List Nat,YV (a++b)=YV a+256 ^ a.length*YV b:=by
    intro a b
    induction a with
    | nil=>simp[YV]
    | cons x a ih=>simp only[List.cons_append,YV,ih,List.length_cons,Nat.pow_succ,Nat.mul_add,Nat.add_assoc];congr 2;rw[←Nat.mul_assoc,Nat.mul_comm 256]
   rw[this,hlo]
  rw[NO]
  generalize YV lo=L at *
  generalize YV hi=M at *
  have q1:=TI L b1
  have q2:Y7 .u64 (L:Int) 26=((L/2 ^ 26:Nat):Int):=Sh L 26 (by decide)
  have q3:=TI (L/2 ^ 26) (by omega)
  have q4:Y7 .u64 (L:Int) 52=((L/2 ^ 52:Nat):Int):=Sh L 52 (by decide)
  have q5:Yw .u64 (M:Int) 12=((M*2 ^ 12%18446744073709551616:Nat):Int):=Mo M 12 (by decide)
  have q6:=CF (L/2 ^ 52) (M*2 ^ 12%18446744073709551616) (by omega) (by omega)
  rw[Nat.or_comm,JI (k:=12) (by omega) (by omega)]at q6
  have q7:=TI (M*2 ^ 12%18446744073709551616+L/2 ^ 52) (by omega)
  have q8:Y7 .u64 (M:Int) 14=((M/2 ^ 14:Nat):Int):=Sh M 14 (by decide)
  have q9:=TI (M/2 ^ 14) (by omega)
  have q10:Y7 .u64 (M:Int) 40=((M/2 ^ 40:Nat):Int):=Sh M 40 (by decide)
  have q11:Yw .u64 (top:Int) 24=((top*2 ^ 24%18446744073709551616:Nat):Int):=Mo top 24 (by decide)
  have q12:=CF (M/2 ^ 40) (top*2 ^ 24%18446744073709551616) (by omega) (by omega)
  rw[Nat.or_comm,JI (k:=24) (by omega) (by omega)]at q12
  simp -implicitDefEqProofs only[go_sem,↓reduceIte,f0,f1,f4,f5,f6,f7,k0,q1,q2,q3,q4,q5,q6,q7,q8,q9,q10,q11,q12]
  have w1:L%67108864=(L+18446744073709551616*M)%67108864:=by omega
  have w2:L/2 ^ 26%67108864=(L+18446744073709551616*M)/67108864%67108864:=by omega
  have w3:(M*2 ^ 12%18446744073709551616+L/2 ^ 52)%67108864=(L+18446744073709551616*M)/4503599627370496%67108864:=by omega
  have w4:M/2 ^ 14%67108864=(L+18446744073709551616*M)/302231454903657293676544%67108864:=by omega
  have w5:top*2 ^ 24%18446744073709551616+M/2 ^ 40=(L+18446744073709551616*M)/20282409603651670423947251286016+top*16777216:=by omega
  rw[w1,w2,w3,w4,w5]
  rfl
def Re (l:List Nat) (i:Nat):List Nat:=
 if i<4 then (l.set i (l.getD i 0%67108864)).set (i+1) ((l.set i (l.getD i 0%67108864)).getD (i+1) 0+l.getD i 0/67108864)
 else (l.set i (l.getD i 0%67108864)).set 0 ((l.set i (l.getD i 0%67108864)).getD 0 0+5*(l.getD i 0/67108864))
def Ja (l:List Nat):Nat→List Nat
 | 0=>l
 | i+1=>Re (Ja l i) i
def Yh (K:Nat) (l:List Nat):Prop:=∀x∈l,x<K
theorem Yh.getD {K:Nat} {l:List Nat} (w:Yh K l) (hK:0<K) (i:Nat):l.getD i 0<K:=by
 by_cases hi:i<l.length
 ·have e:l.getD i 0=l[i]:=by rw[List.getD_eq_getElem?_getD,List.getElem?_eq_getElem hi];rfl
  rw[e];exact w _ (List.getElem_mem hi)
 ·rw[getD_none hi];exact hK
theorem Yh.set {K:Nat} {l:List Nat} (w:Yh K l) (i x:Nat) (hx:x<K):Yh K (l.set i x):=by
 intro y hy
 rcases List.mem_or_eq_of_mem_set hy with h|h
 ·exact w y h
 ·rw[h];exact hx
theorem Yh.mono {K K':Nat} {l:List Nat} (w:Yh K l) (h:K≤K'):Yh K' l:=fun x hx=>Nat.lt_of_lt_of_le (w x hx) h
theorem KZ (l:List Nat) (i:Nat):(Re l i).length=l.length:=by
 unfold Re;split<;>simp
theorem SL (l:List Nat):∀i,(Ja l i).length=l.length
 | 0=>rfl
 | i+1=>by rw[Ja,KZ,SL l i]
theorem dP {K:Nat} {l:List Nat} {i:Nat} (w:Yh K l) (h0:67108864≤K) (hK:K≤2 ^ 62):Yh (K+2 ^ 39) (Re l i):=by
 have hx:=w.getD (by omega) i
 have w1:Yh K (l.set i (l.getD i 0%67108864)):=w.set i _ (by omega)
 have hy:=w1.getD (by omega) (i+1)
 have hz:=w1.getD (by omega) 0
 unfold Re
 split
 ·exact (w1.mono (by omega)).set _ _ (by omega)
 ·exact (w1.mono (by omega)).set _ _ (by omega)
theorem IN {K:Nat} {l:List Nat} (w:Yh K l) (h0:67108864≤K) (hK:K≤2 ^ 61):∀i,i≤5→Yh (K+i*2 ^ 39) (Ja l i)
 | 0,_=>by rw[Nat.zero_mul,Nat.add_zero];exact w
 | i+1,hi=>by
  have:=dP (i:=i) (IN w h0 hK i (by omega)) (by omega) (by omega)
  rw[Ja]
  exact this.mono (by omega)
theorem Pg {l:List Nat} {i j x:Nat} (h:i≠j):(l.set i x).getD j 0=l.getD j 0:=by
 rw[List.getD_eq_getElem?_getD,List.getD_eq_getElem?_getD,List.getElem?_set_ne h]
def Yb (l:List Nat):Obj:=.cells (l.map uv++[]).toArray 227
theorem aG (x:Nat):Y7 .u64 (x:Int) 26=((x/67108864:Nat):Int):=Sh x 26 (by decide)
set_option maxHeartbeats 1000000 in
theorem Bo (T:World) (h:Hp) (bk:Nat) (l:List Nat) (hl:l.length=5) (w:Yh (2 ^ 61) l) (hb:h[bk]? = some (Yb l)) :
  Zc Tryz.prog T 147 #[.pointer (some ⟨bk,0,none⟩)] h fun v' h'=>∃a,a=Ja l 5∧h'=h.setIfInBounds bk (Yb ((a.set 1 (a.getD 1 0+a.getD 0 0/67108864)).set 0 (a.getD 0 0%67108864))):=by
 refine Zc.Zh (args:=[_]) Tryz.func147 rfl rfl rfl rfl ?_
 simp -implicitDefEqProofs only[go_sem,↓reduceIte]
 refine VS.ZV (fun F g=>F 0=.pointer (some ⟨bk,0,none⟩)∧∃i:Nat,i≤5∧F 4=.int .i64 i∧g=h.setIfInBounds bk (Yb (Ja l i)))
  (fun F _=>5-(vi (F 4)).toNat) rfl ⟨rfl,0,by omega,rfl,(QY hb).symm⟩ ?_
 rintro F g ⟨f0,i,hi,f4,rfl⟩
 have hx:=ZO (o:=Yb (Ja l i)) hb
 have hw:=IN w (by decide) (by decide) i hi
 have hw2:=hw.getD (by omega) i
 have hln:(Ja l i).length=5:=by rw[SL,hl]
 by_cases ZA:i<5
 ·have ZI:(i:Int)<5:=by omega
  have YE:Ja l (i+1)=Re (Ja l i) i:=rfl
  obtain⟨a,ha⟩:=Zy (Ja l i)
  rw[←ha]at hx hw hw2 hln YE ⊢
  obtain⟨G,hG⟩:=Zy (h.setIfInBounds bk (Yb a))
  rw[←hG]at hx ⊢
  have g1:=ZJ hx (i:=i) (by omega)
  unfold uv at g1
  obtain⟨x,nZ⟩:=Zy (a.getD i 0)
  rw[←nZ]at g1 hw2
  have e1:=aG x
  have e2:=TI x (by omega)
  simp -implicitDefEqProofs only[go_sem,↓reduceIte,f0,f4,ZI,Int.toNat_natCast,Nat.zero_add,g1,e1]
  refine VS.w (bk+1) [8] (.q 0 (.q 1 (.q 2 (.q 3 (.q 4 (.q 5 (.q 6 (.q 7 (.w 8 .nil))))))))) mixed (by kernel_rfl) ?_
  have c1:Jg _ ⟨bk,i,none⟩ (.int .u64 (x%67108864:Nat))=_:=ZY (f:=uv) hx (i:=i) (by omega) (x%67108864) rfl
  have Qg:=ZO (o:=.cells ((a.set i (x%67108864)).map uv++[]).toArray 227) hx
  have Bp:=hw.set i (x%67108864) (by omega)
  have Uo:Re a i=if i<4 then (a.set i (x%67108864)).set (i+1) ((a.set i (x%67108864)).getD (i+1) 0+x/67108864) else (a.set i (x%67108864)).set 0 ((a.set i (x%67108864)).getD 0 0+5*(x/67108864)):=by rw[nZ];rfl
  have kj:(a.set i (x%67108864)).length=5:=by rw[List.length_set,hln]
  obtain⟨a1,ha1⟩:=Zy (a.set i (x%67108864))
  rw[←ha1]at Qg Bp Uo kj c1
  obtain⟨G1,gQ⟩:=Zy (G.setIfInBounds bk (.cells (a1.map uv++[]).toArray 227))
  rw[←gQ]at Qg c1
  by_cases h4:i<4
  ·have xR:(i:Int)<4:=by omega
   rw[if_pos h4]at Uo
   simp -implicitDefEqProofs only[go_sem,↓reduceIte,f0,f4,ZI,Int.toNat_natCast,Nat.zero_add,g1,e1,e2,c1,xR]
   refine VS.w (bk+1) [10] (.q 0 (.q 1 (.q 2 (.q 3 (.q 4 (.q 5 (.q 6 (.q 7 (.q 8 (.q 9 (.w 10 .nil))))))))))) mixed (by kernel_rfl) ?_
   have g2:=ZJ Qg (i:=i+1) (by omega)
   unfold uv at g2
   have hy:=Bp.getD (by omega) (i+1)
   obtain⟨y,hyy⟩:=Zy (a1.getD (i+1) 0)
   rw[←hyy]at g2 hy Uo
   have e3:(y:Int)+((x/67108864:Nat):Int)=((y+x/67108864:Nat):Int):=by omega
   have e4:((y+x/67108864:Nat):Int)%18446744073709551616=((y+x/67108864:Nat):Int):=by omega
   have ei:(i:Int)+1=((i+1:Nat):Int):=rfl
   have hi1:((i+1:Nat):Int)<5:=by omega
   have c2:Jg G1 ⟨bk,i+1,none⟩ (.int .u64 (y+x/67108864:Nat))=_:=ZY (f:=uv) Qg (i:=i+1) (by omega) (y+x/67108864) rfl
   simp -implicitDefEqProofs only[go_sem,↓reduceIte,f0,f4,ZI,ei,hi1,Int.toNat_natCast,Nat.zero_add,g2,e3,e4,c2]
   refine⟨⟨f0,i+1,ZA,rfl,?_⟩,?_⟩
   ·rw[gQ,set_set,hG,set_set,YE,Uo];rfl
   ·simp only[vi,Zj,↓reduceIte,f4];omega
  ·have xR:¬(i:Int)<4:=by omega
   rw[if_neg h4]at Uo
   simp -implicitDefEqProofs only[go_sem,↓reduceIte,f0,f4,ZI,Int.toNat_natCast,Nat.zero_add,g1,e1,e2,c1,xR]
   refine VS.w (bk+1) [9] (.q 0 (.q 1 (.q 2 (.q 3 (.q 4 (.q 5 (.q 6 (.q 7 (.q 8 (.w 9 .nil)))))))))) mixed (by kernel_rfl) ?_
   have g2:=ZJ Qg (i:=0) (by omega)
   unfold uv at g2
   have hy:=Bp.getD (by omega) 0
   obtain⟨y,hyy⟩:=Zy (a1.getD 0 0)
   rw[←hyy]at g2 hy Uo
   have e5:(5:Int)*((x/67108864:Nat):Int)=((5*(x/67108864):Nat):Int):=by omega
   have e6:((5*(x/67108864):Nat):Int)%18446744073709551616=((5*(x/67108864):Nat):Int):=by omega
   have e3:(y:Int)+((5*(x/67108864):Nat):Int)=((y+5*(x/67108864):Nat):Int):=by omega
   have e4:((y+5*(x/67108864):Nat):Int)%18446744073709551616=((y+5*(x/67108864):Nat):Int):=by omega
   have c2:Jg G1 ⟨bk,0,none⟩ (.int .u64 (y+5*(x/67108864):Nat))=_:=ZY (f:=uv) Qg (i:=0) (by omega) (y+5*(x/67108864)) rfl
   simp -implicitDefEqProofs only[go_sem,↓reduceIte,f0,f4,ZI,Int.toNat_natCast,Nat.zero_add,g2,e3,e4,e5,e6,c2]
   refine⟨⟨f0,i+1,ZA,rfl,?_⟩,?_⟩
   ·rw[gQ,set_set,hG,set_set,YE,Uo];rfl
   ·simp only[vi,Zj,↓reduceIte,f4];omega
 ·have YF:¬(i:Int)<5:=by omega
  obtain rfl:i=5:=by omega
  obtain⟨a,ha⟩:=Zy (Ja l 5)
  rw[←ha]at hx hw hw2 hln ⊢
  obtain⟨G,hG⟩:=Zy (h.setIfInBounds bk (Yb a))
  rw[←hG]at hx ⊢
  have g0:=ZJ hx (i:=0) (by omega)
  have g1:=ZJ hx (i:=1) (by omega)
  have y0:=hw.getD (by omega) 0
  have y1:=hw.getD (by omega) 1
  unfold uv at g0 g1
  obtain⟨x,nZ⟩:=Zy (a.getD 0 0)
  obtain⟨y,hyy⟩:=Zy (a.getD 1 0)
  rw[←nZ]at g0 y0
  rw[←hyy]at g1 y1
  have e1:=aG x
  have e2:=TI x (by omega)
  have e3:(y:Int)+((x/67108864:Nat):Int)=((y+x/67108864:Nat):Int):=by omega
  have e4:((y+x/67108864:Nat):Int)%18446744073709551616=((y+x/67108864:Nat):Int):=by omega
  have c5:((5:Nat):Int)=5:=rfl
  rw[c5]at f4 YF
  simp -implicitDefEqProofs only[go_sem,↓reduceIte,f0,f4,YF]
  refine VS.w (bk+1) [12] (.q 0 (.q 1 (.q 2 (.q 3 (.q 4 (.q 5 (.q 6 (.q 7 (.q 8 (.q 9 (.q 10 (.q 11 (.w 12 .nil))))))))))))) mixed (by kernel_rfl) ?_
  have c1:Jg G ⟨bk,1,none⟩ (.int .u64 (y+x/67108864:Nat))=_:=ZY (f:=uv) hx (i:=1) (by omega) (y+x/67108864) rfl
  have Qg:=ZO (o:=.cells ((a.set 1 (y+x/67108864)).map uv++[]).toArray 227) hx
  have kj:(a.set 1 (y+x/67108864)).length=5:=by rw[List.length_set,hln]
  obtain⟨a1,ha1⟩:=Zy (a.set 1 (y+x/67108864))
  rw[←ha1]at Qg kj c1
  obtain⟨G1,gQ⟩:=Zy (G.setIfInBounds bk (.cells (a1.map uv++[]).toArray 227))
  rw[←gQ]at Qg c1
  have g2:=ZJ Qg (i:=0) (by omega)
  unfold uv at g2
  have g2e:a1.getD 0 0=x:=by rw[ha1,Pg (by decide),←nZ]
  rw[g2e]at g2
  simp -implicitDefEqProofs only[go_sem,↓reduceIte,f0,Nat.zero_add,g0,g1,e1,e3,e4,c1]
  refine VS.w (bk+1) [7] (.q 0 (.q 1 (.q 2 (.q 3 (.q 4 (.q 5 (.q 6 (.w 7 .nil)))))))) mixed (by kernel_rfl) ?_
  have c2:Jg G1 ⟨bk,0,none⟩ (.int .u64 (x%67108864:Nat))=_:=ZY (f:=uv) Qg (i:=0) (by omega) (x%67108864) rfl
  simp -implicitDefEqProofs only[go_sem,↓reduceIte,f0,Nat.zero_add,g2,e2,c2]
  rw[gQ,set_set,hG,set_set,ha1]
  exact⟨a,rfl,by rw[←nZ,←hyy];rfl⟩
theorem getD_set_ne {l:List Nat} {i j x:Nat} (h:i≠j):(l.set i x).getD j 0=l.getD j 0:=by
 rw[List.getD_eq_getElem?_getD,List.getD_eq_getElem?_getD,List.getElem?_set_ne h]
def H16:Nat:=256 ^ 16
def Vh:Nat:=4*256 ^ 16-5
def Yj:List Nat→Nat
 | []=>0
 | x :: l=>x+67108864*Yj l
theorem Ph:Vh=1361129467683753853853498429727072845819:=rfl
theorem Bq {a b c d e:Nat}:∃q r0 r1 r2 r3 r4:Nat,Ja [a,b,c,d,e] 5=[r0,r1,r2,r3,r4]∧Yj [a,b,c,d,e]=Yj [r0,r1,r2,r3,r4]+Vh*q∧r1<67108864∧r2<67108864∧r3<67108864∧r4<67108864∧r0≤67108863+5*q∧q≤(e+(d+(c+(b+a/67108864)/67108864)/67108864)/67108864)/67108864:=by
 refine⟨(e+(d+(c+(b+a/67108864)/67108864)/67108864)/67108864)/67108864,a%67108864+5*((e+(d+(c+(b+a/67108864)/67108864)/67108864)/67108864)/67108864),(b+a/67108864)%67108864,(c+(b+a/67108864)/67108864)%67108864,(d+(c+(b+a/67108864)/67108864)/67108864)%67108864,(e+(d+(c+(b+a/67108864)/67108864)/67108864)/67108864)%67108864,?_,?_,Nat.mod_lt _ (by decide),Nat.mod_lt _ (by decide),Nat.mod_lt _ (by decide),Nat.mod_lt _ (by decide),by omega,Nat.le_refl _⟩
 ·rfl
 ·simp only[Yj,Ph]
  omega
theorem Ov {l:List Nat} (h:l.length=5):∃a b c d e,l=[a,b,c,d,e]:=by
 match l,h with
 | [a,b,c,d,e],_=>exact⟨a,b,c,d,e,rfl⟩
def YZ (l:List Nat):List Nat:=((Ja l 5).set 1 ((Ja l 5).getD 1 0+(Ja l 5).getD 0 0/67108864)).set 0 ((Ja l 5).getD 0 0%67108864)
theorem Yh.Ov {K a b c d e:Nat} (ha:a<K) (hb:b<K) (hc:c<K) (hd:d<K) (he:e<K):Yh K [a,b,c,d,e]:=by
 intro x hx
 simp only[List.mem_cons,List.not_mem_nil,or_false]at hx
 rcases hx with rfl|rfl|rfl|rfl|rfl<;>assumption
theorem Yh.qC {K a b c d e:Nat} (w:Yh K [a,b,c,d,e]):a<K∧b<K∧c<K∧d<K∧e<K:=
 ⟨w a (by simp),w b (by simp),w c (by simp),w d (by simp),w e (by simp)⟩
theorem Si {l:List Nat} (hl:l.length=5) (w:Yh (2 ^ 61) l):(YZ l).length=5∧Yh 134217728 (YZ l)∧Yj (YZ l)%Vh=Yj l%Vh∧Yj (YZ l)<4*H16+2 ^ 44:=by
 obtain⟨a,b,c,d,e,rfl⟩:=Ov hl
 obtain⟨wa,wb,wc,wd,we⟩:=w.qC
 obtain⟨q,r0,r1,r2,r3,r4,hc,hv,h1,h2,h3,h4,h0,hq⟩:=@Bq a b c d e
 have hL:YZ [a,b,c,d,e]=[r0%67108864,r1+r0/67108864,r2,r3,r4]:=by unfold YZ;rw[hc];rfl
 have hq':q<2 ^ 36:=by omega
 have hr:r0/67108864<8192:=by omega
 have NO:Yj [r0%67108864,r1+r0/67108864,r2,r3,r4]=Yj [r0,r1,r2,r3,r4]:=by simp only[Yj];omega
 rw[hL]
 refine⟨rfl,Yh.Ov (by omega) (by omega) (by omega) (by omega) (by omega),?_,?_⟩
 ·rw[NO,hv,Nat.add_mul_mod_self_left]
 ·rw[NO]
  have e16:H16=340282366920938463463374607431768211456:=rfl
  rw[e16]
  have h0':r0<549755813888:=by omega
  clear hv hc hq hq' hL NO h0
  simp only[Yj]
  omega
def VZ (a b:Nat) (out:List Nat) (i k:Nat):List Nat:=if i+k<5 then out.set (i+k) (out.getD (i+k) 0+a*b) else out.set (i+k-5) (out.getD (i+k-5) 0+5*a*b)
def TJ (a:Nat) (bs out:List Nat) (i:Nat):Nat→List Nat
 | 0=>out
 | k+1=>VZ a (bs.getD k 0) (TJ a bs out i k) i k
def Ut (xs bs:List Nat):Nat→List Nat
 | 0=>[0,0,0,0,0]
 | i+1=>TJ (xs.getD i 0) bs (Ut xs bs i) i 5
theorem Gg (a b:Nat) (out:List Nat) (i k:Nat):(VZ a b out i k).length=out.length:=by unfold VZ;split<;>simp
theorem Wn (a:Nat) (bs out:List Nat) (i:Nat):∀k,(TJ a bs out i k).length=out.length
 | 0=>rfl
 | k+1=>by rw[TJ,Gg,Wn a bs out i k]
theorem Wo (xs bs:List Nat):∀i,(Ut xs bs i).length=5
 | 0=>rfl
 | i+1=>by rw[Ut,Wn,Wo xs bs i]
theorem Ox {a b:Nat} (ha:a<268435456) (hb:b<67108864):a*b<18014398509481984:=
 Nat.lt_of_le_of_lt (Nat.mul_le_mul (Nat.le_of_lt_succ (show a<268435455+1 from ha)) (Nat.le_of_lt_succ (show b<67108863+1 from hb))) (by decide)
theorem Ly {a b:Nat} (ha:a<268435456) (hb:b<67108864):5*a*b<90071992547409920:=by
 have:=Ox ha hb
 rw[Nat.mul_assoc];omega
theorem kH {K a b:Nat} {out:List Nat} {i k:Nat} (w:Yh K out) (hK:0<K) (ha:a<268435456) (hb:b<67108864):Yh (K+90071992547409920) (VZ a b out i k):=by
 have h1:=Ox ha hb
 have h2:=Ly ha hb
 have q1:=w.getD hK (i+k)
 have q2:=w.getD hK (i+k-5)
 unfold VZ
 split
 ·exact (w.mono (by omega)).set _ _ (by omega)
 ·exact (w.mono (by omega)).set _ _ (by omega)
theorem Gi {K a:Nat} {bs out:List Nat} {i:Nat} (w:Yh K out) (hK:0<K) (ha:a<268435456) (hb:Yh 67108864 bs):∀k,Yh (K+k*90071992547409920) (TJ a bs out i k)
 | 0=>by rw[Nat.zero_mul];exact w
 | k+1=>by
  rw[TJ,Nat.add_mul,Nat.one_mul,←Nat.add_assoc]
  exact kH (Gi w hK ha hb k) (by omega) ha (hb.getD (by omega) k)
theorem Gj {xs bs:List Nat} (ha:Yh 268435456 xs) (hb:Yh 67108864 bs):∀i,Yh (1+i*450359962737049600) (Ut xs bs i)
 | 0=>Yh.Ov (by omega) (by omega) (by omega) (by omega) (by omega)
 | i+1=>by
  rw[Ut]
  exact (Gi (Gj ha hb i) (by omega) (ha.getD (by omega) i) hb 5).mono (by omega)
theorem Oy:∀{l:List Nat} {i x:Nat},i<l.length→Yj (l.set i (l.getD i 0+x))=Yj l+x*67108864 ^ i
 | y :: l,0,x,_=>by simp only[List.set_cons_zero,List.getD_cons_zero,Yj,Nat.pow_zero,Nat.mul_one];omega
 | y :: l,i+1,x,h=>by
  simp only[List.set_cons_succ,List.getD_cons_succ,Yj]
  rw[Oy (l:=l) (i:=i) (x:=x) (by simpa using h),Nat.pow_succ,←Nat.mul_assoc]
  omega
theorem X5:67108864 ^ 5=Vh+5:=rfl
theorem ZcR (v a b y P:Nat):(v+5*a*b*y)%P=(v+a*b*(y*(P+5)))%P:=by
 have e:a*b*(y*(P+5))=5*a*b*y+P*(a*b*y):=by
  rw[Nat.mul_add,Nat.mul_add,Nat.add_comm]
  congr 1
  ·rw[Nat.mul_comm y 5,←Nat.mul_assoc,Nat.mul_comm (a*b) 5,←Nat.mul_assoc 5 a b]
  ·rw[Nat.mul_comm y P,←Nat.mul_assoc,Nat.mul_comm (a*b) P,Nat.mul_assoc]
 rw[e,←Nat.add_assoc,Nat.add_mul_mod_self_left]
theorem dQ {a b:Nat} {out:List Nat} {i k:Nat} (hl:out.length=5) (hi:i<5) (hk:k<5):Yj (VZ a b out i k)%Vh=(Yj out+a*b*67108864 ^ (i+k))%Vh:=by
 unfold VZ
 split
 ·rename_i h
  rw[Oy (by omega)]
 ·rename_i h
  rw[Oy (by omega)]
  obtain⟨j,hj⟩:∃j,i+k=j+5:=⟨i+k-5,by omega⟩
  rw[hj,Nat.add_sub_cancel,Nat.pow_add,X5]
  exact ZcR _ _ _ _ _
def qD (bs:List Nat):Nat→Nat
 | 0=>0
 | k+1=>qD bs k+bs.getD k 0*67108864 ^ k
theorem Ee {bs:List Nat} (h:bs.length=5):qD bs 5=Yj bs:=by
 obtain⟨a,b,c,d,e,rfl⟩:=Ov h
 simp only[qD,Yj,List.getD_cons_zero,List.getD_cons_succ]
 omega
theorem Ef {a:Nat} {bs out:List Nat} {i:Nat} (hl:out.length=5) (hi:i<5):∀k,k≤5→Yj (TJ a bs out i k)%Vh=(Yj out+a*67108864 ^ i*qD bs k)%Vh
 | 0,_=>by rw[TJ,qD,Nat.mul_zero,Nat.add_zero]
 | k+1,hk=>by
  rw[TJ,dQ (by rw[Wn,hl]) hi (by omega),Nat.add_mod,Ef hl hi k (by omega),←Nat.add_mod,qD,Nat.mul_add,←Nat.add_assoc,Nat.pow_add]
  congr 2
  rw[Nat.mul_assoc,Nat.mul_assoc a]
  congr 1
  rw[←Nat.mul_assoc,Nat.mul_comm (bs.getD k 0),Nat.mul_assoc]
theorem Eg {xs bs:List Nat} (hb:bs.length=5):∀i,i≤5→Yj (Ut xs bs i)%Vh=(qD xs i*Yj bs)%Vh
 | 0,_=>by rw[qD,Nat.zero_mul];rfl
 | i+1,hi=>by
  rw[Ut,Ef (Wo xs bs i) (by omega) 5 (by omega),Nat.add_mod,Eg hb i (by omega),←Nat.add_mod,Ee hb,qD,Nat.add_mul]
theorem IP {xs bs:List Nat} (ha:xs.length=5) (hb:bs.length=5) (wa:Yh 268435456 xs) (wb:Yh 67108864 bs) :
  Yh (2 ^ 61) (Ut xs bs 5)∧(Ut xs bs 5).length=5∧Yj (Ut xs bs 5)%Vh=Yj xs*Yj bs%Vh:=
 ⟨(Gj wa wb 5).mono (by decide),Wo xs bs 5,by rw[Eg hb 5 (by omega),Ee ha]⟩
def Sv (m:List Nat):Nat→List Nat
 | 0=>m.set 0 (m.getD 0 0+5)
 | i+1=>((Sv m i).set (i+1) ((Sv m i).getD (i+1) 0+(Sv m i).getD i 0/67108864)).set i ((Sv m i).getD i 0%67108864)
theorem Lz (m:List Nat):∀i,(Sv m i).length=m.length
 | 0=>by simp[Sv]
 | i+1=>by rw[Sv,List.length_set,List.length_set,Lz m i]
theorem kI {m:List Nat} (w:Yh 134217728 m):∀i,i≤10→Yh (134217728+6+i*8) (Sv m i)
 | 0,_=>(w.mono (by omega)).set _ _ (by have:=w.getD (by omega) 0;omega)
 | i+1,hi=>by
  have h:=kI w i (by omega)
  have q1:=h.getD (by omega) (i+1)
  have q2:=h.getD (by omega) i
  rw[Sv]
  exact ((h.mono (by omega)).set _ _ (by omega)).set _ _ (by omega)
def TK (m:List Nat):List Nat:=if (Sv m 4).getD 4 0/67108864=0 then m else (Sv m 4).set 4 ((Sv m 4).getD 4 0%67108864)
theorem ZkH {A B C P:Nat} (h1:A+5=B) (h2:B=C) (h3:C<P+5):A<P:=by omega
theorem ZkI {A B C q:Nat} (h1:A+5=B) (h2:B=C+1361129467683753853853498429727072845824*q) (hv:A<1361129467683753853853498429727072845824+2 ^ 44) (h0:¬q=0):q=1:=by omega
theorem ZkJ {A B C P:Nat} (h1:A+5=B) (h2:B=C+(P+5)) (hv:A<P+5+2 ^ 44) (hP:2 ^ 45<P):A=C+P*1∧C<P:=by omega
theorem dR {m:List Nat} (hl:m.length=5) (w:Yh 134217728 m) (hv:Yj m<4*H16+2 ^ 44):(TK m).length=5∧Yh 134217728 (TK m)∧Yj (TK m)=Yj m%Vh:=by
 obtain⟨a,b,c,d,e,rfl⟩:=Ov hl
 obtain⟨wa,wb,wc,wd,we⟩:=w.qC
 obtain⟨t0,ht0⟩:∃t,t=a+5:=⟨_,rfl⟩
 obtain⟨t1,ht1⟩:∃t,t=b+t0/67108864:=⟨_,rfl⟩
 obtain⟨t2,ht2⟩:∃t,t=c+t1/67108864:=⟨_,rfl⟩
 obtain⟨t3,ht3⟩:∃t,t=d+t2/67108864:=⟨_,rfl⟩
 obtain⟨t4,ht4⟩:∃t,t=e+t3/67108864:=⟨_,rfl⟩
 have hY:Sv [a,b,c,d,e] 4=[t0%67108864,t1%67108864,t2%67108864,t3%67108864,t4]:=by rw[ht4,ht3,ht2,ht1,ht0];rfl
 have hW:TK [a,b,c,d,e]=if t4/67108864=0 then [a,b,c,d,e] else [t0%67108864,t1%67108864,t2%67108864,t3%67108864,t4%67108864]:=by unfold TK;rw[hY];rfl
 have e16:H16=340282366920938463463374607431768211456:=rfl
 rw[hW]
 have hs:Yj [a,b,c,d,e]+5=Yj [t0%67108864,t1%67108864,t2%67108864,t3%67108864,t4]:=by simp only[Yj];omega
 have hx:Yj [t0%67108864,t1%67108864,t2%67108864,t3%67108864,t4]=Yj [t0%67108864,t1%67108864,t2%67108864,t3%67108864,t4%67108864]+(Vh+5)*(t4/67108864):=by rw[Ph];simp only[Yj];omega
 have hb4:Yj [t0%67108864,t1%67108864,t2%67108864,t3%67108864,t4%67108864]<Vh+5:=by rw[Ph];simp only[Yj];omega
 have hH:4*H16=Vh+5:=rfl
 rw[hH]at hv
 split
 ·rename_i h0
  refine⟨rfl,w,?_⟩
  rw[h0,Nat.mul_zero,Nat.add_zero]at hx
  rw[Nat.mod_eq_of_lt (ZkH hs hx hb4)]
 ·rename_i h0
  refine⟨rfl,Yh.Ov (by omega) (by omega) (by omega) (by omega) (by omega),?_⟩
  have h1:t4/67108864=1:=by
   rw[Ph]at hx hv
   exact ZkI hs hx hv h0
  rw[h1,Nat.mul_one]at hx
  obtain⟨hk,hC⟩:=ZkJ hs hx hv (by rw[Ph];decide)
  rw[hk,Nat.add_mul_mod_self_left,Nat.mod_eq_of_lt hC]
theorem Eh (T:World) (h:Hp) (bk:Nat) (l:List Nat) (hl:l.length=5) (w:Yh (2 ^ 61) l) (hb:h[bk]? = some (Yb l)) :
  Zc Tryz.prog T 147 #[.pointer (some ⟨bk,0,none⟩)] h fun v' h'=>h'=h.setIfInBounds bk (Yb (YZ l)):=
 (Bo T h bk l hl w hb).mono fun v' h' ⟨a,ha,hh⟩=>by subst ha;exact hh
theorem Gk {l:List Nat} {i:Nat} (hi:i<l.length):nth (l.map uv) i=some (.int .u64 (l.getD i 0:Nat)):=by
 rw[Yi,List.getElem?_map,List.getElem?_eq_getElem hi,List.getD_eq_getElem?_getD,List.getElem?_eq_getElem hi];rfl
theorem TL {g:Hp} {b:Nat} {l:List Nat} (hl:l.length=5) (hx:g[b]? = some (Yb l)):rd g ⟨b,0,none⟩ 5=some (l.map uv):=by
 unfold Yb at hx
 rw[List.append_nil]at hx
 exact Zo hx (by simpa using hl)
set_option maxHeartbeats 1000000 in
theorem Ei (T:World) (h:Hp) (xs bs:List Nat) (ha:xs.length=5) (hb:bs.length=5) (wa:Yh 268435456 xs) (wb:Yh 67108864 bs) :
  Zc Tryz.prog T 132 #[.agg (xs.map uv).toArray,.agg (bs.map uv).toArray] h fun v' h'=>v'=.agg ((YZ (Ut xs bs 5)).map uv).toArray∧Zf h.size h h':=by
 have la:(xs.map uv).length=5:=by simpa using ha
 have lb:(bs.map uv).length=5:=by simpa using hb
 have ta:(xs.map uv).take 5=xs.map uv:=List.take_of_length_le (by omega)
 refine Zc.Zh (args:=[_,_]) Tryz.func132 rfl rfl rfl rfl ?_
 simp -implicitDefEqProofs only[go_sem,↓reduceIte,la,lb,ta]
 obtain⟨H,hH⟩:=Zy (((((h.push (.cells (xs.map uv).toArray 227)).push (.cells (bs.map uv).toArray 227)).push (.cells #[.int .u64 0,.int .u64 0,.int .u64 0,.int .u64 0,.int .u64 0] 227)).push (.cells #[.int .u64 0,.int .u64 0,.int .u64 0,.int .u64 0,.int .u64 0] 227)):Hp)
 have HB:Zf h.size h H:=by rw[hH];exact (((Zf.push (Nat.le_refl _) _).Yf (by simp) _).Yf (by simp;omega) _).Yf (by simp;omega) _
 have Hs:H.size=h.size+1+1+1+1:=by rw[hH];simp
 have H1:H[h.size+1]? = some (Yb bs):=by
  rw[hH,Zq (by simp),Zq (by simp)]
  have:=Zb (h:=h.push (.cells (xs.map uv).toArray 227)) (o:=.cells (bs.map uv).toArray 227)
  rw[Array.size_push]at this
  rw[this];unfold Yb;rw[List.append_nil]
 have H3:H[h.size+1+1+1]? = some (Yb (Ut xs bs 0)):=by
  have:=Zb (h:=(((h.push (.cells (xs.map uv).toArray 227)).push (.cells (bs.map uv).toArray 227)).push (.cells #[.int .u64 0,.int .u64 0,.int .u64 0,.int .u64 0,.int .u64 0] 227))) (o:=.cells #[.int .u64 0,.int .u64 0,.int .u64 0,.int .u64 0,.int .u64 0] 227)
  rw[Array.size_push,Array.size_push,Array.size_push]at this
  rw[hH,this];rfl
 have H2:H[h.size+1+1]? = some (Yb [0,0,0,0,0]):=by
  have:=Zb (h:=((h.push (.cells (xs.map uv).toArray 227)).push (.cells (bs.map uv).toArray 227))) (o:=.cells #[.int .u64 0,.int .u64 0,.int .u64 0,.int .u64 0,.int .u64 0] 227)
  rw[Array.size_push,Array.size_push]at this
  rw[hH,Zq (by simp),this];rfl
 rw[←hH]
 clear hH
 obtain⟨bo,hbo⟩:=Zy (h.size+1+1+1)
 obtain⟨br,hbr⟩:=Zy (h.size+1+1)
 obtain⟨bb,UX⟩:=Zy (h.size+1)
 rw[←hbo]at H3 ⊢
 rw[←hbr]at H2 ⊢
 rw[←UX]at H1 ⊢
 refine VS.ZV (fun F g=>F 3=.pointer (some ⟨bb,0,none⟩)∧F 4=.pointer (some ⟨br,0,none⟩)∧F 5=.pointer (some ⟨bo,0,none⟩)∧F 10=.agg (xs.map uv).toArray∧∃i:Nat,i≤5∧F 11=.int .i64 i∧g=H.setIfInBounds bo (Yb (Ut xs bs i)))
  (fun F _=>5-(vi (F 11)).toNat) rfl ⟨rfl,rfl,rfl,rfl,0,by omega,rfl,(QY H3).symm⟩ ?_
 rintro F g ⟨f3,f4,f5,f10,i,hi,f11,rfl⟩
 by_cases ZA:i<5
 ·have ZI:(i:Int)<5:=by omega
  have n1:=Gk (l:=xs) (i:=i) (by omega)
  have H1':(H.setIfInBounds bo (Yb (Ut xs bs i)))[bb]? = some (Yb bs):=by rw[Array.getElem?_setIfInBounds,if_neg (by omega)];exact H1
  have r1:=TL hb H1'
  have wA:=wa.getD (by omega) i
  have xS:Ut xs bs (i+1)=TJ (xs.getD i 0) bs (Ut xs bs i) i 5:=rfl
  obtain⟨a,hax⟩:=Zy (xs.getD i 0)
  rw[←hax]at n1 wA xS
  simp -implicitDefEqProofs only[go_sem,↓reduceIte,f3,f4,f5,f10,f11,ZI,Int.toNat_natCast,n1,r1]
  have wO:Yh (1+i*450359962737049600) (Ut xs bs i):=Gj wa wb i
  have lO:=Wo xs bs i
  obtain⟨o,ho⟩:=Zy (Ut xs bs i)
  rw[←ho]at xS wO lO ⊢
  refine VS.ZV (fun F g=>F 3=.pointer (some ⟨bb,0,none⟩)∧F 4=.pointer (some ⟨br,0,none⟩)∧F 5=.pointer (some ⟨bo,0,none⟩)∧F 10=.agg (xs.map uv).toArray∧F 11=.int .i64 i∧F 6=.int .i64 i∧F 7=.int .u64 a∧F 15=.agg (bs.map uv).toArray∧∃k:Nat,k≤5∧F 16=.int .i64 k∧g=H.setIfInBounds bo (Yb (TJ a bs o i k)))
   (fun F _=>5-(vi (F 16)).toNat) rfl ⟨f3,f4,f5,f10,f11,rfl,rfl,rfl,0,by omega,rfl,rfl⟩ ?_
  clear f3 f4 f5 f10 f11 F
  rintro F g ⟨f3,f4,f5,f10,f11,f6,f7,f15,k,hk,f16,rfl⟩
  by_cases hlk:k<5
  ·have ZcT:(k:Int)<5:=by omega
   have n2:=Gk (l:=bs) (i:=k) (by omega)
   have wB:=wb.getD (by omega) k
   have V0:TJ a bs o i (k+1)=VZ a (bs.getD k 0) (TJ a bs o i k) i k:=rfl
   obtain⟨b,hbx⟩:=Zy (bs.getD k 0)
   rw[←hbx]at n2 wB V0
   have wR:=Gi wO (by omega) wA wb (i:=i) k
   have lR:(TJ a bs o i k).length=5:=by rw[Wn,lO]
   have hx:(H.setIfInBounds bo (Yb (TJ a bs o i k)))[bo]? = some (Yb (TJ a bs o i k)):=ZO H3
   have hp:=Ox wA wB
   have hp5:=Ly wA wB
   obtain⟨r,hr⟩:=Zy (TJ a bs o i k)
   rw[←hr]at V0 wR lR hx ⊢
   obtain⟨G,hG⟩:=Zy (H.setIfInBounds bo (Yb r))
   rw[←hG]at hx ⊢
   have eik:(i:Int)+(k:Int)=((i+k:Nat):Int):=rfl
   by_cases h5:i+k<5
   ·have xV:((i+k:Nat):Int)<5:=by omega
    have g1:=ZJ hx (i:=i+k) (by omega)
    have y1:=wR.getD (by omega) (i+k)
    unfold uv at g1
    have hs:VZ a b r i k=r.set (i+k) (r.getD (i+k) 0+a*b):=by unfold VZ;rw[if_pos h5]
    rw[hs]at V0
    obtain⟨y,hy⟩:=Zy (r.getD (i+k) 0)
    rw[←hy]at g1 y1 V0
    have e1:(a:Int)*(b:Int)=((a*b:Nat):Int):=(Int.natCast_mul a b).symm
    have e2:((a*b:Nat):Int)%18446744073709551616=((a*b:Nat):Int):=by omega
    obtain⟨p,hp'⟩:=Zy (a*b)
    rw[←hp']at e1 e2 hp V0
    have e3:(y:Int)+(p:Int)=((y+p:Nat):Int):=rfl
    have e4:((y+p:Nat):Int)%18446744073709551616=((y+p:Nat):Int):=by omega
    have c1:Jg G ⟨bo,i+k,none⟩ (.int .u64 (y+p:Nat))=_:=ZY (f:=uv) hx (i:=i+k) (by omega) (y+p) rfl
    simp -implicitDefEqProofs only[go_sem,↓reduceIte,f3,f4,f5,f6,f7,f10,f11,f15,f16,ZcT,Int.toNat_natCast,n2,eik,xV,g1,e1,e2,e3,e4,c1]
    refine⟨⟨f3,f4,f5,f10,f11,f6,f7,f15,k+1,hlk,rfl,?_⟩,?_⟩
    ·rw[hG,set_set,V0];rfl
    ·simp only[vi,Zj,↓reduceIte,f16];omega
   ·have xV:¬((i+k:Nat):Int)<5:=by omega
    have g1:=ZJ hx (i:=i+k-5) (by omega)
    have y1:=wR.getD (by omega) (i+k-5)
    unfold uv at g1
    have hs:VZ a b r i k=r.set (i+k-5) (r.getD (i+k-5) 0+5*a*b):=by unfold VZ;rw[if_neg h5]
    rw[hs]at V0
    obtain⟨y,hy⟩:=Zy (r.getD (i+k-5) 0)
    rw[←hy]at g1 y1 V0
    have e0:(5:Int)*(a:Int)=((5*a:Nat):Int):=rfl
    have oe:((5*a:Nat):Int)%18446744073709551616=((5*a:Nat):Int):=by omega
    have e1:((5*a:Nat):Int)*(b:Int)=((5*a*b:Nat):Int):=(Int.natCast_mul (5*a) b).symm
    have e2:((5*a*b:Nat):Int)%18446744073709551616=((5*a*b:Nat):Int):=by omega
    obtain⟨p,hp'⟩:=Zy (5*a*b)
    rw[←hp']at e1 e2 hp5 V0
    have e3:(y:Int)+(p:Int)=((y+p:Nat):Int):=rfl
    have e4:((y+p:Nat):Int)%18446744073709551616=((y+p:Nat):Int):=by omega
    have e5:((i+k:Nat):Int)-5=((i+k-5:Nat):Int):=by omega
    have e6:((i+k-5:Nat):Int)<5:=by omega
    have c1:Jg G ⟨bo,i+k-5,none⟩ (.int .u64 (y+p:Nat))=_:=ZY (f:=uv) hx (i:=i+k-5) (by omega) (y+p) rfl
    simp -implicitDefEqProofs only[go_sem,↓reduceIte,f3,f4,f5,f6,f7,f10,f11,f15,f16,ZcT,Int.toNat_natCast,n2,eik,xV,g1,e0,oe,e1,e2,e3,e4,e5,e6,c1]
    refine⟨⟨f3,f4,f5,f10,f11,f6,f7,f15,k+1,hlk,rfl,?_⟩,?_⟩
    ·rw[hG,set_set,V0];rfl
    ·simp only[vi,Zj,↓reduceIte,f16];omega
  ·have YF:¬(k:Int)<5:=by omega
   obtain rfl:k=5:=by omega
   have c5:((5:Nat):Int)=5:=rfl
   rw[c5]at f16 YF
   simp -implicitDefEqProofs only[go_sem,↓reduceIte,f3,f4,f5,f10,f11,f16,YF]
   refine⟨⟨f3,f4,f5,f10,i+1,ZA,rfl,?_⟩,?_⟩
   ·rw[xS]
   ·simp only[vi,Zj,↓reduceIte,f11];omega
 ·have YF:¬(i:Int)<5:=by omega
  obtain rfl:i=5:=by omega
  have c5:((5:Nat):Int)=5:=rfl
  rw[c5]at f11 YF
  have hx:(H.setIfInBounds bo (Yb (Ut xs bs 5)))[bo]? = some (Yb (Ut xs bs 5)):=ZO H3
  have S9:(H.setIfInBounds bo (Yb (Ut xs bs 5)))[br]? = some (Yb [0,0,0,0,0]):=by rw[Array.getElem?_setIfInBounds,if_neg (by omega)];exact H2
  have xW:Zf h.size h (H.setIfInBounds bo (Yb (Ut xs bs 5))):=HB.Zk (by omega) _
  obtain⟨w1,w2,w3⟩:=IP ha hb wa wb
  obtain⟨o,ho⟩:=Zy (Ut xs bs 5)
  rw[←ho]at hx S9 xW w1 w2 ⊢
  generalize H.setIfInBounds bo (Yb o)=G at *
  simp -implicitDefEqProofs only[go_sem,↓reduceIte,f3,f4,f5,f10,f11,YF]
  refine (Eh T G bo o w2 w1 hx).use ?_
  rintro _ _ rfl
  obtain⟨m1,m2,m3⟩:=Si w2 w1
  have Br:(G.setIfInBounds bo (Yb (YZ o)))[bo]? = some (Yb (YZ o)):=ZO hx
  have DO:(G.setIfInBounds bo (Yb (YZ o)))[br]? = some (Yb [0,0,0,0,0]):=by rw[Array.getElem?_setIfInBounds,if_neg (by omega)];exact S9
  have HB3:Zf h.size h (G.setIfInBounds bo (Yb (YZ o))):=xW.Zk (by omega) _
  generalize G.setIfInBounds bo (Yb (YZ o))=G2 at *
  have r3:=TL m1 Br
  have lc:((YZ o).map uv).length=5:=by simpa using m1
  have w4:=ZP (h:=G2) (b:=br) (l:=([0,0,0,0,0].map uv)) (by unfold Yb at DO;rw[List.append_nil]at DO;exact DO) 0 ((YZ o).map uv)
  have ho4:((YZ o).map uv).all Z6=true:=by simp[uv,Z6]
  rw[if_pos ⟨by simp[lc],ho4⟩,ZM (by simp[lc])]at w4
  have tc:((YZ o).map uv).take 5=(YZ o).map uv:=List.take_of_length_le (by omega)
  have hlr:=Za DO
  simp -implicitDefEqProofs only[go_sem,↓reduceIte,f3,f4,f5,r3,w4,lc,tc,hlr]
  exact HB3.Zk (by omega) _
theorem Ej (T:World) (h:Hp) (xs:List Nat) (ha:xs.length=5) (wa:Yh 268435456 xs) :
  Zc Tryz.prog T 133 #[.agg (xs.map uv).toArray] h fun v' h'=>v'=.agg ((TK (YZ xs)).map uv).toArray∧Zf h.size h h':=by
 have la:(xs.map uv).length=5:=by simpa using ha
 refine Zc.Zh (args:=[_]) Tryz.func133 rfl rfl rfl rfl ?_
 simp -implicitDefEqProofs only[go_sem,↓reduceIte,la]
 obtain⟨H,hH⟩:=Zy (((h.push (.cells (xs.map uv).toArray 227)).push (.cells #[.int .u64 0,.int .u64 0,.int .u64 0,.int .u64 0,.int .u64 0] 227)):Hp)
 have HB:Zf h.size h H:=by rw[hH];exact ((Zf.push (Nat.le_refl _) _).Yf (by simp) _)
 have Hs:H.size=h.size+1+1:=by rw[hH];simp
 have H0:H[h.size]? = some (Yb xs):=by
  rw[hH,Zq (by simp),Zb];unfold Yb;rw[List.append_nil]
 have H1:H[h.size+1]? = some (Yb [0,0,0,0,0]):=by
  have:=Zb (h:=(h.push (.cells (xs.map uv).toArray 227))) (o:=.cells #[.int .u64 0,.int .u64 0,.int .u64 0,.int .u64 0,.int .u64 0] 227)
  rw[Array.size_push]at this
  rw[hH,this];rfl
 rw[←hH]
 clear hH
 refine (Eh T H h.size xs ha (wa.mono (by decide)) H0).use ?_
 rintro _ _ rfl
 obtain⟨m1,m2,m3,m4⟩:=Si ha (wa.mono (by decide))
 have Rd:(H.setIfInBounds h.size (Yb (YZ xs)))[h.size]? = some (Yb (YZ xs)):=ZO H0
 have Qg:(H.setIfInBounds h.size (Yb (YZ xs)))[h.size+1]? = some (Yb [0,0,0,0,0]):=by rw[Array.getElem?_setIfInBounds,if_neg (by omega)];exact H1
 have xW:Zf h.size h (H.setIfInBounds h.size (Yb (YZ xs))):=HB.Zk (Nat.le_refl _) _
 have Hs2:(H.setIfInBounds h.size (Yb (YZ xs))).size=h.size+1+1:=by rw[Array.size_setIfInBounds];exact Hs
 obtain⟨m,hm⟩:=Zy (YZ xs)
 rw[←hm]at Rd Qg xW Hs2 m1 m2 m3 m4 ⊢
 generalize H.setIfInBounds h.size (Yb m)=G at *
 have r0:=TL m1 Rd
 have lm:(m.map uv).length=5:=by simpa using m1
 have hom:(m.map uv).all Z6=true:=by simp[uv,Z6]
 have lp:Ym [Value.int .u64 0,.int .u64 0,.int .u64 0,.int .u64 0,.int .u64 0] 0 (m.map uv)=m.map uv:=ZM lm
 have n0:=Gk (l:=m) (i:=0) (by omega)
 have y0:=m2.getD (by omega) 0
 have hw0:Sv m 0=m.set 0 (m.getD 0 0+5):=rfl
 obtain⟨y,hy⟩:=Zy (m.getD 0 0)
 rw[←hy]at n0 y0 hw0
 have e1:(y:Int)+5=((y+5:Nat):Int):=rfl
 have e2:((y+5:Nat):Int)%18446744073709551616=((y+5:Nat):Int):=by omega
 simp -implicitDefEqProofs only[go_sem,↓reduceIte,r0,lm,hom,Hs2,lp,n0,e1,e2]
 have hms:(m.map uv).set 0 (.int .u64 (y+5:Nat))=(m.set 0 (y+5)).map uv:=by rw[List.map_set];rfl
 rw[hms,←hw0]
 obtain⟨J,hJ⟩:=Zy (G.push (.cells ((Sv m 0).map uv).toArray 227))
 have J3:J[h.size+1+1]? = some (Yb (Sv m 0)):=by
  rw[hJ,←Hs2,Zb];unfold Yb;rw[List.append_nil]
 have J0:J[h.size]? = some (Yb m):=by rw[hJ,Zq (by omega)];exact Rd
 have J1:J[h.size+1]? = some (Yb [0,0,0,0,0]):=by rw[hJ,Zq (by omega)];exact Qg
 have JB:Zf h.size h J:=by rw[hJ];exact xW.Yf (by omega) _
 rw[←hJ]
 clear hJ
 obtain⟨b3,hb3⟩:∃b,b=h.size+1+1:=⟨_,rfl⟩
 obtain⟨b2,Io⟩:∃b,b=h.size+1:=⟨_,rfl⟩
 rw[←hb3]at J3 ⊢
 rw[←Io]at J1 ⊢
 refine VS.ZV (fun F g=>F 1=.pointer (some ⟨h.size,0,none⟩)∧F 2=.pointer (some ⟨b2,0,none⟩)∧F 3=.pointer (some ⟨b3,0,none⟩)∧∃i:Nat,i≤4∧F 11=.int .i64 i∧g=J.setIfInBounds b3 (Yb (Sv m i)))
  (fun F _=>4-(vi (F 11)).toNat) rfl ⟨rfl,rfl,rfl,0,by omega,rfl,(QY J3).symm⟩ ?_
 rintro F g ⟨f1,f2,f3,i,hi,f11,rfl⟩
 have hx:(J.setIfInBounds b3 (Yb (Sv m i)))[b3]? = some (Yb (Sv m i)):=ZO J3
 have wY:=kI m2 i (by omega)
 have lY:(Sv m i).length=5:=by rw[Lz,m1]
 by_cases ZA:i<4
 ·have ZI:(i:Int)<4:=by omega
  have YE:Sv m (i+1)=((Sv m i).set (i+1) ((Sv m i).getD (i+1) 0+(Sv m i).getD i 0/67108864)).set i ((Sv m i).getD i 0%67108864):=rfl
  obtain⟨r,hr⟩:=Zy (Sv m i)
  rw[←hr]at hx wY lY YE ⊢
  obtain⟨G1,gQ⟩:=Zy (J.setIfInBounds b3 (Yb r))
  rw[←gQ]at hx ⊢
  have g1:=ZJ hx (i:=i+1) (by omega)
  have g0:=ZJ hx (i:=i) (by omega)
  have q1:=wY.getD (by omega) (i+1)
  have q0:=wY.getD (by omega) i
  unfold uv at g0 g1
  obtain⟨a,hax⟩:=Zy (r.getD i 0)
  obtain⟨b,hbx⟩:=Zy (r.getD (i+1) 0)
  rw[←hax]at g0 q0 YE
  rw[←hbx]at g1 q1 YE
  have s1:=aG a
  have s2:=TI a (by omega)
  have t1:(b:Int)+((a/67108864:Nat):Int)=((b+a/67108864:Nat):Int):=rfl
  have t2:((b+a/67108864:Nat):Int)%18446744073709551616=((b+a/67108864:Nat):Int):=by omega
  have ei:(i:Int)+1=((i+1:Nat):Int):=rfl
  have aH:((i+1:Nat):Int)<5:=by omega
  have ZkN:(i:Int)<5:=by omega
  have c1:Jg G1 ⟨b3,i+1,none⟩ (.int .u64 (b+a/67108864:Nat))=_:=ZY (f:=uv) hx (i:=i+1) (by omega) (b+a/67108864) rfl
  have Gl:=ZO (o:=.cells ((r.set (i+1) (b+a/67108864)).map uv++[]).toArray 227) hx
  have l1:(r.set (i+1) (b+a/67108864)).length=5:=by rw[List.length_set,lY]
  have v1:(r.set (i+1) (b+a/67108864)).getD i 0=a:=by rw[Pg (by omega),←hax]
  obtain⟨r1,gS⟩:=Zy (r.set (i+1) (b+a/67108864))
  rw[←gS]at c1 Gl l1 v1 YE
  obtain⟨G2,az⟩:=Zy (G1.setIfInBounds b3 (.cells (r1.map uv++[]).toArray 227))
  rw[←az]at c1 Gl
  have g2:=ZJ Gl (i:=i) (by omega)
  unfold uv at g2
  rw[v1]at g2
  have c2:Jg G2 ⟨b3,i,none⟩ (.int .u64 (a%67108864:Nat))=_:=ZY (f:=uv) Gl (i:=i) (by omega) (a%67108864) rfl
  simp -implicitDefEqProofs only[go_sem,↓reduceIte,f1,f2,f3,f11,ZI]
  refine VS.w (b3+1) [10] (.q 0 (.q 1 (.q 2 (.q 3 (.q 4 (.q 5 (.q 6 (.q 7 (.q 8 (.q 9 (.w 10 .nil))))))))))) mixed (by kernel_rfl) ?_
  simp -implicitDefEqProofs only[go_sem,↓reduceIte,f1,f2,f3,f11,ei,aH,ZkN,Int.toNat_natCast,Nat.zero_add,g0,g1,s1,t1,t2,c1,g2,s2,c2]
  refine⟨⟨f1,f2,f3,i+1,ZA,rfl,?_⟩,?_⟩
  ·rw[az,set_set,gQ,set_set,YE];rfl
  ·simp only[vi,Zj,↓reduceIte,f11];omega
 ·have YF:¬(i:Int)<4:=by omega
  obtain rfl:i=4:=by omega
  have c4:((4:Nat):Int)=4:=rfl
  rw[c4]at f11 YF
  have hW:TK m=if (Sv m 4).getD 4 0/67108864=0 then m else (Sv m 4).set 4 ((Sv m 4).getD 4 0%67108864):=rfl
  have dS:(J.setIfInBounds b3 (Yb (Sv m 4)))[h.size]? = some (Yb m):=by rw[Array.getElem?_setIfInBounds,if_neg (by omega)];exact J0
  have Gl:(J.setIfInBounds b3 (Yb (Sv m 4)))[b2]? = some (Yb [0,0,0,0,0]):=by rw[Array.getElem?_setIfInBounds,if_neg (by omega)];exact J1
  have HB3:Zf h.size h (J.setIfInBounds b3 (Yb (Sv m 4))):=JB.Zk (by omega) _
  obtain⟨r,hr⟩:=Zy (Sv m 4)
  rw[←hr]at hx wY lY dS Gl HB3 hW ⊢
  generalize J.setIfInBounds b3 (Yb r)=G1 at *
  have g4:=ZJ hx (i:=4) (by omega)
  have q4:=wY.getD (by omega) 4
  unfold uv at g4
  obtain⟨a,hax⟩:=Zy (r.getD 4 0)
  rw[←hax]at g4 q4 hW
  have s1:=aG a
  have s2:=TI a (by omega)
  have w4:=fun (k:List Nat) (hk:k.length=5)=>ZP (h:=G1) (b:=b2) (l:=([0,0,0,0,0].map uv)) (by unfold Yb at Gl;rw[List.append_nil]at Gl;exact Gl) 0 (k.map uv)
  have h2s:=Za Gl
  by_cases h0:a/67108864=0
  ·have h0':((a/67108864:Nat):Int)=0:=by omega
   rw[if_pos h0]at hW
   have w5:=w4 m m1
   rw[if_pos ⟨by simp[lm],hom⟩,ZM (by simp[lm])]at w5
   have r1:=TL m1 dS
   have tm:(m.map uv).take 5=m.map uv:=List.take_of_length_le (by omega)
   simp -implicitDefEqProofs only[go_sem,↓reduceIte,f1,f2,f3,f11,YF,g4,s1,h0',r1,w5,lm,tm,h2s]
   exact⟨by rw[hW],HB3.Zk (by omega) _⟩
  ·have h0':¬((a/67108864:Nat):Int)=0:=by omega
   rw[if_neg h0]at hW
   have c1:Jg G1 ⟨b3,4,none⟩ (.int .u64 (a%67108864:Nat))=_:=ZY (f:=uv) hx (i:=4) (by omega) (a%67108864) rfl
   have hz:=ZO (o:=.cells ((r.set 4 (a%67108864)).map uv++[]).toArray 227) hx
   have l1:(r.set 4 (a%67108864)).length=5:=by rw[List.length_set,lY]
   have HB4:Zf h.size h (G1.setIfInBounds b3 (.cells ((r.set 4 (a%67108864)).map uv++[]).toArray 227)):=HB3.Zk (by omega) _
   have Bt:(G1.setIfInBounds b3 (.cells ((r.set 4 (a%67108864)).map uv++[]).toArray 227))[b2]? = some (Yb [0,0,0,0,0]):=by rw[Array.getElem?_setIfInBounds,if_neg (by omega)];exact Gl
   rw[hW]
   obtain⟨r1,gS⟩:=Zy (r.set 4 (a%67108864))
   rw[←gS]at c1 hz l1 HB4 Bt ⊢
   generalize G1.setIfInBounds b3 (.cells (r1.map uv++[]).toArray 227)=G2 at *
   have r4:=TL l1 hz
   have lr:(r1.map uv).length=5:=by simpa using l1
   have hor:(r1.map uv).all Z6=true:=by simp[uv,Z6]
   have w5:=ZP (h:=G2) (b:=b2) (l:=([0,0,0,0,0].map uv)) (by unfold Yb at Bt;rw[List.append_nil]at Bt;exact Bt) 0 (r1.map uv)
   rw[if_pos ⟨by simp[lr],hor⟩,ZM (by simp[lr])]at w5
   have tm:(r1.map uv).take 5=r1.map uv:=List.take_of_length_le (by omega)
   have ZkO:=Za Bt
   simp -implicitDefEqProofs only[go_sem,↓reduceIte,f1,f2,f3,f11,YF,g4,s1,s2,h0',Nat.zero_add,c1,r4,w5,lr,tm,ZkO]
   exact HB4.Zk (by omega) _
def kJ (key:List Nat) (i:Nat):Nat:=if i%4=3 then key.getD i 0%16 else if i%4=0∧0<i then key.getD i 0/4*4 else key.getD i 0
def XS (key:List Nat):List Nat:=(List.range 16).map (kJ key)
def ZcV (data:List Nat) (k:Nat):List Nat:=(data.drop (16*k)).take 16++[1]
def kK (r:Nat) (data:List Nat):Nat→Nat
 | 0=>0
 | k+1=>(kK r data k+YV (ZcV data k))*r%Vh
def qE (key data:List Nat):Nat:=kK (YV (XS key)) data ((data.length+15)/16)+YV ((key.drop 16).take 16)
def Bu (key data:List Nat):List Nat:=(List.range 16).map fun i=>qE key data/256 ^ i%256
theorem K0 (key:List Nat):(XS key).length=16:=by simp[XS]
theorem Ek (key data:List Nat):(Bu key data).length=16:=by simp[Bu]
theorem Sj {h:Hp} {p:Option Addr} {c n:Nat} {l:List Nat} (s:Bs h (.slice p n c) l) {m:Nat} (hm:m≤l.length) (c':Nat):Bs h (.slice p m c') (l.take m):=by
 refine⟨?_,fun x hx=>s.byte x (List.mem_of_mem_take hx)⟩
 obtain⟨p',cap,hv,hl,hc⟩:=s.sl
 simp only[Value.slice.injEq]at hv
 obtain⟨rfl,_,rfl⟩:=hv
 refine⟨_,c',by rw[List.length_take,Nat.min_eq_left hm],by simp,fun Yq=>?_⟩
 obtain⟨b,o,rfl,YL⟩:=hc (by intro e;simp at e;subst e;simp at Yq)
 refine⟨b,o,rfl,fun i hi=>?_⟩
 have ad:i<m∧i<l.length:=by rw[List.length_map,List.length_take]at hi;omega
 rw[YL i (by simp;omega)]
 simp
theorem xX {h:Hp} {p:Option Addr} {c n:Nat} {l:List Nat} (s:Bs h (.slice p n c) l) (hn:l.length=n) {k m:Nat} (hk:k+m≤n) (Qa:n≤c) (c':Nat):Bs h (.slice (C8 p 1 c k) m c') ((l.drop k).take m):=
 Sj (Sf s hn (k:=k) (by omega) Qa c') (by rw[List.length_drop];omega) c'
def WD (key data:List Nat):Int:=if key.length≠32∨4000<data.length then 1 else 0
def kL (B:Nat) (h:Hp) (v:Value) (key data:List Nat):Prop:=∃w,v=.tuple #[w,.int .i64 (WD key data)]∧ZZ B 5 h w (if WD key data=0 then Bu key data else [])
def XT:List (Option IntKind):=rep 32 [some .i64]++rep 8 [none]
theorem QZ:∀{ks:List (Option IntKind)} {vs:List Value} (i:Nat) (v:Value),Yo ks vs=true→(∀k,ks[i]? = some k→Q9 k v=true)→Yo ks (vs.set i v)=true:=by
 intro ks
 induction ks with
 | nil=>intro vs i v h _;cases vs<;>simp[Yo]at h ⊢
 | cons k ks ih=>
  intro vs i v h hk
  cases vs with
  | nil=>simp[Yo]at h
  | cons x vs=>
   simp only[Yo,Bool.and_eq_true]at h
   cases i with
   | zero=>simp only[List.set_cons_zero,Yo,Bool.and_eq_true];exact⟨hk k rfl,h.2⟩
   | succ i=>simp only[List.set_cons_succ,Yo,Bool.and_eq_true];exact⟨h.1,ih i v h.2 (fun k' RP=>hk k' (by simpa using RP))⟩
theorem JS {i:Nat} (hi:i<32) (n:Int):∀k,XT[i]? = some k→Q9 k (.int .i64 n)=true:=by
 intro k hk
 have:∀i<32,XT[i]? = some (some .i64):=by decide
 rw[this i hi]at hk
 obtain rfl:=Option.some.inj hk
 rfl
theorem El {i:Nat} (h1:32≤i) (b:Bool):∀k,XT[i]? = some k→Q9 k (.bool b)=true:=by
 intro k hk
 have:∀j<8,XT[32+j]? = some none:=by decide
 by_cases h2:i<40
 ·have:=this (i-32) (by omega)
  rw[show 32+(i-32)=i by omega]at this
  rw[this]at hk
  obtain rfl:=Option.some.inj hk
  rfl
 ·rw[List.getElem?_eq_none (by show 40≤i;omega)]at hk;cases hk
theorem Pj {g:Hp} {b:Nat} {o:Obj} (hx:g[b]? = some o):g.setIfInBounds b o=g:=by
 apply Array.ext_getElem?
 intro i
 rw[Array.getElem?_setIfInBounds]
 by_cases hb:b=i
 ·subst hb;rw[if_pos rfl,if_pos (Za hx),hx]
 ·rw[if_neg hb]
structure ZcW where
 cells:List Value
 code:Int
 val:Int
def TM (cs:List Value) (k c n v:Nat):List Value × Int:=
 if k=1 then (cs.set n (.int .i64 v),v) else if k=2 then (cs,ci cs n) else (cs.set (32+n) (.bool true),0)
def UN (cs:List Value) (k c s n v:Nat):ZcW:=
 if k=0 then ⟨cs,0,0⟩ else
 if (s:Int)+1=ci cs (8+c) then ⟨cs,ci cs (16+c*2),ci cs (16+c*2+1)⟩ else
 if (s:Int)<ci cs (8+c) then ⟨cs,7,0⟩ else
 if cb cs (32+c)=true then ⟨cs,11,0⟩ else
 ⟨((((TM cs k c n v).1.set (8+c) (.int .i64 ((s:Int)+1))).set (16+c*2) (.int .i64 0)).set (16+c*2+1) (.int .i64 (TM cs k c n v).2)),0,(TM cs k c n v).2⟩
def Ni (cs:List Value) (k c s n v:Int):Int:=if Qj cs=true then 5 else YJ k c s n v
def Jp:List Value:=rep 32 [Value.int .i64 0]++rep 8 [Value.bool false]
def doL (cs:List Value) (k c s n v:Int):List Value:=
 if Ni cs k c s n v=0 then [.agg (UN cs k.toNat c.toNat s.toNat n.toNat v.toNat).cells.toArray,.agg [.int .i64 (UN cs k.toNat c.toNat s.toNat n.toNat v.toNat).code,.int .i64 (UN cs k.toNat c.toNat s.toNat n.toNat v.toNat).val].toArray,.int .i64 0]
  else [.agg Jp.toArray,.agg [.int .i64 0,.int .i64 0].toArray,.int .i64 (Ni cs k c s n v)]
def uL (v':Value) (cs:List Value) (k c s n v:Int):Prop:=v'=.tuple (doL cs k c s n v).toArray
theorem Pk {k c s n v:Int} (h:YJ k c s n v=0):∃k' c' s' n' v':Nat,k=k'∧c=c'∧s=s'∧n=n'∧v=v'∧k'≤3∧c'≤7∧s'≤1048576∧n'≤7∧v'≤1073741824:=by
 have:0≤k∧k≤3∧0≤c∧c≤7∧0≤s∧s≤1048576∧0≤n∧n≤7∧0≤v∧v≤1073741824:=by
  unfold YJ at h
  repeat' split at h
  all_goals omega
 exact⟨k.toNat,c.toNat,s.toNat,n.toNat,v.toNat,by omega,by omega,by omega,by omega,by omega,by omega,by omega,by omega,by omega,by omega⟩
theorem IQ {cs:List Value} {i j:Nat} {x:Value} (h:i≠j):ci (cs.set i x) j=ci cs j:=by
 unfold ci
 rw[Yi,Yi,List.getElem?_set_ne h]
theorem ints_set {cs:List Value} {j:Nat} (hj:j<cs.length) (x:Int) (hi:∀i,i<32→nth cs i=some (.int .i64 (ci cs i))):∀i,i<32→nth (cs.set j (.int .i64 x)) i=some (.int .i64 (ci (cs.set j (.int .i64 x)) i)):=by
 intro i h32
 by_cases e:j=i
 ·subst e
  have:nth (cs.set j (.int .i64 x)) j=some (.int .i64 x):=by rw[Yi,List.getElem?_set_self hj]
  unfold ci
  rw[this]
 ·rw[IQ e,Yi,List.getElem?_set_ne e,←Yi];exact hi i h32
theorem dU (cs:List Value) (k c n v:Nat) (x:Value) (hn:n≤7) (hc:c≤7):TM (cs.set (8+c) x) k c n v=((TM cs k c n v).1.set (8+c) x,(TM cs k c n v).2):=by
 unfold TM
 by_cases k1:k=1
 ·rw[if_pos k1,if_pos k1,List.set_comm _ _ (by omega)]
 ·rw[if_neg k1,if_neg k1]
  by_cases k2:k=2
  ·rw[if_pos k2,if_pos k2,IQ (by omega)]
  ·rw[if_neg k2,if_neg k2,List.set_comm _ _ (by omega)]
theorem Em {cs:List Value} (hf:Yo XT cs=true) (k c n v:Nat) (hn:n≤7):Yo XT (TM cs k c n v).1=true:=by
 unfold TM
 by_cases k1:k=1
 ·rw[if_pos k1];exact QZ n _ hf (JS (by omega) _)
 ·rw[if_neg k1]
  by_cases k2:k=2
  ·rw[if_pos k2];exact hf
  ·rw[if_neg k2];exact QZ (32+n) _ hf (El (by omega) _)
theorem dV {cs:List Value} (hf:Yo XT cs=true) (k c s n v:Nat) (hn:n≤7) (hc:c≤7):Yo XT (UN cs k c s n v).cells=true:=by
 unfold UN
 repeat' split
 all_goals first|exact hf|skip
 exact QZ _ _ (QZ _ _ (QZ _ _ (Em hf k c n v hn) (JS (by omega) _)) (JS (by omega) _)) (JS (by omega) _)
theorem En (T:World) (h:Hp) (b:Nat) (cs:List Value) (k c s n v:Nat) (hl:cs.length=40) (hi:∀i,i<32→nth cs i=some (.int .i64 (ci cs i))) (hn:n≤7) (hk:1≤k) (hk3:k≤3) (hx:h[b]? = some (.cells cs.toArray 62)) :
  Zc Tryz.prog T 48 #[.pointer (some ⟨b,0,none⟩),.agg (Qb k c s n v).toArray] h fun v' h'=>v'=.agg [.int .i64 0,.int .i64 (TM cs k c n v).2].toArray∧Zf h.size (h.setIfInBounds b (.cells (TM cs k c n v).1.toArray 62)) h':=by
 refine Zc.Zh (args:=[_,_]) Tryz.func48 rfl rfl rfl rfl ?_
 have hb:=Za hx
 have hn8:(n:Int)<8:=by omega
 unfold Qb TM
 by_cases k1:k=1
 ·subst k1
  simp +contextual -implicitDefEqProofs only[go_sem,↓reduceIte]
  refine VS.w (h.size+2) [8] (.q 0 (.q 1 (.q 2 (.q 3 (.q 4 (.q 5 (.q 6 (.q 7 (.w 8 .nil))))))))) mixed (by kernel_rfl) ?_
  have w1:=Yp hx n (.int .i64 v)
  rw[if_pos ⟨by omega,rfl⟩]at w1
  have nn:nth (cs.set n (.int .i64 (v:Int))) n=some (.int .i64 v):=by rw[Yi,List.getElem?_set_self (by omega)]
  simp +contextual -implicitDefEqProofs only[go_sem,↓reduceIte,hn8,w1,hb]
  refine VS.w (h.size+2) [8] (.q 0 (.q 1 (.q 2 (.q 3 (.q 4 (.q 5 (.q 6 (.q 7 (.w 8 .nil))))))))) mixed (by kernel_rfl) ?_
  simp +contextual -implicitDefEqProofs only[go_sem,↓reduceIte,hn8,hb,nn]
  try exact ((Zf.push (by simp) _).Yf (by simp) _)
 ·by_cases k2:k=2
  ·subst k2
   have nn:=hi n (by omega)
   have x1:hc h ⟨b,n,none⟩=some (.int .i64 (ci cs n)):=by rw[Zg hx];exact nn
   have uM:=Pj hx
   simp +contextual -implicitDefEqProofs only[go_sem,↓reduceIte,uM]
   refine VS.w (h.size+2) [8] (.q 0 (.q 1 (.q 2 (.q 3 (.q 4 (.q 5 (.q 6 (.q 7 (.w 8 .nil))))))))) mixed (by kernel_rfl) ?_
   simp +contextual -implicitDefEqProofs only[go_sem,↓reduceIte,hn8,hb,x1]
  ·have k3:k=3:=by omega
   subst k3
   have w1:=Yp hx (32+n) (.bool true)
   rw[if_pos ⟨by omega,rfl⟩]at w1
   simp +contextual -implicitDefEqProofs only[go_sem,↓reduceIte]
   refine VS.w (h.size+2) [6] (.q 0 (.q 1 (.q 2 (.q 3 (.q 4 (.q 5 (.w 6 .nil))))))) mixed (by kernel_rfl) ?_
   simp +contextual -implicitDefEqProofs only[go_sem,↓reduceIte,hn8,w1,hb]
   try exact ((Zf.push (by simp) _).Yf (by simp) _)
theorem Bv (T:World) (h:Hp) (cs:List Value) (k c s n v:Int) (hf:Yo XT cs=true) (hi:∀i,i<32→nth cs i=some (.int .i64 (ci cs i))) (hb:∀i,32≤i→i<40→nth cs i=some (.bool (cb cs i))) :
  Zc Tryz.prog T 28 #[.agg cs.toArray,.agg (Qb k c s n v).toArray] h fun v' h'=>uL v' cs k c s n v∧Zf h.size h h':=by
 have hl:cs.length=40:=YC hf
 have tk:=Xe hl
 have Y8:=M7 hf
 refine Zc.XJ (args:=[_,_]) Tryz.func28 rfl rfl rfl rfl ?_
 unfold Qb
 simp +contextual -implicitDefEqProofs only[go_sem,↓reduceIte,hl,tk]
 refine (dz T _ cs hl hi).use ?_
 rintro _ _ ⟨rfl,rfl⟩
 unfold uL doL Ni
 by_cases e1:Qj cs=true
 ·simp +contextual -implicitDefEqProofs only[go_sem,↓reduceIte,e1]
  refine⟨rfl,?_⟩
  (repeat' (first|exact Zf.refl _ _|assumption|refine Zf.add ?_ _|refine Zf.Zk ?_ (by first|omega|(simp;omega)) _|refine Zf.trans (by assumption) ?_))
 ·have e1:Qj cs=false:=by simpa using e1
  simp +contextual -implicitDefEqProofs only[go_sem,↓reduceIte,e1]
  refine (JO T _ k c s n v).use ?_
  rintro _ _ ⟨rfl,rfl⟩
  unfold Qb
  by_cases e2:YJ k c s n v=0
  ·obtain⟨k,c,s,n,v,rfl,rfl,rfl,rfl,rfl,y1,y2,y3,y4,y5⟩:=Pk e2
   simp only[Int.toNat_natCast]
   have XY:Jp=[.int .i64 0,.int .i64 0,.int .i64 0,.int .i64 0,.int .i64 0,.int .i64 0,.int .i64 0,.int .i64 0,.int .i64 0,.int .i64 0,.int .i64 0,.int .i64 0,.int .i64 0,.int .i64 0,.int .i64 0,.int .i64 0,.int .i64 0,.int .i64 0,.int .i64 0,.int .i64 0,.int .i64 0,.int .i64 0,.int .i64 0,.int .i64 0,.int .i64 0,.int .i64 0,.int .i64 0,.int .i64 0,.int .i64 0,.int .i64 0,.int .i64 0,.int .i64 0,.bool false,.bool false,.bool false,.bool false,.bool false,.bool false,.bool false,.bool false]:=rfl
   obtain⟨H,hH⟩:=Zy (((((((h.push (.cells cs.toArray 62)).push (.cells [.int .i64 k,.int .i64 c,.int .i64 s,.int .i64 n,.int .i64 v].toArray 49)).push (.cells [.int .i64 0,.int .i64 0,.int .i64 0,.int .i64 0,.int .i64 0,.int .i64 0,.int .i64 0,.int .i64 0,.int .i64 0,.int .i64 0,.int .i64 0,.int .i64 0,.int .i64 0,.int .i64 0,.int .i64 0,.int .i64 0,.int .i64 0,.int .i64 0,.int .i64 0,.int .i64 0,.int .i64 0,.int .i64 0,.int .i64 0,.int .i64 0,.int .i64 0,.int .i64 0,.int .i64 0,.int .i64 0,.int .i64 0,.int .i64 0,.int .i64 0,.int .i64 0,.bool false,.bool false,.bool false,.bool false,.bool false,.bool false,.bool false,.bool false].toArray 62)).push (.cells [.int .i64 0,.int .i64 0].toArray 40)).push (.cells cs.toArray 62)).push (.cells [.int .i64 k,.int .i64 c,.int .i64 s,.int .i64 n,.int .i64 v].toArray 49)):Hp)
   have x0:H[h.size]? = some (.cells cs.toArray 62):=by rw[hH];simp only[Array.getElem?_push,Array.size_push,IntWalk.iteOmega,↓reduceIte]
   have x1:H[h.size+1]? = some (.cells [.int .i64 k,.int .i64 c,.int .i64 s,.int .i64 n,.int .i64 v].toArray 49):=by rw[hH];simp only[Array.getElem?_push,Array.size_push,IntWalk.iteOmega,↓reduceIte]
   have x2:H[h.size+2]? = some (.cells Jp.toArray 62):=by rw[hH,XY];simp only[Array.getElem?_push,Array.size_push,IntWalk.iteOmega,↓reduceIte]
   have x3:H[h.size+3]? = some (.cells [.int .i64 0,.int .i64 0].toArray 40):=by rw[hH];simp only[Array.getElem?_push,Array.size_push,IntWalk.iteOmega,↓reduceIte]
   have hHs:H.size=h.size+6:=by rw[hH];simp
   have Bk:Zf h.size h H:=by rw[hH];(repeat' (first|exact Zf.refl _ _|assumption|refine Zf.add ?_ _|refine Zf.Zk ?_ (by first|omega|(simp;omega)) _|refine Zf.trans (by assumption) ?_))
   rw[←hH]
   clear hH XY
   have c1:hc H ⟨h.size+1,0,none⟩=some (.int .i64 k):=by rw[Zg x1];rfl
   have c2:hc H ⟨h.size+1,1,none⟩=some (.int .i64 c):=by rw[Zg x1];rfl
   have c3:hc H ⟨h.size+1,2,none⟩=some (.int .i64 s):=by rw[Zg x1];rfl
   have cc:(c:Int)<8:=by omega
   have ZcY:=hi (8+c) (by omega)
   have lx:hc H ⟨h.size,8+c,none⟩=some (.int .i64 (ci cs (8+c))):=by rw[Zg x0];exact ZcY
   have fin:∀(G:Hp) (D:List Value) (a b:Int),D.length=40→D.all Z6=true→G[h.size+2]? = some (.cells Jp.toArray 62)→G[h.size+3]? = some (.cells [.int .i64 0,.int .i64 0].toArray 40) →
     wr G ⟨h.size+1+1,0,none⟩ D=some (G.setIfInBounds (h.size+1+1) (.cells D.toArray 62)) ∧
     wr (G.setIfInBounds (h.size+1+1) (.cells D.toArray 62)) ⟨h.size+1+1+1,0,none⟩ [.int .i64 a,.int .i64 b]=some ((G.setIfInBounds (h.size+1+1) (.cells D.toArray 62)).setIfInBounds (h.size+1+1+1) (.cells [.int .i64 a,.int .i64 b].toArray 40)):=by
    intro G D a b d1 d2 g2 g3
    refine⟨?_,?_⟩
    ·rw[ZP (b:=h.size+1+1) g2 0 D,ZM (by rw[d1];rfl),if_pos ⟨by rw[d1];exact Nat.le_refl _,d2⟩]
    ·rw[ZP (b:=h.size+1+1+1) (l:=[.int .i64 0,.int .i64 0]) (t:=40) (by rw[Array.getElem?_setIfInBounds,if_neg (by omega)];exact g3),if_pos ⟨by simp,rfl⟩]
     rfl
   have r0:=Zo x0 hl
   have dW:∀(G:Hp) (o o':Obj),Zf h.size h G→Zf h.size h ((G.setIfInBounds (h.size+1+1) o).setIfInBounds (h.size+1+1+1) o'):=fun G o o' hG=>(hG.Zk (by omega) _).Zk (by omega) _
   by_cases k0:k=0
   ·subst k0
    have ed:UN cs 0 c s n v=⟨cs,0,0⟩:=rfl
    obtain⟨w2,w3⟩:=fin H cs 0 0 hl Y8 x2 x3
    simp -implicitDefEqProofs only[go_sem,↓reduceIte,e2,c1,c2,cc,ed,r0,w2,w3,hl,hHs,tk,Bk]
    exact dW H _ _ Bk
   ·have k0':¬(k:Int)=0:=by omega
    simp -implicitDefEqProofs only[go_sem,↓reduceIte,e2,c1,c2,cc,k0']
    refine VS.q mixed (by kernel_rfl) ?_
    by_cases q1:(s:Int)+1=ci cs (8+c)
    ·have ed:UN cs k c s n v=⟨cs,ci cs (16+c*2),ci cs (16+c*2+1)⟩:=by unfold UN;rw[if_neg k0,if_pos q1]
     obtain⟨w2,w3⟩:=fin H cs (ci cs (16+c*2)) (ci cs (16+c*2+1)) hl Y8 x2 x3
     have ra:rd H ⟨h.size,16+c*2,none⟩ 2=some [.int .i64 (ci cs (16+c*2)),.int .i64 (ci cs (16+c*2+1))]:=by
      rw[Z3 x0 (by omega),Fw (hi _ (by omega)) (hi _ (by omega))]
     simp -implicitDefEqProofs only[go_sem,↓reduceIte,c3,lx,q1]
     refine VS.w (h.size+1+1) [] (.q 0 (.q 1 (.q 2 (.q 3 (.q 4 (.q 5 (.s 6 (.s 7 (.q 8 .nil))))))))) mixed (by kernel_rfl) ?_
     simp -implicitDefEqProofs only[go_sem,↓reduceIte,e2,c2,cc,ed,r0,ra,w2,w3,hl,hHs,tk,Bk]
     exact dW H _ _ Bk
    ·simp -implicitDefEqProofs only[go_sem,↓reduceIte,c3,lx,q1]
     refine VS.q mixed (by kernel_rfl) ?_
     by_cases q2:(s:Int)<ci cs (8+c)
     ·have ed:UN cs k c s n v=⟨cs,7,0⟩:=by unfold UN;rw[if_neg k0,if_neg q1,if_pos q2]
      obtain⟨w2,w3⟩:=fin H cs 7 0 hl Y8 x2 x3
      simp -implicitDefEqProofs only[go_sem,↓reduceIte,c3,lx,q2,e2,ed,r0,w2,w3,hl,hHs,tk,Bk]
      exact dW H _ _ Bk
     ·have rv:hc H ⟨h.size,32+c,none⟩=some (.bool (cb cs (32+c))):=by rw[Zg x0];exact hb _ (by omega) (by omega)
      by_cases q3:cb cs (32+c)=true
      ·have ed:UN cs k c s n v=⟨cs,11,0⟩:=by unfold UN;rw[if_neg k0,if_neg q1,if_neg q2,if_pos q3]
       obtain⟨w2,w3⟩:=fin H cs 11 0 hl Y8 x2 x3
       rw[q3]at rv
       simp -implicitDefEqProofs only[go_sem,↓reduceIte,c3,lx,q2,c2,cc,rv,e2,ed,r0,w2,w3,hl,hHs,tk,Bk]
       exact dW H _ _ Bk
      ·have q3':cb cs (32+c)=false:=by simpa using q3
       rw[q3']at rv
       have w1:=Yp x0 (8+c) (.int .i64 ((s:Int)+1))
       rw[if_pos ⟨by omega,rfl⟩]at w1
       have rc:=Zo x1 (n:=5) rfl
       have uK:(H.setIfInBounds h.size (.cells (cs.set (8+c) (.int .i64 ((s:Int)+1))).toArray 62))[h.size+1]? = some (.cells [.int .i64 k,.int .i64 c,.int .i64 s,.int .i64 n,.int .i64 v].toArray 49):=by rw[Array.getElem?_setIfInBounds,if_neg (by omega)];exact x1
       have rc':=Zo uK (n:=5) rfl
       simp -implicitDefEqProofs only[go_sem,↓reduceIte,c3,lx,q2,c2,cc,rv,w1,rc']
       have xO:(H.setIfInBounds h.size (.cells (cs.set (8+c) (.int .i64 ((s:Int)+1))).toArray 62))[h.size]? = some (.cells (cs.set (8+c) (.int .i64 ((s:Int)+1))).toArray 62):=by rw[Array.getElem?_setIfInBounds,if_pos rfl,if_pos (by omega)]
       have QP:Zf h.size h (H.setIfInBounds h.size (.cells (cs.set (8+c) (.int .i64 ((s:Int)+1))).toArray 62)):=Bk.Zk (Nat.le_refl _) _
       have xP:(H.setIfInBounds h.size (.cells (cs.set (8+c) (.int .i64 ((s:Int)+1))).toArray 62))[h.size+2]? = some (.cells Jp.toArray 62):=by rw[Array.getElem?_setIfInBounds,if_neg (by omega)];exact x2
       have x3':(H.setIfInBounds h.size (.cells (cs.set (8+c) (.int .i64 ((s:Int)+1))).toArray 62))[h.size+3]? = some (.cells [.int .i64 0,.int .i64 0].toArray 40):=by rw[Array.getElem?_setIfInBounds,if_neg (by omega)];exact x3
       have hGs:(H.setIfInBounds h.size (.cells (cs.set (8+c) (.int .i64 ((s:Int)+1))).toArray 62)).size=h.size+6:=by rw[Array.size_setIfInBounds];exact hHs
       refine (En T _ h.size (cs.set (8+c) (.int .i64 ((s:Int)+1))) k c s n v (by rw[List.length_set];exact hl) (ints_set (by omega) _ hi) (by omega) (by omega) (by omega) xO).use ?_
       rintro _ g1 ⟨rfl,b1⟩
       rw[dU cs k c n v _ (by omega) (by omega)]at b1 ⊢
       have hfA:=Em hf k c n v (by omega)
       have ed:UN cs k c s n v=⟨((((TM cs k c n v).1.set (8+c) (.int .i64 ((s:Int)+1))).set (16+c*2) (.int .i64 0)).set (16+c*2+1) (.int .i64 (TM cs k c n v).2)),0,(TM cs k c n v).2⟩:=by unfold UN;rw[if_neg k0,if_neg q1,if_neg q2,if_neg q3]
       obtain⟨A,hA⟩:=Zy ((TM cs k c n v).1.set (8+c) (.int .i64 ((s:Int)+1)))
       obtain⟨a,ha⟩:=Zy ((TM cs k c n v).2)
       rw[←hA,←ha]at ed
       simp only[←hA,←ha]at b1 ⊢
       have ZcZ:Yo XT A=true:=by rw[hA];exact QZ _ _ hfA (JS (by omega) _)
       have ZvQ:A.length=40:=YC ZcZ
       obtain⟨G,hG⟩:=Zy (H.setIfInBounds h.size (.cells (cs.set (8+c) (.int .i64 ((s:Int)+1))).toArray 62):Hp)
       rw[←hG]at b1 uK xP x3' QP hGs
       clear xO rc' hG
       rw[hGs]at b1
       have g0:g1[h.size]? = some (.cells A.toArray 62):=b1.get (by omega) (by rw[Array.getElem?_setIfInBounds,if_pos rfl,if_pos (by omega)])
       have g1c:=b1.get (k:=h.size+1) (by omega) (by rw[Array.getElem?_setIfInBounds,if_neg (by omega)];exact uK)
       have g2:=b1.get (k:=h.size+2) (by omega) (by rw[Array.getElem?_setIfInBounds,if_neg (by omega)];exact xP)
       have g3:=b1.get (k:=h.size+3) (by omega) (by rw[Array.getElem?_setIfInBounds,if_neg (by omega)];exact x3')
       have gs:h.size+6≤g1.size:=by have:=b1.size;rw[Array.size_setIfInBounds,hGs]at this;exact this
       have gB:Zf h.size h g1:=(QP.Zk (Nat.le_refl _) _).trans (b1.mono (by omega))
       clear b1 QP uK xP x3' hGs
       have gc:hc g1 ⟨h.size+1,1,none⟩=some (.int .i64 c):=by rw[Zg g1c];rfl
       have wa:=ZP g0 (16+c*2) [.int .i64 0,.int .i64 a]
       rw[if_pos ⟨by simp only[List.length_cons,List.length_nil];omega,rfl⟩,WV,WV]at wa
       have wa:wr g1 ⟨h.size,16+c*2,none⟩ [.int .i64 0,.int .i64 a]=some (g1.setIfInBounds h.size (.cells ((A.set (16+c*2) (.int .i64 0)).set (16+c*2+1) (.int .i64 a)).toArray 62)):=by rw[wa];simp[Ym]
       simp -implicitDefEqProofs only[go_sem,↓reduceIte,gc,cc,wa]
       obtain⟨D,hD⟩:=Zy ((A.set (16+c*2) (.int .i64 0)).set (16+c*2+1) (.int .i64 a))
       have hfD:Yo XT D=true:=by rw[hD];exact QZ _ _ (QZ _ _ ZcZ (JS (by omega) _)) (JS (by omega) _)
       have qF:D.length=40:=YC hfD
       have Zc0:=M7 hfD
       have uN:=Xe qF
       rw[←hD]at ed ⊢
       obtain⟨G,hG⟩:=Zy ((g1.setIfInBounds h.size (.cells D.toArray 62)).push (.cells [.int .i64 0,.int .i64 a].toArray 40):Hp)
       have n0:G[h.size]? = some (.cells D.toArray 62):=by rw[hG];simp only[Array.getElem?_push,Array.size_setIfInBounds,Array.getElem?_setIfInBounds,IntWalk.iteOmega,↓reduceIte]
       have n2:G[h.size+2]? = some (.cells Jp.toArray 62):=by rw[hG];simp only[Array.getElem?_push,Array.size_setIfInBounds,Array.getElem?_setIfInBounds,IntWalk.iteOmega,↓reduceIte];exact g2
       have n3:G[h.size+3]? = some (.cells [.int .i64 0,.int .i64 0].toArray 40):=by rw[hG];simp only[Array.getElem?_push,Array.size_setIfInBounds,Array.getElem?_setIfInBounds,IntWalk.iteOmega,↓reduceIte];exact g3
       have n6:G[g1.size]? = some (.cells [.int .i64 0,.int .i64 a].toArray 40):=by rw[hG];simp only[Array.getElem?_push,Array.size_setIfInBounds,IntWalk.iteOmega,↓reduceIte]
       have nB:Zf h.size h G:=by rw[hG];exact (gB.Zk (Nat.le_refl _) _).Yf (by simp;omega) _
       have nS:G.size=g1.size+1:=by rw[hG];simp
       rw[←hG]
       have rA:=Zo n0 qF
       have rB:=Zo n6 (n:=2) rfl
       obtain⟨w2,w3⟩:=fin G D 0 a qF Zc0 n2 n3
       refine VS.w (h.size+1) [2,3,4] (.q 0 (.or 1 (.w 2 (.w 3 (.w 4 .nil))) (.s 2 (.s 1 (.w 3 (.w 4 .nil)))))) mixed (by kernel_rfl) ?_
       have z1:h.size<h.size+1:=by omega
       have z2:h.size+1+1<G.size:=by omega
       have z3:h.size+1+1+1<G.size:=by omega
       simp -implicitDefEqProofs only[go_sem,↓reduceIte,rA,rB,w2,w3,qF,uN,z1,z2,z3,ed]
       exact⟨dW G _ _ nB,dW G _ _ nB⟩
  ·simp +contextual -implicitDefEqProofs only[go_sem,↓reduceIte,e2]
   refine⟨rfl,?_⟩
   (repeat' (first|exact Zf.refl _ _|assumption|refine Zf.add ?_ _|refine Zf.Zk ?_ (by first|omega|(simp;omega)) _|refine Zf.trans (by assumption) ?_))
theorem kM {g:Hp} {b:Nat} {o o':Obj} (hx:g[b]? = some o'):(g.setIfInBounds b o)[b]? = some o:=by rw[Array.getElem?_setIfInBounds,if_pos rfl,if_pos (Za hx)]
def Tm:Vt:=⟨0,⟨0,0⟩,0,0,0,0,0⟩
def Gm (v:Vt):List Value:=[.int .i64 v.k,.int .i64 v.c,.int .i64 v.s,.int .i64 v.nm,.int .i64 v.v]
def Nj (slot:Int) (Zc1 v:Vt):Vt:=if v.slot=slot∧below Zc1.b v.b then v else Zc1
def UO (slot:Int) (l:List Vt):Vt:=l.foldl (Nj slot) Tm
def Ub (l:List Vt):Bool:=l.all fun v=>decide (Z9 v)
def Sk (slot:Int) (l:List Vt):Int:=if slot<0∨39<slot then 2 else if Ub l=true then 0 else 5
def Gn (v':Value) (slot:Int) (l:List Vt):Prop:=
 v'=.tuple [.agg (Gm (if Sk slot l=0 then UO slot l else Tm)).toArray,.bool (if Sk slot l=0 then decide (0<(UO slot l).b.r) else false),.int .i64 (Sk slot l)].toArray
def Vss (h:Hp) (v:Value) (LL:List (List Vt)):Prop:=∃p c,v=.slice p LL.length c∧(LL≠[]→∃b o,p=some ⟨b,o,none⟩∧b<h.size∧∀i (hi:i<LL.length),∃w,hc h ⟨b,o+i,none⟩=some w∧Ts Zm 8 h w LL[i]∧LL[i].length≤2199023255552)
theorem dX (LL:List (List Vt)) (i:Nat) (hi:i<LL.length):(LL.take (i+1)).flatten=(LL.take i).flatten++LL[i]:=by
 rw[Ye LL i hi,List.flatten_append,List.flatten_singleton]
theorem Bw (a b:List Vt):Ub (a++b)=(Ub a&&Ub b):=by simp[Ub]
theorem Gp {l:List Vt} {v:Vt} (hv:v∈l) (hm:¬Z9 v):Ub l=false:=by
 rw[Ub,List.all_eq_false]
 exact⟨v,hv,by simpa using hm⟩
set_option maxHeartbeats 1000000 in
theorem qG (T:World) (h:Hp) (u:Value) (LL:List (List Vt)) (slot:Int) (s:Vss h u LL) (hL:LL.length≤4611686018427387904) :
  Zc Tryz.prog T 142 #[u,.int .i64 slot] h fun v' h'=>Gn v' slot LL.flatten∧Zf h.size h h':=by
 have qH:Sk slot LL.flatten=if slot<0∨39<slot then 2 else if Ub LL.flatten=true then 0 else 5:=rfl
 obtain⟨p,c,rfl,YL⟩:=s
 refine Zc.XJ (args:=[_,_]) Tryz.func142 rfl rfl rfl rfl ?_
 unfold Gn
 by_cases q1:slot<0
 ·rw[if_pos (.inl q1)]at qH
  simp -implicitDefEqProofs only[go_sem,↓reduceIte,q1,qH]
  rfl
 ·by_cases q2:39<slot
  ·rw[if_pos (.inr q2)]at qH
   have xY:40≤slot:=by omega
   simp -implicitDefEqProofs only[go_sem,↓reduceIte,q1,xY,qH]
   rfl
  ·rw[if_neg (by omega)]at qH
   have xY:¬40≤slot:=by omega
   simp -implicitDefEqProofs only[go_sem,↓reduceIte,q1,xY]
   obtain⟨H,hH⟩:=Zy ((h.push (.cells #[.int .i64 0,.int .i64 0,.int .i64 0,.int .i64 0,.int .i64 0] 49)).push (.cells #[.int .i64 0,.int .i64 0,.int .i64 0,.int .i64 0,.int .i64 0,.int .i64 0,.int .i64 0,.int .i64 0] 146):Hp)
   have HB:Zf h.size h H:=by rw[hH];(repeat' (first|exact Zf.refl _ _|assumption|refine Zf.add ?_ _|refine Zf.Zk ?_ (by first|omega|(simp;omega)) _|refine Zf.trans (by assumption) ?_))
   have HZ:H[h.size]? = some (.cells (Gm Tm).toArray 49):=by rw[hH,Zq (by simp),Zb];rfl
   have HV:H[h.size+1]? = some (.cells (Zm Tm).toArray 146):=by
    have:=Zb (h:=h.push (.cells #[.int .i64 0,.int .i64 0,.int .i64 0,.int .i64 0,.int .i64 0] 49)) (o:=.cells #[.int .i64 0,.int .i64 0,.int .i64 0,.int .i64 0,.int .i64 0,.int .i64 0,.int .i64 0,.int .i64 0] 146)
    rw[Array.size_push]at this
    rw[hH,this];rfl
   rw[←hH]
   clear hH
   have wz:∀g:Hp,g[h.size]? = some (.cells (Gm Tm).toArray 49)→∀w:List Value,w.length=5→w.all Z6=true→wr g ⟨h.size,0,none⟩ w=some (g.setIfInBounds h.size (.cells w.toArray 49)):=by
    intro g hg w h5 h1
    rw[ZP hg 0 w,ZM (by rw[h5];rfl),if_pos ⟨by rw[h5];exact Nat.le_refl _,h1⟩]
   refine VS.ZV (fun F g=>F 1=.int .i64 slot∧F 4=.pointer (some ⟨h.size,0,none⟩)∧F 7=.pointer (some ⟨h.size+1,0,none⟩)∧F 19=.slice p LL.length c∧F 20=.int .i64 LL.length∧Zf h.size h g∧g[h.size]? = some (.cells (Gm Tm).toArray 49)∧∃i:Nat,i≤LL.length∧F 21=.int .i64 i∧g[h.size+1]? = some (.cells (Zm (UO slot (LL.take i).flatten)).toArray 146)∧Ub (LL.take i).flatten=true)
    (fun F _=>LL.length-(vi (F 21)).toNat) rfl ⟨rfl,rfl,rfl,rfl,rfl,HB,HZ,0,by omega,rfl,HV,rfl⟩ ?_
   clear HB HZ HV H
   rintro F g ⟨f1,f4,f7,f19,f20,hg,gZ,i,hi,f21,gV,YU⟩
   have zV:=Za gV
   by_cases ZA:i<LL.length
   ·have ZI:(i:Int)<LL.length:=by omega
    obtain⟨bb,oo,rfl,UX,YL⟩:=YL (by intro e;rw[e]at ZA;simp at ZA)
    obtain⟨w,hw,tw,hwl⟩:=YL i ZA
    have hw':V.hc g ⟨bb,oo+i,none⟩=some w:=by rw[hg.hc (by exact UX)];exact hw
    have uO:=dX LL i ZA
    have kO:LL[i]∈LL:=List.getElem_mem ZA
    obtain⟨L,uP⟩:=Zy (LL[i])
    rw[←uP]at tw hwl uO kO
    obtain⟨pw,cw,rfl,hwc⟩:=QG tw
    simp -implicitDefEqProofs only[go_sem,↓reduceIte,f1,f4,f7,f19,f20,f21,ZI,Int.toNat_natCast,hw']
    refine VS.ZV (fun F g=>F 1=.int .i64 slot∧F 4=.pointer (some ⟨h.size,0,none⟩)∧F 7=.pointer (some ⟨h.size+1,0,none⟩)∧F 19=.slice (some ⟨bb,oo,none⟩) LL.length c∧F 20=.int .i64 LL.length∧F 21=.int .i64 i∧F 25=.slice pw L.length cw∧F 26=.int .i64 L.length∧Zf h.size h g∧g[h.size]? = some (.cells (Gm Tm).toArray 49)∧∃j:Nat,j≤L.length∧F 27=.int .i64 j∧g[h.size+1]? = some (.cells (Zm (UO slot ((LL.take i).flatten++L.take j))).toArray 146)∧Ub ((LL.take i).flatten++L.take j)=true)
     (fun F _=>L.length-(vi (F 27)).toNat) rfl ⟨f1,f4,f7,f19,f20,f21,rfl,rfl,hg,gZ,0,by omega,rfl,by rw[List.take_zero,List.append_nil];exact gV,by rw[List.take_zero,List.append_nil];exact YU⟩ ?_
    clear f1 f4 f7 f19 f20 f21 F hg gZ gV YU zV hw'
    rintro F g ⟨f1,f4,f7,f19,f20,f21,f25,f26,hg,gZ,j,hj,f27,gV,YU⟩
    have zV:=Za gV
    by_cases uQ:j<L.length
    ·have ZkR:(j:Int)<L.length:=by omega
     obtain⟨b2,o2,rfl,Io,_,hwc⟩:=hwc (by intro e;rw[e]at uQ;simp at uQ)
     have r1:rd g ⟨b2,o2+j*8,none⟩ 8=some (Zm L[j]):=by rw[JH hg (by exact Io)];exact hwc j uQ
     have Bx:(LL.take i).flatten++L.take (j+1)=((LL.take i).flatten++L.take j)++[L[j]]:=by rw[Ye L j uQ,List.append_assoc]
     have uR:L[j]∈LL.flatten:=List.mem_flatten.2 ⟨L,kO,List.getElem_mem uQ⟩
     obtain⟨v,hv⟩:=Zy (L[j])
     rw[←hv]at r1 Bx uR
     have XX:UO slot ((LL.take i).flatten++L.take (j+1))=Nj slot (UO slot ((LL.take i).flatten++L.take j)) v:=by
      rw[Bx];unfold UO;rw[List.foldl_append];rfl
     have Ma:Ub ((LL.take i).flatten++L.take (j+1))=decide (Z9 v):=by rw[Bx,Bw,YU,Bool.true_and];simp[Ub]
     obtain⟨B,hB⟩:=Zy (UO slot ((LL.take i).flatten++L.take j))
     rw[←hB]at gV XX
     unfold Zm at r1
     simp -implicitDefEqProofs only[go_sem,↓reduceIte,f1,f4,f7,f19,f20,f21,f25,f26,f27,ZkR,Int.toNat_natCast,r1]
     refine (Mn T _ v).use ?_
     rintro _ g1 ⟨rfl,b1⟩
     have gP:Zf g.size g g1:=(Zf.push (Nat.le_refl _) _).trans (b1.mono (by simp))
     have y0:g1[g.size]? = some (.cells (Zm v).toArray 146):=b1.get (by simp) Zb
     have z1:=gP.size
     have PY:=hg.trans (gP.mono hg.size)
     have gZ1:=gP.get (Za gZ) gZ
     have gV1:=gP.get zV gV
     have z0:=Za y0
     by_cases c1:Z9 v
     ·rw[decide_eq_true c1]at Ma
      have y1:V.hc g1 ⟨g.size,0,none⟩=some (.int .i64 v.slot):=by rw[Zg y0];rfl
      have y2:rd g1 ⟨g.size,1,none⟩ 2=some (X1 v.b):=by rw[Z3 y0 (by simp[Zm])];rfl
      have y3:rd g1 ⟨h.size+1,1,none⟩ 2=some (X1 B.b):=by rw[Z3 gV1 (by simp[Zm])];rfl
      by_cases c2:v.slot=slot
      ·simp -implicitDefEqProofs only[go_sem,↓reduceIte,f1,f4,f7,f19,f20,f21,f25,f26,f27,c1,y1,c2,y2,y3]
       refine (UL T _ v.b B.b).use ?_
       rintro _ g2 ⟨rfl,qo⟩
       have z2:=qo.size
       have Qt:=PY.trans (qo.mono PY.size)
       have gZ2:=qo.get (Za gZ1) gZ1
       have gV2:=qo.get (Za gV1) gV1
       have y02:=qo.get z0 y0
       by_cases c3:below B.b v.b
       ·have kE:=(Ve v.b B.b).2 c3
        have rV:=Zo y02 (n:=8) rfl
        have wV:=ZP gV2 0 (Zm v)
        rw[ZM (by simp[Zm]),if_pos ⟨by simp[Zm],rfl⟩]at wV
        have qI:Nj slot B v=v:=by unfold Nj;rw[if_pos ⟨c2,c3⟩]
        rw[qI]at XX
        unfold Zm at rV wV
        simp -implicitDefEqProofs only[go_sem,↓reduceIte,f1,f4,f7,f19,f20,f21,f25,f26,f27,kE,rV,wV]
        refine⟨⟨f1,f4,f7,f19,f20,f21,f25,f26,Qt.Zk (by omega) _,?_,j+1,uQ,rfl,?_,Ma⟩,?_⟩
        ·rw[Array.getElem?_setIfInBounds,if_neg (by omega)];exact gZ2
        ·rw[XX];exact kM gV2
        ·simp only[vi,Zj,↓reduceIte,f27];omega
       ·have kE:¬0<Oo v.b B.b:=fun h=>c3 ((Ve v.b B.b).1 h)
        have qI:Nj slot B v=B:=by unfold Nj;rw[if_neg (fun h=>c3 h.2)]
        rw[qI]at XX
        simp -implicitDefEqProofs only[go_sem,↓reduceIte,f1,f4,f7,f19,f20,f21,f25,f26,f27,kE]
        refine⟨⟨f1,f4,f7,f19,f20,f21,f25,f26,Qt,gZ2,j+1,uQ,rfl,?_,Ma⟩,?_⟩
        ·rw[XX];exact gV2
        ·simp only[vi,Zj,↓reduceIte,f27];omega
      ·have qI:Nj slot B v=B:=by unfold Nj;rw[if_neg (fun h=>c2 h.1)]
       rw[qI]at XX
       simp -implicitDefEqProofs only[go_sem,↓reduceIte,f1,f4,f7,f19,f20,f21,f25,f26,f27,c1,y1,c2]
       refine⟨⟨f1,f4,f7,f19,f20,f21,f25,f26,PY,gZ1,j+1,uQ,rfl,?_,Ma⟩,?_⟩
       ·rw[XX];exact gV1
       ·simp only[vi,Zj,↓reduceIte,f27];omega
     ·have hf:=Gp uR c1
      rw[hf,if_neg (by decide)]at qH
      have wz1:=wz g1 gZ1 [.int .i64 0,.int .i64 0,.int .i64 0,.int .i64 0,.int .i64 0] rfl rfl
      have zl:=Za gZ1
      simp -implicitDefEqProofs only[go_sem,↓reduceIte,f1,f4,f7,c1,wz1,zl,qH]
      exact⟨rfl,PY.Zk (Nat.le_refl _) _⟩
    ·have ZkT:¬(j:Int)<L.length:=by omega
     obtain rfl:j=L.length:=by omega
     rw[List.take_length,←uO]at gV YU
     simp -implicitDefEqProofs only[go_sem,↓reduceIte,f1,f4,f7,f19,f20,f21,f25,f26,f27,ZkT]
     refine⟨⟨f1,f4,f7,f19,f20,hg,gZ,i+1,ZA,rfl,gV,YU⟩,?_⟩
     simp only[vi,Zj,↓reduceIte,f21];omega
   ·have YF:¬(i:Int)<LL.length:=by omega
    obtain rfl:i=LL.length:=by omega
    rw[List.take_length]at gV YU
    rw[YU,if_pos rfl]at qH
    rw[qH,if_pos rfl,if_pos rfl]
    obtain⟨B,hB⟩:=Zy (UO slot LL.flatten)
    rw[←hB]at gV ⊢
    have r1:rd g ⟨h.size+1,3,none⟩ 5=some (Gm B):=by rw[Z3 gV (by simp[Zm])];rfl
    have r2:V.hc g ⟨h.size+1,1,none⟩=some (.int .i64 B.b.r):=by rw[Zg gV];rfl
    have wB:=wz g gZ (Gm B) rfl rfl
    have zl:=Za gZ
    unfold Gm at r1 wB ⊢
    simp -implicitDefEqProofs only[go_sem,↓reduceIte,f1,f4,f7,f19,f20,f21,YF]
    refine VS.w (h.size) [] (.q 0 (.q 2 (.q 3 (.or 1 (.or 4 (.q 5 (.s 6 (.q 7 (.q 8 .nil)))) (.s 6 (.s 4 (.q 5 (.q 7 (.q 8 .nil)))))) (.s 4 (.q 5 (.s 1 (.s 6 (.q 7 (.q 8 .nil)))))))))) mixed (by kernel_rfl) ?_
    simp -implicitDefEqProofs only[go_sem,↓reduceIte,f4,f7,r1,r2,wB,zl]
    have By:=hg.Zk (Nat.le_refl _) (.cells #[.int .i64 B.k,.int .i64 B.c,.int .i64 B.s,.int .i64 B.nm,.int .i64 B.v] 49)
    exact⟨⟨By,By⟩,By⟩
end Go.Proofs.YtpomedigibbeeaaGreatDoor
