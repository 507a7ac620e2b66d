/- Ballots and votes: what the small functions compute; no condition but those in the statements. -/
import Derived.Test.YtboeoomhjbcecaaGreatDoorVst
import Derived.Test.YtboeoomhjbcecaaGreatDoorW13
import Derived.Test.YtboeoomhjbcecaaGreatDoorLchks
namespace Go.Proofs.YtboeoomhjbcecaaGreatDoor
open Go Go.V
set_option linter.unusedSimpArgs false
set_option linter.unusedVariables false
set_option maxRecDepth 100000
structure YN where
 r:Int
 n:Int
structure Vt where
 slot:Int
 b:YN
 k:Int
 c:Int
 s:Int
 nm:Int
 v:Int
def Jr (b:YN):List Value:=[.int .i64 b.r,.int .i64 b.n]
def Zo (v:Vt):List Value:=[.int .i64 v.slot,.int .i64 v.b.r,.int .i64 v.b.n,.int .i64 v.k,.int .i64 v.c,.int .i64 v.s,.int .i64 v.nm,.int .i64 v.v]
def ZQ (b:YN):Prop:=(1≤b.r∧b.r≤65536)∧(0≤b.n∧b.n≤4)
instance (b:YN):Decidable (ZQ b):=by unfold ZQ;infer_instance
def Ya (v:Vt):Prop:=(0≤v.slot∧v.slot≤39)∧ZQ v.b∧Yx v.k v.c v.s v.nm v.v=0
instance (v:Vt):Decidable (Ya v):=by unfold Ya;infer_instance
def below (a b:YN):Prop:=a.r<b.r∨(a.r=b.r∧a.n<b.n)
instance (a b:YN):Decidable (below a b):=by unfold below;infer_instance
def Rp (a b:Int):Int:=if a<b then -1 else if b<a then 1 else 0
def Nz (a b:YN):Int:=if Rp a.r b.r=0 then Rp a.n b.n else Rp a.r b.r
theorem VY (a b:YN):0<Nz a b↔below b a:=by
 unfold Nz Rp below
 repeat' split
 all_goals omega
theorem OB (a b:YN):Nz a b<0↔below a b:=by
 unfold Nz Rp below
 repeat' split
 all_goals omega
theorem DG (T:World) (h:Hp) (a:Int):Zc Tryz.prog T 124 #[.int .i64 a] h fun v' h'=>v'=.bool false∧h'=h:=by
 refine Zc.Zk (args:=[_]) Tryz.func124 rfl rfl rfl rfl ?_;simp -implicitDefEqProofs only[go_sem,↓reduceIte]
theorem Vq (T:World) (h:Hp) (a b:Int):Zc Tryz.prog T 108 #[.int .i64 a,.int .i64 b] h fun v' h'=>v'=.int .i64 (Rp a b)∧h'=h:=by
 refine Zc.Zk (args:=[_,_]) Tryz.func108 rfl rfl rfl rfl ?_;simp -implicitDefEqProofs only[go_sem,↓reduceIte];refine (DG T _ _).pure ?_;simp -implicitDefEqProofs only[go_sem,↓reduceIte];refine (DG T _ _).pure ?_;unfold Rp;by_cases q1:a<b
 ·simp -implicitDefEqProofs only[go_sem,↓reduceIte,q1]
 ·by_cases q2:b<a
  ·simp -implicitDefEqProofs only[go_sem,↓reduceIte,q1,q2]
  ·simp -implicitDefEqProofs only[go_sem,↓reduceIte,q1,q2]
theorem oM (T:World) (h:Hp) (b:Nat) (x y:Int) (h0:hc h ⟨b,0,none⟩=some (.int .i64 x)) (h1:hc h ⟨b,1,none⟩=some (.int .i64 y)):Zc Tryz.prog T 123 #[.slice (some ⟨b,0,none⟩) 2 2] h fun v' h'=>v'=.int .i64 (if x=0 then y else x)∧h'=h:=by
 refine Zc.Zk (args:=[_]) Tryz.func123 rfl rfl rfl rfl ?_;simp -implicitDefEqProofs only[go_sem,↓reduceIte];refine VS.rounds 3 rfl ?_;by_cases q1:x=0
 ·by_cases q2:y=0
  ·simp -implicitDefEqProofs only[go_sem,↓reduceIte,h0,h1,q1,q2,Int.reduceAdd]
  ·simp -implicitDefEqProofs only[go_sem,↓reduceIte,h0,h1,q1,q2,Int.reduceAdd]
 ·simp -implicitDefEqProofs only[go_sem,↓reduceIte,h0,h1,q1]
theorem VZ (T:World) (h:Hp) (b:YN):Zc Tryz.prog T 102 #[.agg (Jr b).toArray] h fun v' h'=>v'=.bool (decide (ZQ b))∧h'=h.push (.cells (Jr b).toArray 78):=by
 refine Zc.Zk (args:=[_]) Tryz.func102 rfl rfl rfl rfl ?_;unfold Jr;by_cases q1:1≤b.r
 ·by_cases q2:b.r≤65536
  ·by_cases q3:0≤b.n
   ·by_cases q4:b.n<5
    ·have e:ZQ b:=⟨⟨q1,q2⟩,q3,by omega⟩
     simp -implicitDefEqProofs only[go_sem,↓reduceIte,q1,q2,q3,q4,e]
    ·have e:¬ZQ b:=by unfold ZQ;omega
     simp -implicitDefEqProofs only[go_sem,↓reduceIte,q1,q2,q3,q4,e]
   ·have e:¬ZQ b:=by unfold ZQ;omega
    simp -implicitDefEqProofs only[go_sem,↓reduceIte,q1,q2,q3,e]
  ·have e:¬ZQ b:=by unfold ZQ;omega
   simp -implicitDefEqProofs only[go_sem,↓reduceIte,q1,q2,e]
 ·have e:¬ZQ b:=by unfold ZQ;omega
  simp -implicitDefEqProofs only[go_sem,↓reduceIte,q1,e]
theorem Wk (T:World) (h:Hp) (a b:YN):Zc Tryz.prog T 103 #[.agg (Jr a).toArray,.agg (Jr b).toArray] h fun v' h'=>v'=.int .i64 (Nz a b)∧Zf h.size h h':=by
 refine Zc.Zk (args:=[_,_]) Tryz.func103 rfl rfl rfl rfl ?_;unfold Jr;simp -implicitDefEqProofs only[go_sem,↓reduceIte];refine VS.w (h.size+2) [] (.q 0 (.q 1 (.q 2 (.q 3 (.q 5 (.q 6 (.q 7 (.q 8 (.s 4 (.s 9 (.s 10 (.s 11 (.q 12 .nil))))))))))))) mixed (by kernel_rfl) ?_;simp -implicitDefEqProofs only[go_sem,↓reduceIte];refine (Vq T _ _ _).pure ?_;simp -implicitDefEqProofs only[go_sem,↓reduceIte];refine (Vq T _ _ _).pure ?_;simp -implicitDefEqProofs only[go_sem,↓reduceIte];refine⟨(Zf.refl _ _).Yi (by simp) _,?_⟩;refine (oM T _ _ (Rp a.r b.r) (Rp a.n b.n) ?_ ?_).pure ?_
 ·simp -implicitDefEqProofs only[go_sem,↓reduceIte]
 ·simp -implicitDefEqProofs only[go_sem,↓reduceIte]
 unfold Nz;simp -implicitDefEqProofs only[go_sem,↓reduceIte];refine⟨(Zf.refl _ _).Yi (by simp) _,?_⟩
 (repeat' (first|exact Zf.refl _ _|assumption|refine Zf.add ?_ _|refine Zf.Zm ?_ (by first|omega|(simp;omega)) _|refine Zf.trans (by assumption) ?_))
theorem Ly (T:World) (h:Hp) (v:Vt):Zc Tryz.prog T 105 #[.agg (Zo v).toArray] h fun v' h'=>v'=.bool (decide (Ya v))∧Zf h.size h h':=by
 refine Zc.Zk (args:=[_]) Tryz.func105 rfl rfl rfl rfl ?_;unfold Zo;by_cases q1:0≤v.slot
 ·by_cases q2:v.slot<40
  ·simp -implicitDefEqProofs only[go_sem,↓reduceIte,q1,q2];refine (VZ T _ v.b).use ?_;rintro _ _ ⟨rfl,rfl⟩;unfold Jr;by_cases q3:ZQ v.b
   ·simp -implicitDefEqProofs only[go_sem,↓reduceIte,q3];refine (Qq T _ v.k v.c v.s v.nm v.v).use ?_;rintro _ _ ⟨rfl,rfl⟩;by_cases q4:Yx v.k v.c v.s v.nm v.v=0
    ·have e:Ya v:=⟨⟨q1,by omega⟩,q3,q4⟩
     simp -implicitDefEqProofs only[go_sem,↓reduceIte,q4,e]
     (repeat' (first|exact Zf.refl _ _|assumption|refine Zf.add ?_ _|refine Zf.Zm ?_ (by first|omega|(simp;omega)) _|refine Zf.trans (by assumption) ?_))
    ·have e:¬Ya v:=fun h=>q4 h.2.2;simp -implicitDefEqProofs only[go_sem,↓reduceIte,q4,e]
     (repeat' (first|exact Zf.refl _ _|assumption|refine Zf.add ?_ _|refine Zf.Zm ?_ (by first|omega|(simp;omega)) _|refine Zf.trans (by assumption) ?_))
   ·have e:¬Ya v:=fun h=>q3 h.2.1;simp -implicitDefEqProofs only[go_sem,↓reduceIte,q3,e]
  ·have e:¬Ya v:=by unfold Ya;omega
   simp -implicitDefEqProofs only[go_sem,↓reduceIte,q1,q2,e]
 ·have e:¬Ya v:=by unfold Ya;omega
  simp -implicitDefEqProofs only[go_sem,↓reduceIte,q1,e]
theorem Q7 {h:Hp} {v:Value} {l:List Vt} (s:Ts Zo 8 h v l):∃p cap,v=.slice p l.length cap∧(l≠[]→∃b o,p=some ⟨b,o,none⟩∧b<h.size∧(∀i (hi:i<l.length),hc h ⟨b,o+i*8,none⟩=some (.int .i64 l[i].slot))∧∀i (hi:i<l.length),rd h ⟨b,o+i*8,none⟩ 8=some (Zo l[i])):=by
 obtain⟨p,cap,hv,Us⟩:=Ts.open (enc:=Zo) (n:=8) (fun _=>rfl) (by decide) s;refine⟨p,cap,hv,fun YA=>?_⟩;obtain⟨b,o,hp,hb,YS⟩:=Us YA;exact⟨b,o,hp,hb,fun i hi=>(YS i hi).hc (i:=0) rfl,fun i hi=>(YS i hi).rd (by simp[Zo]) rfl⟩
def NB (l:List Vt) (j:Nat):Int:=((l[j]?).map (·.slot)).getD (-1)
def Vr (l:List Vt) (i:Nat):Int:=if i=0 then -1 else NB l (i-1)
def Wj (p:YN) (l:List Vt) (i:Nat):Bool:=match l[i]? with
 | some v=>decide (Ya v∧¬below p v.b∧(i=0∨NB l (i-1)<v.slot))
 | none=>true
def XD (p:YN) (l:List Vt):Int:=if ¬ZQ p∧¬(p.r=0∧p.n=0) then 5 else if (List.range l.length).all (Wj p l)=true then 0 else 5
theorem S7 {l:List Vt} {j:Nat} (hj:j<l.length):NB l j=l[j].slot:=by
 unfold NB;rw[List.getElem?_eq_getElem hj];rfl
theorem OC {p:YN} {l:List Vt} {i:Nat} (hi:i<l.length):Wj p l i=true↔Ya l[i]∧¬below p l[i].b∧(i=0∨NB l (i-1)<l[i].slot):=by
 unfold Wj;rw[List.getElem?_eq_getElem hi];simp only[decide_eq_true_eq]
theorem Gf {p:YN} {l:List Vt} {i:Nat} (hi:i<l.length):Wj p l i=true↔Ya l[i]∧¬below p l[i].b∧Vr l i<l[i].slot:=by
 rw[OC hi];unfold Vr;by_cases h0:i=0
 ·rw[if_pos h0]
  constructor
  ·rintro⟨h1,h2,_⟩;exact⟨h1,h2,by have:=h1.1.1;omega⟩
  ·rintro⟨h1,h2,_⟩;exact⟨h1,h2,.inl h0⟩
 ·rw[if_neg h0]
  constructor
  ·rintro⟨h1,h2,h3⟩;exact⟨h1,h2,h3.resolve_left h0⟩
  ·rintro⟨h1,h2,h3⟩;exact⟨h1,h2,.inr h3⟩
theorem St {p:YN} {l:List Vt} (hp:¬(¬ZQ p∧¬(p.r=0∧p.n=0))) (hg:∀j,j<l.length→Wj p l j=true):XD p l=0:=by
 unfold XD;rw[if_neg hp,if_pos (List.all_eq_true.2 fun i hi=>hg i (List.mem_range.1 hi))]
theorem Q8 {p:YN} {l:List Vt} {i:Nat} (hi:i<l.length) (hb:Wj p l i=false):XD p l=5:=by
 unfold XD;split
 ·rfl
 ·rw[if_neg];intro h;have:=List.all_eq_true.1 h i (List.mem_range.2 hi);rw[hb]at this;cases this
def YT (p:YN) (v:Value):List Value:=[.int .i64 p.r,.int .i64 p.n,v]
theorem RL (T:World) (h:Hp) (p:YN) (u:Value) (l:List Vt) (s:Ts Zo 8 h u l) (hlen:l.length≤4611686018427387904) :
  Zc Tryz.prog T 101 #[.agg (YT p u).toArray] h fun v' h'=>v'=.int .i64 (XD p l)∧Zf h.size h h':=by
 obtain⟨pv,cv,rfl,YS⟩:=Q7 s;refine Zc.Zk (args:=[_]) Tryz.func101 rfl rfl rfl rfl ?_;unfold YT;by_cases z:p.r=0∧p.n=0
 ·obtain⟨z1,z2⟩:=z;have GW:¬(¬ZQ p∧¬(p.r=0∧p.n=0)):=fun h=>h.2 ⟨z1,z2⟩;simp -implicitDefEqProofs only[go_sem,↓reduceIte,z1,z2];obtain⟨H,hH⟩:=Zx (h.push (.cells [.int .i64 0,.int .i64 0,.slice pv l.length cv].toArray 81):Hp);have x0:H[h.size]? = some (.cells (YT p (.slice pv l.length cv)).toArray 81):=by rw[hH];unfold YT;rw[z1,z2];exact Zb
  have aj:Zf h.size h H:=by rw[hH];(repeat' (first|exact Zf.refl _ _|assumption|refine Zf.add ?_ _|refine Zf.Zm ?_ (by first|omega|(simp;omega)) _|refine Zf.trans (by assumption) ?_))
  rw[←hH];clear hH;have hz:=Za x0;refine VS.ZW (fun F g=>Zf H.size H g∧F 1=.pointer (some ⟨h.size,0,none⟩)∧F 17=.slice pv l.length cv∧F 18=.int .i64 l.length∧∃i:Nat,i≤l.length∧F 19=.int .i64 i∧F 3=.int .i64 (Vr l i)∧∀j,j<i→Wj p l j=true)
   (fun F _=>l.length-(vi (F 19)).toNat) rfl ⟨Zf.refl _ _,rfl,rfl,rfl,0,by omega,rfl,rfl,fun j hj=>by omega⟩ ?_
  rintro F g ⟨hg,f1,f17,f18,i,hi,f19,f3,Xk⟩;have T7:=hg.size;have FC:Zf h.size h g:=aj.trans (hg.mono (by omega));by_cases ZD:i<l.length
  ·have ZL:(i:Int)<l.length:=by omega
   obtain⟨bb,oo,rfl,Wi,FD,YS⟩:=YS (by intro e;rw[e]at ZD;simp at ZD);have ZnL:bb<H.size:=by have:=aj.size;omega
   have r1:rd g ⟨bb,oo+i*8,none⟩ 8=some (Zo l[i]):=by
    rw[JQ FC (by exact Wi)];exact YS i ZD
   have rp:rd g ⟨h.size,0,none⟩ 2=some [.int .i64 p.r,.int .i64 p.n]:=by rw[JQ hg (by exact hz),Z9 x0 (by simp[YT])];rfl
   have hsl:=S7 ZD;have gl:=Gf (p:=p) ZD;obtain⟨v,hv⟩:=Zx (l[i]);rw[←hv]at r1 gl hsl;unfold Zo at r1;have YX:Vr l (i+1)=v.slot:=by unfold Vr;rw[if_neg (by omega),Nat.add_sub_cancel];exact hsl
   simp -implicitDefEqProofs only[go_sem,↓reduceIte,f1,f17,f18,f19,ZL,r1];refine (Ly T _ v).use ?_;rintro _ g1 ⟨rfl,b1⟩;have b1s:=b1.size;simp only[Array.size_push]at b1s;have y0:g1[g.size]? = some (.cells [.int .i64 v.slot,.int .i64 v.b.r,.int .i64 v.b.n,.int .i64 v.k,.int .i64 v.c,.int .i64 v.s,.int .i64 v.nm,.int .i64 v.v].toArray 109):=b1.get (by simp) Zb;have y1:hc g1 ⟨g.size,0,none⟩=some (.int .i64 v.slot):=by rw[Zh y0];rfl
   have y2:rd g1 ⟨g.size,1,none⟩ 2=some [.int .i64 v.b.r,.int .i64 v.b.n]:=by rw[Z9 y0 (by simp)];rfl
   have kX:Zf g.size g g1:=(Zf.push (Nat.le_refl _) _).trans (b1.mono (by simp));have y3:rd g1 ⟨h.size,0,none⟩ 2=some [.int .i64 p.r,.int .i64 p.n]:=by rw[JQ kX (by show h.size<g.size;omega)];exact rp
   have Ul:Zf h.size h g1:=FC.trans (kX.mono (by omega));have Ni:Zf H.size H g1:=hg.trans (kX.mono (by omega));by_cases c1:Ya v
   ·by_cases c2:v.slot≤Vr l i
    ·have e:=Q8 (p:=p) ZD (by cases EY:Wj p l i with|false=>rfl|true=>exact absurd (gl.1 EY).2.2 (by omega));simp -implicitDefEqProofs only[go_sem,↓reduceIte,f1,f3,c1,c2,y1,e,Ul]
    ·simp -implicitDefEqProofs only[go_sem,↓reduceIte,f1,f3,c1,c2,y1,y2,y3];refine (Wk T _ v.b p).use ?_;rintro _ g2 ⟨rfl,b2⟩;have y4:hc g2 ⟨g.size,0,none⟩=some (.int .i64 v.slot):=by rw[b2.hc (by show g.size<g1.size;omega)];exact y1
     have Sa:Zf h.size h g2:=Ul.trans (b2.mono (by have:=Ul.size;omega));have QW:Zf H.size H g2:=Ni.trans (b2.mono (by have:=Ni.size;omega));by_cases c3:below p v.b
     ·have e:=Q8 (p:=p) ZD (by cases EY:Wj p l i with|false=>rfl|true=>exact absurd c3 (gl.1 EY).2.1);have oN:=(VY v.b p).2 c3;simp -implicitDefEqProofs only[go_sem,↓reduceIte,oN,e,Sa]
     ·have oN:¬0<Nz v.b p:=fun h=>c3 ((VY v.b p).1 h);simp -implicitDefEqProofs only[go_sem,↓reduceIte,oN,f1,f17,f18,f19,y4];refine⟨⟨QW,f1,f17,f18,i+1,ZD,rfl,by rw[YX];rfl,fun j hj=>?_⟩,?_⟩
      ·by_cases WO:j=i
       ·subst WO;exact gl.2 ⟨c1,c3,by omega⟩
       ·exact Xk j (by omega)
      ·simp only[vi,Zi,↓reduceIte,f19];omega
   ·have e:=Q8 (p:=p) ZD (by cases EY:Wj p l i with|false=>rfl|true=>exact absurd (gl.1 EY).1 c1);simp -implicitDefEqProofs only[go_sem,↓reduceIte,c1,e,Ul]
  ·have YJ:¬(i:Int)<l.length:=by omega
   obtain rfl:i=l.length:=by omega
   have e:=St GW Xk;simp -implicitDefEqProofs only[go_sem,↓reduceIte,f17,f18,f19,YJ,e,FC]
 ·have z':¬p.r=0∨¬p.n=0:=by omega
  by_cases q:ZQ p
  ·have GW:¬(¬ZQ p∧¬(p.r=0∧p.n=0)):=fun h=>h.1 q;have zz:(p.r=0∧p.n=0)=False:=eq_false z;by_cases z1:p.r=0
   ·have z2:¬p.n=0:=fun e=>z ⟨z1,e⟩;exact absurd q.1.1 (by omega)
   ·simp -implicitDefEqProofs only[go_sem,↓reduceIte,z1];refine (VZ T _ p).use ?_;rintro _ _ ⟨rfl,rfl⟩;simp -implicitDefEqProofs only[go_sem,↓reduceIte,q];obtain⟨H,hH⟩:=Zx ((h.push (.cells [.int .i64 p.r,.int .i64 p.n,.slice pv l.length cv].toArray 81)).push (.cells (Jr p).toArray 78):Hp);have x0:H[h.size]? = some (.cells (YT p (.slice pv l.length cv)).toArray 81):=by rw[hH];simp only[Array.getElem?_push,Array.size_push,IntWalk.iteOmega,↓reduceIte];rfl
    have aj:Zf h.size h H:=by rw[hH];(repeat' (first|exact Zf.refl _ _|assumption|refine Zf.add ?_ _|refine Zf.Zm ?_ (by first|omega|(simp;omega)) _|refine Zf.trans (by assumption) ?_))
    rw[←hH];clear hH;have hz:=Za x0;refine VS.ZW (fun F g=>Zf H.size H g∧F 1=.pointer (some ⟨h.size,0,none⟩)∧F 17=.slice pv l.length cv∧F 18=.int .i64 l.length∧∃i:Nat,i≤l.length∧F 19=.int .i64 i∧F 3=.int .i64 (Vr l i)∧∀j,j<i→Wj p l j=true)
     (fun F _=>l.length-(vi (F 19)).toNat) rfl ⟨Zf.refl _ _,rfl,rfl,rfl,0,by omega,rfl,rfl,fun j hj=>by omega⟩ ?_
    rintro F g ⟨hg,f1,f17,f18,i,hi,f19,f3,Xk⟩;have T7:=hg.size;have FC:Zf h.size h g:=aj.trans (hg.mono (by omega));by_cases ZD:i<l.length
    ·have ZL:(i:Int)<l.length:=by omega
     obtain⟨bb,oo,rfl,Wi,FD,YS⟩:=YS (by intro e;rw[e]at ZD;simp at ZD);have ZnL:bb<H.size:=by have:=aj.size;omega
     have r1:rd g ⟨bb,oo+i*8,none⟩ 8=some (Zo l[i]):=by
      rw[JQ FC (by exact Wi)];exact YS i ZD
     have rp:rd g ⟨h.size,0,none⟩ 2=some [.int .i64 p.r,.int .i64 p.n]:=by rw[JQ hg (by exact hz),Z9 x0 (by simp[YT])];rfl
     have hsl:=S7 ZD;have gl:=Gf (p:=p) ZD;obtain⟨v,hv⟩:=Zx (l[i]);rw[←hv]at r1 gl hsl;unfold Zo at r1;have YX:Vr l (i+1)=v.slot:=by unfold Vr;rw[if_neg (by omega),Nat.add_sub_cancel];exact hsl
     simp -implicitDefEqProofs only[go_sem,↓reduceIte,f1,f17,f18,f19,ZL,r1];refine (Ly T _ v).use ?_;rintro _ g1 ⟨rfl,b1⟩;have b1s:=b1.size;simp only[Array.size_push]at b1s;have y0:g1[g.size]? = some (.cells [.int .i64 v.slot,.int .i64 v.b.r,.int .i64 v.b.n,.int .i64 v.k,.int .i64 v.c,.int .i64 v.s,.int .i64 v.nm,.int .i64 v.v].toArray 109):=b1.get (by simp) Zb;have y1:hc g1 ⟨g.size,0,none⟩=some (.int .i64 v.slot):=by rw[Zh y0];rfl
     have y2:rd g1 ⟨g.size,1,none⟩ 2=some [.int .i64 v.b.r,.int .i64 v.b.n]:=by rw[Z9 y0 (by simp)];rfl
     have kX:Zf g.size g g1:=(Zf.push (Nat.le_refl _) _).trans (b1.mono (by simp));have y3:rd g1 ⟨h.size,0,none⟩ 2=some [.int .i64 p.r,.int .i64 p.n]:=by rw[JQ kX (by show h.size<g.size;omega)];exact rp
     have Ul:Zf h.size h g1:=FC.trans (kX.mono (by omega));have Ni:Zf H.size H g1:=hg.trans (kX.mono (by omega));by_cases c1:Ya v
     ·by_cases c2:v.slot≤Vr l i
      ·have e:=Q8 (p:=p) ZD (by cases EY:Wj p l i with|false=>rfl|true=>exact absurd (gl.1 EY).2.2 (by omega));simp -implicitDefEqProofs only[go_sem,↓reduceIte,f1,f3,c1,c2,y1,e,Ul]
      ·simp -implicitDefEqProofs only[go_sem,↓reduceIte,f1,f3,c1,c2,y1,y2,y3];refine (Wk T _ v.b p).use ?_;rintro _ g2 ⟨rfl,b2⟩;have y4:hc g2 ⟨g.size,0,none⟩=some (.int .i64 v.slot):=by rw[b2.hc (by show g.size<g1.size;omega)];exact y1
       have Sa:Zf h.size h g2:=Ul.trans (b2.mono (by have:=Ul.size;omega));have QW:Zf H.size H g2:=Ni.trans (b2.mono (by have:=Ni.size;omega));by_cases c3:below p v.b
       ·have e:=Q8 (p:=p) ZD (by cases EY:Wj p l i with|false=>rfl|true=>exact absurd c3 (gl.1 EY).2.1);have oN:=(VY v.b p).2 c3;simp -implicitDefEqProofs only[go_sem,↓reduceIte,oN,e,Sa]
       ·have oN:¬0<Nz v.b p:=fun h=>c3 ((VY v.b p).1 h);simp -implicitDefEqProofs only[go_sem,↓reduceIte,oN,f1,f17,f18,f19,y4];refine⟨⟨QW,f1,f17,f18,i+1,ZD,rfl,by rw[YX];rfl,fun j hj=>?_⟩,?_⟩
        ·by_cases WO:j=i
         ·subst WO;exact gl.2 ⟨c1,c3,by omega⟩
         ·exact Xk j (by omega)
        ·simp only[vi,Zi,↓reduceIte,f19];omega
     ·have e:=Q8 (p:=p) ZD (by cases EY:Wj p l i with|false=>rfl|true=>exact absurd (gl.1 EY).1 c1);simp -implicitDefEqProofs only[go_sem,↓reduceIte,c1,e,Ul]
    ·have YJ:¬(i:Int)<l.length:=by omega
     obtain rfl:i=l.length:=by omega
     have e:=St GW Xk;simp -implicitDefEqProofs only[go_sem,↓reduceIte,f17,f18,f19,YJ,e,FC]
  ·have e:XD p l=5:=by unfold XD;rw[if_pos ⟨q,z⟩]
   by_cases z1:p.r=0
   ·have z2:¬p.n=0:=fun e=>z ⟨z1,e⟩;have hb:=VZ T (h.push (.cells [.int .i64 0,.int .i64 p.n,.slice pv l.length cv].toArray 81)) p;simp -implicitDefEqProofs only[go_sem,↓reduceIte,z1,z2];unfold Jr at hb;rw[z1]at hb;refine hb.use ?_;rintro _ _ ⟨rfl,rfl⟩;simp -implicitDefEqProofs only[go_sem,↓reduceIte,q,e]
   ·simp -implicitDefEqProofs only[go_sem,↓reduceIte,z1];refine (VZ T _ p).use ?_;rintro _ _ ⟨rfl,rfl⟩;simp -implicitDefEqProofs only[go_sem,↓reduceIte,q,e]
theorem Vs (T:World) (h:Hp) (u:Value) (l:List Vt) (s:Ts Zo 8 h u l) (hl:l.length≤2199023255552) :
  Zc Tryz.prog T 104 #[u] h fun v' h'=>Jn h.size 109 Zo 8 h' v' l∧Zf h.size h h':=by
 obtain⟨p,c,rfl,Us⟩:=Q7 s;refine Zc.Zk (args:=[_]) Tryz.func104 rfl rfl rfl rfl ?_
 cases p with
 | none=>
  have:l=[]:=by
   cases l with
   | nil=>rfl
   | cons x l=>obtain⟨b,o,hp,_⟩:=Us (by simp);cases hp
  subst this;simp -implicitDefEqProofs only[go_sem,↓reduceIte];exact Jn.nil _ _ _ _ _
 | some a=>
  simp -implicitDefEqProofs only[go_sem,↓reduceIte];refine VT (E:=109) (B:=h.size) (n:=8) (bytes:=64) Mr Tryz.underlying79 On dD rfl dC (fun _=>rfl) (Jn.I9 _ _ Zo 8 _ _) (by simp) (s.Z2 (Zf.push (Nat.le_refl _) _)) (by simp;omega) (by omega) ?_;intro v' h' ho hb _;simp -implicitDefEqProofs only[go_sem,↓reduceIte];exact⟨by simpa using ho,(Zf.push (Nat.le_refl _) _).trans hb⟩
def Yu (p:YN) (l:List Vt) (b:YN):Int:=if XD p l≠0 then 5 else if ¬ZQ b then 2 else if below b p then 7 else 0
theorem Mx (p:YN) (l:List Vt):XD p l=0∨XD p l=5:=by
 unfold XD
 repeat' split
 all_goals simp
def DH (B:Nat) (h':Hp) (v':Value) (p:YN) (l:List Vt) (b:YN):Prop:=∃w1 w2,v'=.tuple [.agg (YT (if Yu p l b=0 then b else ⟨0,0⟩) w1).toArray,w2,.int .i64 (Yu p l b)].toArray ∧
 Jn B 109 Zo 8 h' w1 (if Yu p l b=0 then l else [])∧Jn B 109 Zo 8 h' w2 (if Yu p l b=0 then l else [])
theorem TG (T:World) (h:Hp) (p:YN) (u:Value) (l:List Vt) (b:YN) (s:Ts Zo 8 h u l) (hl:l.length≤2199023255552) :
  Zc Tryz.prog T 74 #[.agg (YT p u).toArray,.agg (Jr b).toArray] h fun v' h'=>DH h.size h' v' p l b∧Zf h.size h h':=by
 obtain⟨pu,cu,rfl,Us⟩:=Q7 s;refine Zc.XM (args:=[_,_]) Tryz.func74 rfl rfl rfl rfl ?_;unfold YT Jr;simp -implicitDefEqProofs only[go_sem,↓reduceIte];have V0:Zf h.size h ((((h.push (.cells [.int .i64 p.r,.int .i64 p.n,.slice pu l.length cu].toArray 81)).push (.cells [.int .i64 b.r,.int .i64 b.n].toArray 78)).push (.cells [.int .i64 0,.int .i64 0,.slice none 0 0].toArray 81))):=by (repeat' (first|exact Zf.refl _ _|assumption|refine Zf.add ?_ _|refine Zf.Zm ?_ (by first|omega|(simp;omega)) _|refine Zf.trans (by assumption) ?_))
 refine (RL T _ p _ l (s.Z2 V0) (by omega)).use ?_;rintro _ g1 ⟨rfl,b1⟩;have x0:g1[h.size]? = some (.cells (YT p (.slice pu l.length cu)).toArray 81):=b1.get (by simp only[Array.size_push];omega) (by simp only[Array.getElem?_push,Array.size_push,IntWalk.iteOmega,↓reduceIte,YT]);have x1:g1[h.size+1]? = some (.cells [.int .i64 b.r,.int .i64 b.n].toArray 78):=b1.get (by simp only[Array.size_push];omega) (by simp only[Array.getElem?_push,Array.size_push,IntWalk.iteOmega,↓reduceIte]);have x2:g1[h.size+2]? = some (.cells [.int .i64 0,.int .i64 0,.slice none 0 0].toArray 81):=b1.get (by simp only[Array.size_push];omega) (by simp only[Array.getElem?_push,Array.size_push,IntWalk.iteOmega,↓reduceIte]);have Ul:Zf h.size h g1:=V0.trans (b1.mono (by simp;omega));have z1:=Za x2;clear b1 V0;have fin:∀(G:Hp) (w:List Value),w.length=3→w.all Z7=true→G[h.size+2]? = some (.cells [.int .i64 0,.int .i64 0,.slice none 0 0].toArray 81)→wr G ⟨h.size+1+1,0,none⟩ w=some (G.setIfInBounds (h.size+1+1) (.cells w.toArray 81)):=by
  intro G w h3 h1 hx;rw[ZU (b:=h.size+1+1) hx 0 w,ZJ (by rw[h3];rfl),if_pos ⟨by rw[h3];simp,h1⟩]
 unfold DH;rcases Mx p l with e0|e0
 ·have r1:=Zq x1 (n:=2) rfl;simp -implicitDefEqProofs only[go_sem,↓reduceIte,e0,r1];refine (VZ T _ b).use ?_;rintro _ _ ⟨rfl,rfl⟩;by_cases q1:ZQ b
  ·have rp:rd g1 ⟨h.size,0,none⟩ 2=some [.int .i64 p.r,.int .i64 p.n]:=by rw[Z9 x0 (by simp[YT])];rfl
   have z2:h.size<g1.size:=by omega
   have z3:h.size+1<g1.size:=by omega
   unfold Jr;simp -implicitDefEqProofs only[go_sem,↓reduceIte,q1,r1,rp,z2,z3];refine (Wk T _ b p).use ?_;rintro _ g2 ⟨rfl,b2⟩;have DI:Zf g1.size g1 g2:=(Zf.push (Nat.le_refl _) _).trans (b2.mono (by simp));have x0':=DI.get z2 x0;have zD:=DI.get z3 x1;have x2':=DI.get z1 x2;have Sa:=Ul.trans (DI.mono Ul.size);have z5:=Za x2';by_cases q2:below b p
   ·have e:Yu p l b=7:=by unfold Yu;rw[if_neg (by rw[e0];decide),if_neg (fun h=>h q1),if_pos q2]
    have w2:=fin g2 [.int .i64 0,.int .i64 0,.slice none 0 0] rfl rfl x2';have vB:Nz b p<0:=(OB b p).2 q2;simp -implicitDefEqProofs only[go_sem,↓reduceIte,vB,e,w2,z5];refine⟨⟨_,_,rfl,Jn.nil _ _ _ _ _,Jn.nil _ _ _ _ _⟩,?_⟩;exact Sa.Zm (by omega) _
   ·have e:Yu p l b=0:=by unfold Yu;rw[if_neg (by rw[e0];decide),if_neg (fun h=>h q1),if_neg q2]
    have r1':=Zq zD (n:=2) rfl;have rv:hc g2 ⟨h.size,2,none⟩=some (.slice pu l.length cu):=by rw[Zh x0'];rfl
    have vB:¬Nz b p<0:=fun h=>q2 ((OB b p).1 h);simp -implicitDefEqProofs only[go_sem,↓reduceIte,vB];refine VS.w (h.size+2) [] (.q 0 (.q 1 (.q 2 (.q 5 (.q 6 (.s 3 (.q 4 (.s 7 (.s 8 (.q 9 (.q 10 .nil))))))))))) mixed (by kernel_rfl) ?_;have z6:h.size<h.size+2:=by omega
    have z7:h.size+1<h.size+2:=by omega
    simp -implicitDefEqProofs only[go_sem,↓reduceIte,r1',rv,z6,z7];refine (Vs T _ _ l (s.Z2 Sa) hl).use ?_;rintro w1 g3 ⟨o1,b3⟩;obtain⟨p1,c1,rfl,_⟩:=o1.open;have b3':Zf (h.size+2) g2 g3:=b3.mono (by omega);simp -implicitDefEqProofs only[go_sem,↓reduceIte];refine⟨b3',?_⟩;refine (Vs T _ _ l ((s.Z2 Sa).Z2 b3) hl).use ?_;rintro w2 g4 ⟨o2,b4⟩;have b3s:=b3.size;have b4s:=b4.size;have ak:Zf (h.size+2) g2 g4:=b3'.trans (b4.mono (by omega));have ZfE:g4[h.size+2]? = some (.cells [.int .i64 0,.int .i64 0,.slice none 0 0].toArray 81):=b4.get (by omega) (b3.get z5 x2');have z8:=Za ZfE;have wf:=fin g4 [.int .i64 b.r,.int .i64 b.n,.slice p1 l.length c1] rfl rfl ZfE;have dP:=Sa.trans ((b3.trans (b4.mono b3s)).mono Sa.size);simp -implicitDefEqProofs only[go_sem,↓reduceIte,e,wf,z8];refine⟨ak,ak.Zm (by omega) _,⟨_,_,rfl,?_,?_⟩,?_⟩
    ·exact (((o1.Z2 b4 (Nat.le_refl _)).mono (B':=h.size+1+1+1) (by omega)).ZP (by omega) _).mono (by omega)
    ·exact ((o2.mono (B':=h.size+1+1+1) (by omega)).ZP (by omega) _).mono (by omega)
    ·exact dP.Zm (by omega) _
  ·have e:Yu p l b=2:=by unfold Yu;rw[if_neg (by rw[e0];decide),if_pos q1]
   have w2:=fin g1 [.int .i64 0,.int .i64 0,.slice none 0 0] rfl rfl x2;simp -implicitDefEqProofs only[go_sem,↓reduceIte,q1,e,w2,z1];exact⟨⟨_,_,rfl,Jn.nil _ _ _ _ _,Jn.nil _ _ _ _ _⟩,(Ul.Zm (by omega) _).Yi (by simp;omega) _⟩
 ·have e:Yu p l b=5:=by unfold Yu;rw[if_pos (by rw[e0];decide)]
  have w2:=fin g1 [.int .i64 0,.int .i64 0,.slice none 0 0] rfl rfl x2;simp -implicitDefEqProofs only[go_sem,↓reduceIte,e0,e,w2,z1];exact⟨⟨_,_,rfl,Jn.nil _ _ _ _ _,Jn.nil _ _ _ _ _⟩,Ul.Zm (by omega) _⟩
def Srt (l:List Vt):Prop:=∀i j (hi:i<l.length) (hj:j<l.length),i<j→l[i].slot<l[j].slot
theorem OD {p:YN} {l:List Vt} (h:XD p l=0):∀j,j<l.length→Wj p l j=true:=by
 intro j hj;unfold XD at h;split at h
 ·cases h
 ·split at h
  ·rename_i Xk;exact List.all_eq_true.1 Xk j (List.mem_range.2 hj)
  ·cases h
theorem KL {p:YN} {l:List Vt} (h:XD p l=0):Srt l:=by
 have hg:=OD h;intro i j
 induction j with
 | zero=>intro _ _ h;omega
 | succ j ih=>
  intro hi hj kO;have h1:=(OC hj).1 (hg _ hj);have h2:NB l j<l[j+1].slot:=by
   rcases h1.2.2 with h|h
   ·omega
   ·simpa using h
  rw[S7 (by omega)]at h2;by_cases e:i=j
  ·subst e;exact h2
  ·exact Int.lt_trans (ih hi (by omega) (by omega)) h2
theorem ao {p:YN} {l:List Vt} (h:XD p l=0):∀x∈l,Ya x:=by
 intro x hx;obtain⟨j,hj,rfl⟩:=List.mem_iff_getElem.1 hx;exact ((OC hj).1 (OD h j hj)).1
def JP (l:List Vt) (v:Vt):List Vt:=l.filter (fun x=>decide (x.slot<v.slot))++v :: l.filter (fun x=>decide (v.slot<x.slot))
theorem My {α:Type} (q:α→Bool) (l:List α) (i:Nat) (h1:∀j (hj:j<l.length),j<i→q l[j]=true) (h2:∀j (hj:j<l.length),i≤j→q l[j]=false):l.filter q=l.take i:=by
 conv=>lhs;rw[←List.take_append_drop i l]
 rw[List.filter_append,List.filter_eq_self.2,List.filter_eq_nil_iff.2,List.append_nil]
 ·intro x hx;obtain⟨j,hj,rfl⟩:=List.mem_iff_getElem.1 hx;rw[List.getElem_drop];rw[h2 _ (by rw[List.length_drop]at hj;omega) (by omega)];decide
 ·intro x hx;obtain⟨j,hj,rfl⟩:=List.mem_iff_getElem.1 hx;rw[List.length_take]at hj;rw[List.getElem_take];exact h1 _ (by omega) (by omega)
theorem Mz {α:Type} (q:α→Bool) (l:List α) (i:Nat) (h1:∀j (hj:j<l.length),j<i→q l[j]=false) (h2:∀j (hj:j<l.length),i≤j→q l[j]=true):l.filter q=l.drop i:=by
 conv=>lhs;rw[←List.take_append_drop i l]
 rw[List.filter_append,List.filter_eq_nil_iff.2,List.filter_eq_self.2,List.nil_append]
 ·intro x hx;obtain⟨j,hj,rfl⟩:=List.mem_iff_getElem.1 hx;rw[List.getElem_drop];exact h2 _ (by rw[List.length_drop]at hj;omega) (by omega)
 ·intro x hx;obtain⟨j,hj,rfl⟩:=List.mem_iff_getElem.1 hx;rw[List.length_take]at hj;rw[List.getElem_take,h1 _ (by omega) (by omega)];decide
theorem oP {l:List Vt} (hs:Srt l) {v:Vt} {i:Nat} (hi:i<l.length) (he:l[i].slot=v.slot):JP l v=l.set i v:=by
 have a1:l.filter (fun x=>decide (x.slot<v.slot))=l.take i:=My _ _ _
  (fun j hj WO=>decide_eq_true (by have:=hs j i hj hi WO;omega))
  (fun j hj kO=>decide_eq_false (by
    by_cases e:i=j
    ·subst e;omega
    ·have:=hs i j hi hj (by omega);omega))
 have a2:l.filter (fun x=>decide (v.slot<x.slot))=l.drop (i+1):=Mz _ _ _
  (fun j hj WO=>decide_eq_false (by
    by_cases e:j=i
    ·subst e;omega
    ·have:=hs j i hj hi (by omega);omega))
  (fun j hj kO=>decide_eq_true (by have:=hs i j hi hj (by omega);omega))
 rw[JP,a1,a2,List.set_eq_take_append_cons_drop,if_pos hi]
theorem oQ {l:List Vt} (hs:Srt l) {v:Vt} {i:Nat} (hi:i≤l.length) (h1:∀j (hj:j<l.length),j<i→l[j].slot<v.slot) (h2:∀j (hj:j<l.length),i≤j→v.slot<l[j].slot):JP l v=l.take i++v :: l.drop i:=by
 have a1:l.filter (fun x=>decide (x.slot<v.slot))=l.take i:=My _ _ _ (fun j hj WO=>decide_eq_true (h1 j hj WO)) (fun j hj kO=>decide_eq_false (by have:=h2 j hj kO;omega));have a2:l.filter (fun x=>decide (v.slot<x.slot))=l.drop i:=Mz _ _ _ (fun j hj WO=>decide_eq_false (by have:=h1 j hj WO;omega)) (fun j hj kO=>decide_eq_true (h2 j hj kO));rw[JP,a1,a2]
def Xd:List Nat→Nat
 | []=>0
 | x :: l=>x+256*Xd l
def Dg (l:List Nat):Prop:=∀x∈l,x<256
theorem Dg.getD {l:List Nat} (w:Dg l) (i:Nat):l.getD i 0<256:=ZI w i
theorem Dg.set {l:List Nat} {x:Nat} (w:Dg l) (i:Nat) (hx:x<256):Dg (l.set i x):=by
 intro y hy;rcases List.mem_or_eq_of_mem_set hy with h|h
 ·exact w y h
 ·rw[h];exact hx
theorem vC {l:List Nat} (w:Dg l):Xd l<256 ^ l.length:=by
 induction l with
 | nil=>simp[Xd]
 | cons x l ih=>
  have h1:=ih fun y hy=>w y (List.mem_cons_of_mem _ hy);have h2:=w x List.mem_cons_self;simp only[Xd,List.length_cons,Nat.pow_succ];omega
theorem aq {l:List Nat} (w:Dg l) (i:Nat):l.getD i 0=Xd l/256 ^ i%256:=by
 induction l generalizing i with
 | nil=>simp[Xd]
 | cons x l ih=>
  have hx:=w x List.mem_cons_self
  cases i with
  | zero=>simp only[List.getD_cons_zero,Xd,Nat.pow_zero,Nat.div_one];omega
  | succ i=>
   rw[List.getD_cons_succ,ih (fun y hy=>w y (List.mem_cons_of_mem _ hy)) i,Xd,Nat.pow_succ,Nat.mul_comm (256 ^ i) 256,←Nat.div_div_eq_div_mul]
   congr 2
   omega
theorem getD_none {l:List Nat} {i:Nat} (hi:¬i<l.length):l.getD i 0=0:=by
 rw[List.getD_eq_getElem?_getD,List.getElem?_eq_none (by omega)];rfl
def uv (x:Nat):Value:=.int .u64 (x:Nat)
def FE (n top:Nat):List Nat:=[n%67108864,n/67108864%67108864,n/4503599627370496%67108864,n/302231454903657293676544%67108864,n/20282409603651670423947251286016+top*16777216]
theorem Lz (x n:Nat) (hn:n≤64):YL .u64 (x:Int) (n:Int)=((x*2 ^ n%18446744073709551616:Nat):Int):=by
 rw[Fc .u64 x n (by show n≤64;omega),Od];rfl
theorem S8 (x n:Nat) (hn:n≤64):YV .u64 (x:Int) (n:Int)=((x/2 ^ n:Nat):Int):=by
 rw[SX .u64 x n (by show n≤64;omega),Nat.shiftRight_eq_div_pow]
theorem Su (x:Nat) (hx:x<18446744073709551616):Yc .and .u64 (x:Int) 67108863=((x%67108864:Nat):Int):=by
 have h:=uP x 67108863 hx (by decide);have e:x &&& 67108863=x%67108864:=Nat.and_two_pow_sub_one_eq_mod x 26;rw[e]at h;exact h
theorem dQ (L b:Nat) (hL:L<72057594037927936) (hb:b<256):Yc .or .u64 ((L*256:Nat):Int) (b:Int)=((L*256+b:Nat):Int):=by
 rw[Ay _ _ (by omega) (by omega),Qf (k:=8) (by omega) (by omega)]
theorem ZfF (L:Nat) (hL:L<72057594037927936):YL .u64 (L:Int) 8=((L*256:Nat):Int):=by
 have h:=Lz L 8 (by decide);rw[show L*2 ^ 8%18446744073709551616=L*256 by omega]at h;exact h
theorem DJ {l:List Nat} {m:Nat} (hm:m<l.length):Xd (l.drop m)=l.getD m 0+256*Xd (l.drop (m+1)):=by
 rw[List.drop_eq_getElem_cons hm];have e:l.getD m 0=l[m]:=by rw[List.getD_eq_getElem?_getD,List.getElem?_eq_getElem hm];rfl
 rw[e];rfl
theorem Dg.drop {l:List Nat} (w:Dg l) (i:Nat):Dg (l.drop i):=fun x hx=>w x (List.mem_of_mem_drop hx)
theorem Wl {l:List Nat} (w:Dg l) {n:Nat} (hn:l.length≤n):Xd l<256 ^ n:=Nat.lt_of_lt_of_le (vC w) (Nat.pow_le_pow_right (by omega) hn)
set_option maxHeartbeats 1000000 in
theorem NC (T:World) (h:Hp) (v:Value) (l:List Nat) (top:Nat) (s:Bs h v l) (hl:l.length=16) (ht:top≤1) :
  Zc Tryz.prog T 140 #[v,.int .u64 top] h fun v' h'=>v'=.agg ((FE (Xd l) top).map uv).toArray∧Zf h.size h h':=by
 have wb:=s.byte;obtain⟨p,c,rfl,hc⟩:=s.UL;obtain⟨bb,oo,rfl,Wi,hc⟩:=hc (by intro e;subst e;simp at hl);obtain⟨lo,hi,rfl,hlo,hhi⟩:∃lo hi:List Nat,l=lo++hi∧lo.length=8∧hi.length=8:=⟨l.take 8,l.drop 8,(List.take_append_drop 8 l).symm,by rw[List.length_take];omega,by rw[List.length_drop];omega⟩
 have wlo:Dg lo:=fun x hx=>wb x (List.mem_append_left _ hx);have whi:Dg hi:=fun x hx=>wb x (List.mem_append_right _ hx);refine Zc.Zk (args:=[_,_]) Tryz.func140 rfl rfl rfl rfl ?_;simp -implicitDefEqProofs only[go_sem,↓reduceIte];obtain⟨Z,hZ⟩:∃Z:Obj,Z=.cells #[.int .u64 0,.int .u64 0,.int .u64 0,.int .u64 0,.int .u64 0] 237:=⟨_,rfl⟩
 refine VS.ZW (fun F g=>g=h.push (.cells #[.int .u64 0,.int .u64 0,.int .u64 0,.int .u64 0,.int .u64 0] 237)∧F 0=.slice (some ⟨bb,oo,none⟩) (lo++hi).length c∧F 1=.int .u64 top∧F 4=.pointer (some ⟨h.size,0,none⟩)∧∃j:Nat,j≤8∧F 7=.int .i64 ((j:Int)-1)∧F 5=.int .u64 (Xd (lo.drop j):Nat)∧F 6=.int .u64 (Xd (hi.drop j):Nat))
  (fun F _=>(vi (F 7)+1).toNat) rfl ⟨rfl,rfl,rfl,rfl,8,by omega,rfl,by rw[List.drop_of_length_le (by omega)];rfl,by rw[List.drop_of_length_le (by omega)];rfl⟩ ?_
 rintro F g ⟨rfl,f0,f1,f4,j,hj,f7,f5,f6⟩;by_cases ZD:0<j
 ·obtain⟨m,rfl⟩:∃m,j=m+1:=⟨j-1,by omega⟩
  have e1:((m+1:Nat):Int)-1=(m:Nat):=by omega
  rw[e1]at f7;have g1:=hc m (by omega);have g2:=hc (8+m) (by omega);have d1:(lo++hi).getD m 0=lo.getD m 0:=by rw[List.getD_eq_getElem?_getD,List.getElem?_append_left (by omega),List.getD_eq_getElem?_getD]
  have d2:(lo++hi).getD (8+m) 0=hi.getD m 0:=by rw[List.getD_eq_getElem?_getD,List.getElem?_append_right (by omega),hlo,Nat.add_sub_cancel_left,List.getD_eq_getElem?_getD]
  rw[d1]at g1;rw[d2]at g2;have x1:=wlo.getD m;have x2:=whi.getD m;have n1:Xd (lo.drop m)=Xd (lo.drop (m+1))*256+lo.getD m 0:=by rw[DJ (l:=lo) (by omega)];omega
  have n2:Xd (hi.drop m)=Xd (hi.drop (m+1))*256+hi.getD m 0:=by rw[DJ (l:=hi) (by omega)];omega
  have b1:=Wl (wlo.drop (m+1)) (n:=7) (by rw[List.length_drop];omega);have b2:=Wl (whi.drop (m+1)) (n:=7) (by rw[List.length_drop];omega);rw[show 256 ^ 7=72057594037927936 from rfl]at b1 b2;have s1:=ZfF _ b1;have s2:=ZfF _ b2;have o1:=dQ _ _ b1 x1;have o2:=dQ _ _ b2 x2;have em:(8:Int)+(m:Int)=((8+m:Nat):Int):=by omega
  have k1:(m:Int)<(lo++hi).length:=by omega
  have k2:((8+m:Nat):Int)<(lo++hi).length:=by omega
  have k0:(0:Int)≤m:=by omega
  have ZnO:bb<h.size:=Wi;have m1:((lo.getD m 0:Nat):Int)%18446744073709551616=(lo.getD m 0:Nat):=by omega
  have m2:((hi.getD m 0:Nat):Int)%18446744073709551616=(hi.getD m 0:Nat):=by omega
  simp -implicitDefEqProofs only[go_sem,↓reduceIte,f0,f1,f4,f5,f6,f7,m1,m2,k0,k1,k2,em,Int.toNat_natCast,ZnO,g1,g2,s1,s2,o1,o2];refine⟨⟨rfl,f0,f1,f4,m,by omega,rfl,?_,?_⟩,?_⟩
  ·rw[n1];rfl
  ·rw[n2];rfl
  ·simp only[vi,Zi,↓reduceIte,f7];omega
 ·obtain rfl:j=0:=by omega
  rw[List.drop_zero]at f5 f6;have k0:¬(0:Int)≤((0:Nat):Int)-1:=by omega
  have b1:=Wl wlo (n:=8) (by omega);have b2:=Wl whi (n:=8) (by omega);rw[show 256 ^ 8=18446744073709551616 from rfl]at b1 b2;have La:Xd (lo++hi)=Xd lo+18446744073709551616*Xd hi:=by
   have:∀a b:List Nat,Xd (a++b)=Xd a+256 ^ a.length*Xd b:=by
    intro a b
    induction a with
    | nil=>simp[Xd]
    | cons x a ih=>simp only[List.cons_append,Xd,ih,List.length_cons,Nat.pow_succ,Nat.mul_add,Nat.add_assoc];congr 2;rw[←Nat.mul_assoc,Nat.mul_comm 256]
   rw[this,hlo]
  rw[La];generalize Xd lo=L at *;generalize Xd hi=M at *;have q1:=Su L b1;have q2:YV .u64 (L:Int) 26=((L/2 ^ 26:Nat):Int):=S8 L 26 (by decide);have q3:=Su (L/2 ^ 26) (by omega);have q4:YV .u64 (L:Int) 52=((L/2 ^ 52:Nat):Int):=S8 L 52 (by decide);have q5:YL .u64 (M:Int) 12=((M*2 ^ 12%18446744073709551616:Nat):Int):=Lz M 12 (by decide);have q6:=Ay (L/2 ^ 52) (M*2 ^ 12%18446744073709551616) (by omega) (by omega);rw[Nat.or_comm,Qf (k:=12) (by omega) (by omega)]at q6;have q7:=Su (M*2 ^ 12%18446744073709551616+L/2 ^ 52) (by omega);have q8:YV .u64 (M:Int) 14=((M/2 ^ 14:Nat):Int):=S8 M 14 (by decide);have q9:=Su (M/2 ^ 14) (by omega);have q10:YV .u64 (M:Int) 40=((M/2 ^ 40:Nat):Int):=S8 M 40 (by decide);have q11:YL .u64 (top:Int) 24=((top*2 ^ 24%18446744073709551616:Nat):Int):=Lz top 24 (by decide);have q12:=Ay (M/2 ^ 40) (top*2 ^ 24%18446744073709551616) (by omega) (by omega);rw[Nat.or_comm,Qf (k:=24) (by omega) (by omega)]at q12;simp -implicitDefEqProofs only[go_sem,↓reduceIte,f0,f1,f4,f5,f6,f7,k0,q1,q2,q3,q4,q5,q6,q7,q8,q9,q10,q11,q12];have w1:L%67108864=(L+18446744073709551616*M)%67108864:=by omega
  have w2:L/2 ^ 26%67108864=(L+18446744073709551616*M)/67108864%67108864:=by omega
  have w3:(M*2 ^ 12%18446744073709551616+L/2 ^ 52)%67108864=(L+18446744073709551616*M)/4503599627370496%67108864:=by omega
  have w4:M/2 ^ 14%67108864=(L+18446744073709551616*M)/302231454903657293676544%67108864:=by omega
  have w5:top*2 ^ 24%18446744073709551616+M/2 ^ 40=(L+18446744073709551616*M)/20282409603651670423947251286016+top*16777216:=by omega
  rw[w1,w2,w3,w4,w5];rfl
def Pm (l:List Nat) (i:Nat):List Nat:=
 if i<4 then (l.set i (l.getD i 0%67108864)).set (i+1) ((l.set i (l.getD i 0%67108864)).getD (i+1) 0+l.getD i 0/67108864)
 else (l.set i (l.getD i 0%67108864)).set 0 ((l.set i (l.getD i 0%67108864)).getD 0 0+5*(l.getD i 0/67108864))
def JD (l:List Nat):Nat→List Nat
 | 0=>l
 | i+1=>Pm (JD l i) i
def Ym (K:Nat) (l:List Nat):Prop:=∀x∈l,x<K
theorem Ym.getD {K:Nat} {l:List Nat} (w:Ym K l) (hK:0<K) (i:Nat):l.getD i 0<K:=by
 by_cases hi:i<l.length
 ·have e:l.getD i 0=l[i]:=by rw[List.getD_eq_getElem?_getD,List.getElem?_eq_getElem hi];rfl
  rw[e];exact w _ (List.getElem_mem hi)
 ·rw[getD_none hi];exact hK
theorem Ym.set {K:Nat} {l:List Nat} (w:Ym K l) (i x:Nat) (hx:x<K):Ym K (l.set i x):=by
 intro y hy;rcases List.mem_or_eq_of_mem_set hy with h|h
 ·exact w y h
 ·rw[h];exact hx
theorem Ym.mono {K K':Nat} {l:List Nat} (w:Ym K l) (h:K≤K'):Ym K' l:=fun x hx=>Nat.lt_of_lt_of_le (w x hx) h
theorem Ho (l:List Nat) (i:Nat):(Pm l i).length=l.length:=by
 unfold Pm;split<;>simp
theorem RM (l:List Nat):∀i,(JD l i).length=l.length
 | 0=>rfl
 | i+1=>by rw[JD,Ho,RM l i]
theorem iB {K:Nat} {l:List Nat} {i:Nat} (w:Ym K l) (h0:67108864≤K) (hK:K≤2 ^ 62):Ym (K+2 ^ 39) (Pm l i):=by
 have hx:=w.getD (by omega) i;have w1:Ym K (l.set i (l.getD i 0%67108864)):=w.set i _ (by omega);have hy:=w1.getD (by omega) (i+1);have hz:=w1.getD (by omega) 0;unfold Pm;split
 ·exact (w1.mono (by omega)).set _ _ (by omega)
 ·exact (w1.mono (by omega)).set _ _ (by omega)
theorem Gg {K:Nat} {l:List Nat} (w:Ym K l) (h0:67108864≤K) (hK:K≤2 ^ 61):∀i,i≤5→Ym (K+i*2 ^ 39) (JD l i)
 | 0,_=>by rw[Nat.zero_mul,Nat.add_zero];exact w
 | i+1,hi=>by
  have:=iB (i:=i) (Gg w h0 hK i (by omega)) (by omega) (by omega);rw[JD];exact this.mono (by omega)
theorem OE {l:List Nat} {i j x:Nat} (h:i≠j):(l.set i x).getD j 0=l.getD j 0:=by
 rw[List.getD_eq_getElem?_getD,List.getD_eq_getElem?_getD,List.getElem?_set_ne h]
def Yg (l:List Nat):Obj:=.cells (l.map uv++[]).toArray 237
theorem dR (x:Nat):YV .u64 (x:Int) 26=((x/67108864:Nat):Int):=S8 x 26 (by decide)
set_option maxHeartbeats 1000000 in
theorem ar (T:World) (h:Hp) (bk:Nat) (l:List Nat) (hl:l.length=5) (w:Ym (2 ^ 61) l) (hb:h[bk]? = some (Yg l)) :
  Zc Tryz.prog T 143 #[.pointer (some ⟨bk,0,none⟩)] h fun v' h'=>∃a,a=JD l 5∧h'=h.setIfInBounds bk (Yg ((a.set 1 (a.getD 1 0+a.getD 0 0/67108864)).set 0 (a.getD 0 0%67108864))):=by
 refine Zc.Zk (args:=[_]) Tryz.func143 rfl rfl rfl rfl ?_;simp -implicitDefEqProofs only[go_sem,↓reduceIte];refine VS.ZW (fun F g=>F 0=.pointer (some ⟨bk,0,none⟩)∧∃i:Nat,i≤5∧F 4=.int .i64 i∧g=h.setIfInBounds bk (Yg (JD l i)))
  (fun F _=>5-(vi (F 4)).toNat) rfl ⟨rfl,0,by omega,rfl,(Uv hb).symm⟩ ?_
 rintro F g ⟨f0,i,hi,f4,rfl⟩;have hx:=ZT (o:=Yg (JD l i)) hb;have hw:=Gg w (by decide) (by decide) i hi;have hw2:=hw.getD (by omega) i;have hln:(JD l i).length=5:=by rw[RM,hl]
 by_cases ZD:i<5
 ·have ZL:(i:Int)<5:=by omega
  have YX:JD l (i+1)=Pm (JD l i) i:=rfl;obtain⟨a,ha⟩:=Zx (JD l i);rw[←ha]at hx hw hw2 hln YX ⊢;obtain⟨G,hG⟩:=Zx (h.setIfInBounds bk (Yg a));rw[←hG]at hx ⊢;have g1:=ZN hx (i:=i) (by omega);unfold uv at g1;obtain⟨x,tF⟩:=Zx (a.getD i 0);rw[←tF]at g1 hw2;have e1:=dR x;have e2:=Su x (by omega);simp -implicitDefEqProofs only[go_sem,↓reduceIte,f0,f4,ZL,Int.toNat_natCast,Nat.zero_add,g1,e1];refine VS.w (bk+1) [8] (.q 0 (.q 1 (.q 2 (.q 3 (.q 4 (.q 5 (.q 6 (.q 7 (.w 8 .nil))))))))) mixed (by kernel_rfl) ?_;have c1:JJ _ ⟨bk,i,none⟩ (.int .u64 (x%67108864:Nat))=_:=Z1 (f:=uv) hx (i:=i) (by omega) (x%67108864) rfl;have QL:=ZT (o:=.cells ((a.set i (x%67108864)).map uv++[]).toArray 237) hx;have au:=hw.set i (x%67108864) (by omega);have Us:Pm a i=if i<4 then (a.set i (x%67108864)).set (i+1) ((a.set i (x%67108864)).getD (i+1) 0+x/67108864) else (a.set i (x%67108864)).set 0 ((a.set i (x%67108864)).getD 0 0+5*(x/67108864)):=by rw[tF];rfl
  have oB:(a.set i (x%67108864)).length=5:=by rw[List.length_set,hln]
  obtain⟨a1,vD⟩:=Zx (a.set i (x%67108864));rw[←vD]at QL au Us oB c1;obtain⟨G1,kY⟩:=Zx (G.setIfInBounds bk (.cells (a1.map uv++[]).toArray 237));rw[←kY]at QL c1;by_cases h4:i<4
  ·have h4':(i:Int)<4:=by omega
   rw[if_pos h4]at Us;simp -implicitDefEqProofs only[go_sem,↓reduceIte,f0,f4,ZL,Int.toNat_natCast,Nat.zero_add,g1,e1,e2,c1,h4'];refine VS.w (bk+1) [10] (.q 0 (.q 1 (.q 2 (.q 3 (.q 4 (.q 5 (.q 6 (.q 7 (.q 8 (.q 9 (.w 10 .nil))))))))))) mixed (by kernel_rfl) ?_;have g2:=ZN QL (i:=i+1) (by omega);unfold uv at g2;have hy:=au.getD (by omega) (i+1);obtain⟨y,hyy⟩:=Zx (a1.getD (i+1) 0);rw[←hyy]at g2 hy Us;have e3:(y:Int)+((x/67108864:Nat):Int)=((y+x/67108864:Nat):Int):=by omega
   have e4:((y+x/67108864:Nat):Int)%18446744073709551616=((y+x/67108864:Nat):Int):=by omega
   have ei:(i:Int)+1=((i+1:Nat):Int):=rfl;have hi1:((i+1:Nat):Int)<5:=by omega
   have c2:JJ G1 ⟨bk,i+1,none⟩ (.int .u64 (y+x/67108864:Nat))=_:=Z1 (f:=uv) QL (i:=i+1) (by omega) (y+x/67108864) rfl;simp -implicitDefEqProofs only[go_sem,↓reduceIte,f0,f4,ZL,ei,hi1,Int.toNat_natCast,Nat.zero_add,g2,e3,e4,c2];refine⟨⟨f0,i+1,ZD,rfl,?_⟩,?_⟩
   ·rw[kY,set_set,hG,set_set,YX,Us];rfl
   ·simp only[vi,Zi,↓reduceIte,f4];omega
  ·have h4':¬(i:Int)<4:=by omega
   rw[if_neg h4]at Us;simp -implicitDefEqProofs only[go_sem,↓reduceIte,f0,f4,ZL,Int.toNat_natCast,Nat.zero_add,g1,e1,e2,c1,h4'];refine VS.w (bk+1) [9] (.q 0 (.q 1 (.q 2 (.q 3 (.q 4 (.q 5 (.q 6 (.q 7 (.q 8 (.w 9 .nil)))))))))) mixed (by kernel_rfl) ?_;have g2:=ZN QL (i:=0) (by omega);unfold uv at g2;have hy:=au.getD (by omega) 0;obtain⟨y,hyy⟩:=Zx (a1.getD 0 0);rw[←hyy]at g2 hy Us;have e5:(5:Int)*((x/67108864:Nat):Int)=((5*(x/67108864):Nat):Int):=by omega
   have e6:((5*(x/67108864):Nat):Int)%18446744073709551616=((5*(x/67108864):Nat):Int):=by omega
   have e3:(y:Int)+((5*(x/67108864):Nat):Int)=((y+5*(x/67108864):Nat):Int):=by omega
   have e4:((y+5*(x/67108864):Nat):Int)%18446744073709551616=((y+5*(x/67108864):Nat):Int):=by omega
   have c2:JJ G1 ⟨bk,0,none⟩ (.int .u64 (y+5*(x/67108864):Nat))=_:=Z1 (f:=uv) QL (i:=0) (by omega) (y+5*(x/67108864)) rfl;simp -implicitDefEqProofs only[go_sem,↓reduceIte,f0,f4,ZL,Int.toNat_natCast,Nat.zero_add,g2,e3,e4,e5,e6,c2];refine⟨⟨f0,i+1,ZD,rfl,?_⟩,?_⟩
   ·rw[kY,set_set,hG,set_set,YX,Us];rfl
   ·simp only[vi,Zi,↓reduceIte,f4];omega
 ·have YJ:¬(i:Int)<5:=by omega
  obtain rfl:i=5:=by omega
  obtain⟨a,ha⟩:=Zx (JD l 5);rw[←ha]at hx hw hw2 hln ⊢;obtain⟨G,hG⟩:=Zx (h.setIfInBounds bk (Yg a));rw[←hG]at hx ⊢;have g0:=ZN hx (i:=0) (by omega);have g1:=ZN hx (i:=1) (by omega);have y0:=hw.getD (by omega) 0;have y1:=hw.getD (by omega) 1;unfold uv at g0 g1;obtain⟨x,tF⟩:=Zx (a.getD 0 0);obtain⟨y,hyy⟩:=Zx (a.getD 1 0);rw[←tF]at g0 y0;rw[←hyy]at g1 y1;have e1:=dR x;have e2:=Su x (by omega);have e3:(y:Int)+((x/67108864:Nat):Int)=((y+x/67108864:Nat):Int):=by omega
  have e4:((y+x/67108864:Nat):Int)%18446744073709551616=((y+x/67108864:Nat):Int):=by omega
  have c5:((5:Nat):Int)=5:=rfl;rw[c5]at f4 YJ;simp -implicitDefEqProofs only[go_sem,↓reduceIte,f0,f4,YJ];refine VS.w (bk+1) [12] (.q 0 (.q 1 (.q 2 (.q 3 (.q 4 (.q 5 (.q 6 (.q 7 (.q 8 (.q 9 (.q 10 (.q 11 (.w 12 .nil))))))))))))) mixed (by kernel_rfl) ?_;have c1:JJ G ⟨bk,1,none⟩ (.int .u64 (y+x/67108864:Nat))=_:=Z1 (f:=uv) hx (i:=1) (by omega) (y+x/67108864) rfl;have QL:=ZT (o:=.cells ((a.set 1 (y+x/67108864)).map uv++[]).toArray 237) hx;have oB:(a.set 1 (y+x/67108864)).length=5:=by rw[List.length_set,hln]
  obtain⟨a1,vD⟩:=Zx (a.set 1 (y+x/67108864));rw[←vD]at QL oB c1;obtain⟨G1,kY⟩:=Zx (G.setIfInBounds bk (.cells (a1.map uv++[]).toArray 237));rw[←kY]at QL c1;have g2:=ZN QL (i:=0) (by omega);unfold uv at g2;have g2e:a1.getD 0 0=x:=by rw[vD,OE (by decide),←tF]
  rw[g2e]at g2;simp -implicitDefEqProofs only[go_sem,↓reduceIte,f0,Nat.zero_add,g0,g1,e1,e3,e4,c1];refine VS.w (bk+1) [7] (.q 0 (.q 1 (.q 2 (.q 3 (.q 4 (.q 5 (.q 6 (.w 7 .nil)))))))) mixed (by kernel_rfl) ?_;have c2:JJ G1 ⟨bk,0,none⟩ (.int .u64 (x%67108864:Nat))=_:=Z1 (f:=uv) QL (i:=0) (by omega) (x%67108864) rfl;simp -implicitDefEqProofs only[go_sem,↓reduceIte,f0,Nat.zero_add,g2,e2,c2];rw[kY,set_set,hG,set_set,vD];exact⟨a,rfl,by rw[←tF,←hyy];rfl⟩
theorem getD_set_ne {l:List Nat} {i j x:Nat} (h:i≠j):(l.set i x).getD j 0=l.getD j 0:=by
 rw[List.getD_eq_getElem?_getD,List.getD_eq_getElem?_getD,List.getElem?_set_ne h]
def H16:Nat:=256 ^ 16
def V3:Nat:=4*256 ^ 16-5
def Yr:List Nat→Nat
 | []=>0
 | x :: l=>x+67108864*Yr l
theorem OF:V3=1361129467683753853853498429727072845819:=rfl
theorem av {a b c d e:Nat}:∃q r0 r1 r2 r3 r4:Nat,JD [a,b,c,d,e] 5=[r0,r1,r2,r3,r4]∧Yr [a,b,c,d,e]=Yr [r0,r1,r2,r3,r4]+V3*q∧r1<67108864∧r2<67108864∧r3<67108864∧r4<67108864∧r0≤67108863+5*q∧q≤(e+(d+(c+(b+a/67108864)/67108864)/67108864)/67108864)/67108864:=by
 refine⟨(e+(d+(c+(b+a/67108864)/67108864)/67108864)/67108864)/67108864,a%67108864+5*((e+(d+(c+(b+a/67108864)/67108864)/67108864)/67108864)/67108864),(b+a/67108864)%67108864,(c+(b+a/67108864)/67108864)%67108864,(d+(c+(b+a/67108864)/67108864)/67108864)%67108864,(e+(d+(c+(b+a/67108864)/67108864)/67108864)/67108864)%67108864,?_,?_,Nat.mod_lt _ (by decide),Nat.mod_lt _ (by decide),Nat.mod_lt _ (by decide),Nat.mod_lt _ (by decide),by omega,Nat.le_refl _⟩
 ·rfl
 ·simp only[Yr,OF];omega
theorem Ld {l:List Nat} (h:l.length=5):∃a b c d e,l=[a,b,c,d,e]:=by
 match l,h with
 | [a,b,c,d,e],_=>exact⟨a,b,c,d,e,rfl⟩
def Xl (l:List Nat):List Nat:=((JD l 5).set 1 ((JD l 5).getD 1 0+(JD l 5).getD 0 0/67108864)).set 0 ((JD l 5).getD 0 0%67108864)
theorem Ym.Ld {K a b c d e:Nat} (ha:a<K) (hb:b<K) (hc:c<K) (hd:d<K) (he:e<K):Ym K [a,b,c,d,e]:=by
 intro x hx;simp only[List.mem_cons,List.not_mem_nil,or_false]at hx;rcases hx with rfl|rfl|rfl|rfl|rfl<;>assumption
theorem Ym.vE {K a b c d e:Nat} (w:Ym K [a,b,c,d,e]):a<K∧b<K∧c<K∧d<K∧e<K:=
 ⟨w a (by simp),w b (by simp),w c (by simp),w d (by simp),w e (by simp)⟩
theorem S9 {l:List Nat} (hl:l.length=5) (w:Ym (2 ^ 61) l):(Xl l).length=5∧Ym 134217728 (Xl l)∧Yr (Xl l)%V3=Yr l%V3∧Yr (Xl l)<4*H16+2 ^ 44:=by
 obtain⟨a,b,c,d,e,rfl⟩:=Ld hl;obtain⟨wa,wb,wc,wd,we⟩:=w.vE;obtain⟨q,r0,r1,r2,r3,r4,hc,hv,h1,h2,h3,h4,h0,hq⟩:=@av a b c d e;have hL:Xl [a,b,c,d,e]=[r0%67108864,r1+r0/67108864,r2,r3,r4]:=by unfold Xl;rw[hc];rfl
 have hq':q<2 ^ 36:=by omega
 have hr:r0/67108864<8192:=by omega
 have La:Yr [r0%67108864,r1+r0/67108864,r2,r3,r4]=Yr [r0,r1,r2,r3,r4]:=by simp only[Yr];omega
 rw[hL];refine⟨rfl,Ym.Ld (by omega) (by omega) (by omega) (by omega) (by omega),?_,?_⟩
 ·rw[La,hv,Nat.add_mul_mod_self_left]
 ·rw[La];have e16:H16=340282366920938463463374607431768211456:=rfl;rw[e16];have h0':r0<549755813888:=by omega
  clear hv hc hq hq' hL La h0;simp only[Yr];omega
def TX (a b:Nat) (out:List Nat) (i k:Nat):List Nat:=if i+k<5 then out.set (i+k) (out.getD (i+k) 0+a*b) else out.set (i+k-5) (out.getD (i+k-5) 0+5*a*b)
def Sv (a:Nat) (bs out:List Nat) (i:Nat):Nat→List Nat
 | 0=>out
 | k+1=>TX a (bs.getD k 0) (Sv a bs out i k) i k
def UW (xs bs:List Nat):Nat→List Nat
 | 0=>[0,0,0,0,0]
 | i+1=>Sv (xs.getD i 0) bs (UW xs bs i) i 5
theorem FF (a b:Nat) (out:List Nat) (i k:Nat):(TX a b out i k).length=out.length:=by unfold TX;split<;>simp
theorem Vd (a:Nat) (bs out:List Nat) (i:Nat):∀k,(Sv a bs out i k).length=out.length
 | 0=>rfl
 | k+1=>by rw[Sv,FF,Vd a bs out i k]
theorem Ve (xs bs:List Nat):∀i,(UW xs bs i).length=5
 | 0=>rfl
 | i+1=>by rw[UW,Vd,Ve xs bs i]
theorem NF {a b:Nat} (ha:a<268435456) (hb:b<67108864):a*b<18014398509481984:=
 Nat.lt_of_le_of_lt (Nat.mul_le_mul (Nat.le_of_lt_succ (show a<268435455+1 from ha)) (Nat.le_of_lt_succ (show b<67108863+1 from hb))) (by decide)
theorem KM {a b:Nat} (ha:a<268435456) (hb:b<67108864):5*a*b<90071992547409920:=by
 have:=NF ha hb;rw[Nat.mul_assoc];omega
theorem oR {K a b:Nat} {out:List Nat} {i k:Nat} (w:Ym K out) (hK:0<K) (ha:a<268435456) (hb:b<67108864):Ym (K+90071992547409920) (TX a b out i k):=by
 have h1:=NF ha hb;have h2:=KM ha hb;have q1:=w.getD hK (i+k);have q2:=w.getD hK (i+k-5);unfold TX;split
 ·exact (w.mono (by omega)).set _ _ (by omega)
 ·exact (w.mono (by omega)).set _ _ (by omega)
theorem FG {K a:Nat} {bs out:List Nat} {i:Nat} (w:Ym K out) (hK:0<K) (ha:a<268435456) (hb:Ym 67108864 bs):∀k,Ym (K+k*90071992547409920) (Sv a bs out i k)
 | 0=>by rw[Nat.zero_mul];exact w
 | k+1=>by
  rw[Sv,Nat.add_mul,Nat.one_mul,←Nat.add_assoc];exact oR (FG w hK ha hb k) (by omega) ha (hb.getD (by omega) k)
theorem FH {xs bs:List Nat} (ha:Ym 268435456 xs) (hb:Ym 67108864 bs):∀i,Ym (1+i*450359962737049600) (UW xs bs i)
 | 0=>Ym.Ld (by omega) (by omega) (by omega) (by omega) (by omega)
 | i+1=>by
  rw[UW];exact (FG (FH ha hb i) (by omega) (ha.getD (by omega) i) hb 5).mono (by omega)
theorem NH:∀{l:List Nat} {i x:Nat},i<l.length→Yr (l.set i (l.getD i 0+x))=Yr l+x*67108864 ^ i
 | y :: l,0,x,_=>by simp only[List.set_cons_zero,List.getD_cons_zero,Yr,Nat.pow_zero,Nat.mul_one];omega
 | y :: l,i+1,x,h=>by
  simp only[List.set_cons_succ,List.getD_cons_succ,Yr];rw[NH (l:=l) (i:=i) (x:=x) (by simpa using h),Nat.pow_succ,←Nat.mul_assoc];omega
theorem X5:67108864 ^ 5=V3+5:=rfl
theorem ZfI (v a b y P:Nat):(v+5*a*b*y)%P=(v+a*b*(y*(P+5)))%P:=by
 have e:a*b*(y*(P+5))=5*a*b*y+P*(a*b*y):=by
  rw[Nat.mul_add,Nat.mul_add,Nat.add_comm]
  congr 1
  ·rw[Nat.mul_comm y 5,←Nat.mul_assoc,Nat.mul_comm (a*b) 5,←Nat.mul_assoc 5 a b]
  ·rw[Nat.mul_comm y P,←Nat.mul_assoc,Nat.mul_comm (a*b) P,Nat.mul_assoc]
 rw[e,←Nat.add_assoc,Nat.add_mul_mod_self_left]
theorem iC {a b:Nat} {out:List Nat} {i k:Nat} (hl:out.length=5) (hi:i<5) (hk:k<5):Yr (TX a b out i k)%V3=(Yr out+a*b*67108864 ^ (i+k))%V3:=by
 unfold TX;split
 ·rename_i h;rw[NH (by omega)]
 ·rename_i h;rw[NH (by omega)];obtain⟨j,hj⟩:∃j,i+k=j+5:=⟨i+k-5,by omega⟩
  rw[hj,Nat.add_sub_cancel,Nat.pow_add,X5];exact ZfI _ _ _ _ _
def vF (bs:List Nat):Nat→Nat
 | 0=>0
 | k+1=>vF bs k+bs.getD k 0*67108864 ^ k
theorem DK {bs:List Nat} (h:bs.length=5):vF bs 5=Yr bs:=by
 obtain⟨a,b,c,d,e,rfl⟩:=Ld h;simp only[vF,Yr,List.getD_cons_zero,List.getD_cons_succ];omega
theorem DL {a:Nat} {bs out:List Nat} {i:Nat} (hl:out.length=5) (hi:i<5):∀k,k≤5→Yr (Sv a bs out i k)%V3=(Yr out+a*67108864 ^ i*vF bs k)%V3
 | 0,_=>by rw[Sv,vF,Nat.mul_zero,Nat.add_zero]
 | k+1,hk=>by
  rw[Sv,iC (by rw[Vd,hl]) hi (by omega),Nat.add_mod,DL hl hi k (by omega),←Nat.add_mod,vF,Nat.mul_add,←Nat.add_assoc,Nat.pow_add]
  congr 2
  rw[Nat.mul_assoc,Nat.mul_assoc a]
  congr 1
  rw[←Nat.mul_assoc,Nat.mul_comm (bs.getD k 0),Nat.mul_assoc]
theorem DM {xs bs:List Nat} (hb:bs.length=5):∀i,i≤5→Yr (UW xs bs i)%V3=(vF xs i*Yr bs)%V3
 | 0,_=>by rw[vF,Nat.zero_mul];rfl
 | i+1,hi=>by
  rw[UW,DL (Ve xs bs i) (by omega) 5 (by omega),Nat.add_mod,DM hb i (by omega),←Nat.add_mod,DK hb,vF,Nat.add_mul]
theorem Gi {xs bs:List Nat} (ha:xs.length=5) (hb:bs.length=5) (wa:Ym 268435456 xs) (wb:Ym 67108864 bs) :
  Ym (2 ^ 61) (UW xs bs 5)∧(UW xs bs 5).length=5∧Yr (UW xs bs 5)%V3=Yr xs*Yr bs%V3:=
 ⟨(FH wa wb 5).mono (by decide),Ve xs bs 5,by rw[DM hb 5 (by omega),DK ha]⟩
def Rq (m:List Nat):Nat→List Nat
 | 0=>m.set 0 (m.getD 0 0+5)
 | i+1=>((Rq m i).set (i+1) ((Rq m i).getD (i+1) 0+(Rq m i).getD i 0/67108864)).set i ((Rq m i).getD i 0%67108864)
theorem KN (m:List Nat):∀i,(Rq m i).length=m.length
 | 0=>by simp[Rq]
 | i+1=>by rw[Rq,List.length_set,List.length_set,KN m i]
theorem oS {m:List Nat} (w:Ym 134217728 m):∀i,i≤10→Ym (134217728+6+i*8) (Rq m i)
 | 0,_=>(w.mono (by omega)).set _ _ (by have:=w.getD (by omega) 0;omega)
 | i+1,hi=>by
  have h:=oS w i (by omega);have q1:=h.getD (by omega) (i+1);have q2:=h.getD (by omega) i;rw[Rq];exact ((h.mono (by omega)).set _ _ (by omega)).set _ _ (by omega)
def Sw (m:List Nat):List Nat:=if (Rq m 4).getD 4 0/67108864=0 then m else (Rq m 4).set 4 ((Rq m 4).getD 4 0%67108864)
theorem ZnS {A B C P:Nat} (h1:A+5=B) (h2:B=C) (h3:C<P+5):A<P:=by omega
theorem ZnT {A B C q:Nat} (h1:A+5=B) (h2:B=C+1361129467683753853853498429727072845824*q) (hv:A<1361129467683753853853498429727072845824+2 ^ 44) (h0:¬q=0):q=1:=by omega
theorem ZnU {A B C P:Nat} (h1:A+5=B) (h2:B=C+(P+5)) (hv:A<P+5+2 ^ 44) (hP:2 ^ 45<P):A=C+P*1∧C<P:=by omega
theorem iE {m:List Nat} (hl:m.length=5) (w:Ym 134217728 m) (hv:Yr m<4*H16+2 ^ 44):(Sw m).length=5∧Ym 134217728 (Sw m)∧Yr (Sw m)=Yr m%V3:=by
 obtain⟨a,b,c,d,e,rfl⟩:=Ld hl;obtain⟨wa,wb,wc,wd,we⟩:=w.vE;obtain⟨t0,ht0⟩:∃t,t=a+5:=⟨_,rfl⟩
 obtain⟨t1,ht1⟩:∃t,t=b+t0/67108864:=⟨_,rfl⟩
 obtain⟨t2,ht2⟩:∃t,t=c+t1/67108864:=⟨_,rfl⟩
 obtain⟨t3,ht3⟩:∃t,t=d+t2/67108864:=⟨_,rfl⟩
 obtain⟨t4,ht4⟩:∃t,t=e+t3/67108864:=⟨_,rfl⟩
 have hY:Rq [a,b,c,d,e] 4=[t0%67108864,t1%67108864,t2%67108864,t3%67108864,t4]:=by rw[ht4,ht3,ht2,ht1,ht0];rfl
 have hW:Sw [a,b,c,d,e]=if t4/67108864=0 then [a,b,c,d,e] else [t0%67108864,t1%67108864,t2%67108864,t3%67108864,t4%67108864]:=by unfold Sw;rw[hY];rfl
 have e16:H16=340282366920938463463374607431768211456:=rfl;rw[hW];have hs:Yr [a,b,c,d,e]+5=Yr [t0%67108864,t1%67108864,t2%67108864,t3%67108864,t4]:=by simp only[Yr];omega
 have hx:Yr [t0%67108864,t1%67108864,t2%67108864,t3%67108864,t4]=Yr [t0%67108864,t1%67108864,t2%67108864,t3%67108864,t4%67108864]+(V3+5)*(t4/67108864):=by rw[OF];simp only[Yr];omega
 have hb4:Yr [t0%67108864,t1%67108864,t2%67108864,t3%67108864,t4%67108864]<V3+5:=by rw[OF];simp only[Yr];omega
 have hH:4*H16=V3+5:=rfl;rw[hH]at hv;split
 ·rename_i h0;refine⟨rfl,w,?_⟩;rw[h0,Nat.mul_zero,Nat.add_zero]at hx;rw[Nat.mod_eq_of_lt (ZnS hs hx hb4)]
 ·rename_i h0;refine⟨rfl,Ym.Ld (by omega) (by omega) (by omega) (by omega) (by omega),?_⟩;have h1:t4/67108864=1:=by
   rw[OF]at hx hv;exact ZnT hs hx hv h0
  rw[h1,Nat.mul_one]at hx;obtain⟨hk,hC⟩:=ZnU hs hx hv (by rw[OF];decide);rw[hk,Nat.add_mul_mod_self_left,Nat.mod_eq_of_lt hC]
theorem DN (T:World) (h:Hp) (bk:Nat) (l:List Nat) (hl:l.length=5) (w:Ym (2 ^ 61) l) (hb:h[bk]? = some (Yg l)) :
  Zc Tryz.prog T 143 #[.pointer (some ⟨bk,0,none⟩)] h fun v' h'=>h'=h.setIfInBounds bk (Yg (Xl l)):=
 (ar T h bk l hl w hb).mono fun v' h' ⟨a,ha,hh⟩=>by subst ha;exact hh
theorem FI {l:List Nat} {i:Nat} (hi:i<l.length):nth (l.map uv) i=some (.int .u64 (l.getD i 0:Nat)):=by
 rw[Yh,List.getElem?_map,List.getElem?_eq_getElem hi,List.getD_eq_getElem?_getD,List.getElem?_eq_getElem hi];rfl
theorem Sx {g:Hp} {b:Nat} {l:List Nat} (hl:l.length=5) (hx:g[b]? = some (Yg l)):rd g ⟨b,0,none⟩ 5=some (l.map uv):=by
 unfold Yg at hx;rw[List.append_nil]at hx;exact Zq hx (by simpa using hl)
set_option maxHeartbeats 1000000 in
theorem DO (T:World) (h:Hp) (xs bs:List Nat) (ha:xs.length=5) (hb:bs.length=5) (wa:Ym 268435456 xs) (wb:Ym 67108864 bs) :
  Zc Tryz.prog T 141 #[.agg (xs.map uv).toArray,.agg (bs.map uv).toArray] h fun v' h'=>v'=.agg ((Xl (UW xs bs 5)).map uv).toArray∧Zf h.size h h':=by
 have la:(xs.map uv).length=5:=by simpa using ha
 have lb:(bs.map uv).length=5:=by simpa using hb
 have ta:(xs.map uv).take 5=xs.map uv:=List.take_of_length_le (by omega);refine Zc.Zk (args:=[_,_]) Tryz.func141 rfl rfl rfl rfl ?_;simp -implicitDefEqProofs only[go_sem,↓reduceIte,la,lb,ta];obtain⟨H,hH⟩:=Zx (((((h.push (.cells (xs.map uv).toArray 237)).push (.cells (bs.map uv).toArray 237)).push (.cells #[.int .u64 0,.int .u64 0,.int .u64 0,.int .u64 0,.int .u64 0] 237)).push (.cells #[.int .u64 0,.int .u64 0,.int .u64 0,.int .u64 0,.int .u64 0] 237)):Hp);have HB:Zf h.size h H:=by rw[hH];exact (((Zf.push (Nat.le_refl _) _).Yi (by simp) _).Yi (by simp;omega) _).Yi (by simp;omega) _
 have Hs:H.size=h.size+1+1+1+1:=by rw[hH];simp
 have H1:H[h.size+1]? = some (Yg bs):=by
  rw[hH,Zt (by simp),Zt (by simp)];have:=Zb (h:=h.push (.cells (xs.map uv).toArray 237)) (o:=.cells (bs.map uv).toArray 237);rw[Array.size_push]at this;rw[this];unfold Yg;rw[List.append_nil]
 have H3:H[h.size+1+1+1]? = some (Yg (UW xs bs 0)):=by
  have:=Zb (h:=(((h.push (.cells (xs.map uv).toArray 237)).push (.cells (bs.map uv).toArray 237)).push (.cells #[.int .u64 0,.int .u64 0,.int .u64 0,.int .u64 0,.int .u64 0] 237))) (o:=.cells #[.int .u64 0,.int .u64 0,.int .u64 0,.int .u64 0,.int .u64 0] 237);rw[Array.size_push,Array.size_push,Array.size_push]at this;rw[hH,this];rfl
 have H2:H[h.size+1+1]? = some (Yg [0,0,0,0,0]):=by
  have:=Zb (h:=((h.push (.cells (xs.map uv).toArray 237)).push (.cells (bs.map uv).toArray 237))) (o:=.cells #[.int .u64 0,.int .u64 0,.int .u64 0,.int .u64 0,.int .u64 0] 237);rw[Array.size_push,Array.size_push]at this;rw[hH,Zt (by simp),this];rfl
 rw[←hH];clear hH;obtain⟨bo,hbo⟩:=Zx (h.size+1+1+1);obtain⟨br,hbr⟩:=Zx (h.size+1+1);obtain⟨bb,Wi⟩:=Zx (h.size+1);rw[←hbo]at H3 ⊢;rw[←hbr]at H2 ⊢;rw[←Wi]at H1 ⊢;refine VS.ZW (fun F g=>F 3=.pointer (some ⟨bb,0,none⟩)∧F 4=.pointer (some ⟨br,0,none⟩)∧F 5=.pointer (some ⟨bo,0,none⟩)∧F 10=.agg (xs.map uv).toArray∧∃i:Nat,i≤5∧F 11=.int .i64 i∧g=H.setIfInBounds bo (Yg (UW xs bs i)))
  (fun F _=>5-(vi (F 11)).toNat) rfl ⟨rfl,rfl,rfl,rfl,0,by omega,rfl,(Uv H3).symm⟩ ?_
 rintro F g ⟨f3,f4,f5,f10,i,hi,f11,rfl⟩;by_cases ZD:i<5
 ·have ZL:(i:Int)<5:=by omega
  have n1:=FI (l:=xs) (i:=i) (by omega);have H1':(H.setIfInBounds bo (Yg (UW xs bs i)))[bb]? = some (Yg bs):=by rw[Array.getElem?_setIfInBounds,if_neg (by omega)];exact H1
  have r1:=Sx hb H1';have wA:=wa.getD (by omega) i;have ZbD:UW xs bs (i+1)=Sv (xs.getD i 0) bs (UW xs bs i) i 5:=rfl;obtain⟨a,hax⟩:=Zx (xs.getD i 0);rw[←hax]at n1 wA ZbD;simp -implicitDefEqProofs only[go_sem,↓reduceIte,f3,f4,f5,f10,f11,ZL,Int.toNat_natCast,n1,r1];have wO:Ym (1+i*450359962737049600) (UW xs bs i):=FH wa wb i;have lO:=Ve xs bs i;obtain⟨o,ho⟩:=Zx (UW xs bs i);rw[←ho]at ZbD wO lO ⊢;refine VS.ZW (fun F g=>F 3=.pointer (some ⟨bb,0,none⟩)∧F 4=.pointer (some ⟨br,0,none⟩)∧F 5=.pointer (some ⟨bo,0,none⟩)∧F 10=.agg (xs.map uv).toArray∧F 11=.int .i64 i∧F 6=.int .i64 i∧F 7=.int .u64 a∧F 15=.agg (bs.map uv).toArray∧∃k:Nat,k≤5∧F 16=.int .i64 k∧g=H.setIfInBounds bo (Yg (Sv a bs o i k)))
   (fun F _=>5-(vi (F 16)).toNat) rfl ⟨f3,f4,f5,f10,f11,rfl,rfl,rfl,0,by omega,rfl,rfl⟩ ?_
  clear f3 f4 f5 f10 f11 F;rintro F g ⟨f3,f4,f5,f10,f11,f6,f7,f15,k,hk,f16,rfl⟩;by_cases hlk:k<5
  ·have ZfK:(k:Int)<5:=by omega
   have n2:=FI (l:=bs) (i:=k) (by omega);have wB:=wb.getD (by omega) k;have TY:Sv a bs o i (k+1)=TX a (bs.getD k 0) (Sv a bs o i k) i k:=rfl;obtain⟨b,hbx⟩:=Zx (bs.getD k 0);rw[←hbx]at n2 wB TY;have wR:=FG wO (by omega) wA wb (i:=i) k;have lR:(Sv a bs o i k).length=5:=by rw[Vd,lO]
   have hx:(H.setIfInBounds bo (Yg (Sv a bs o i k)))[bo]? = some (Yg (Sv a bs o i k)):=ZT H3;have hp:=NF wA wB;have hp5:=KM wA wB;obtain⟨r,hr⟩:=Zx (Sv a bs o i k);rw[←hr]at TY wR lR hx ⊢;obtain⟨G,hG⟩:=Zx (H.setIfInBounds bo (Yg r));rw[←hG]at hx ⊢;have eik:(i:Int)+(k:Int)=((i+k:Nat):Int):=rfl;by_cases h5:i+k<5
   ·have h5':((i+k:Nat):Int)<5:=by omega
    have g1:=ZN hx (i:=i+k) (by omega);have y1:=wR.getD (by omega) (i+k);unfold uv at g1;have hs:TX a b r i k=r.set (i+k) (r.getD (i+k) 0+a*b):=by unfold TX;rw[if_pos h5]
    rw[hs]at TY;obtain⟨y,hy⟩:=Zx (r.getD (i+k) 0);rw[←hy]at g1 y1 TY;have e1:(a:Int)*(b:Int)=((a*b:Nat):Int):=(Int.natCast_mul a b).symm;have e2:((a*b:Nat):Int)%18446744073709551616=((a*b:Nat):Int):=by omega
    obtain⟨p,hp'⟩:=Zx (a*b);rw[←hp']at e1 e2 hp TY;have e3:(y:Int)+(p:Int)=((y+p:Nat):Int):=rfl;have e4:((y+p:Nat):Int)%18446744073709551616=((y+p:Nat):Int):=by omega
    have c1:JJ G ⟨bo,i+k,none⟩ (.int .u64 (y+p:Nat))=_:=Z1 (f:=uv) hx (i:=i+k) (by omega) (y+p) rfl;simp -implicitDefEqProofs only[go_sem,↓reduceIte,f3,f4,f5,f6,f7,f10,f11,f15,f16,ZfK,Int.toNat_natCast,n2,eik,h5',g1,e1,e2,e3,e4,c1];refine⟨⟨f3,f4,f5,f10,f11,f6,f7,f15,k+1,hlk,rfl,?_⟩,?_⟩
    ·rw[hG,set_set,TY];rfl
    ·simp only[vi,Zi,↓reduceIte,f16];omega
   ·have h5':¬((i+k:Nat):Int)<5:=by omega
    have g1:=ZN hx (i:=i+k-5) (by omega);have y1:=wR.getD (by omega) (i+k-5);unfold uv at g1;have hs:TX a b r i k=r.set (i+k-5) (r.getD (i+k-5) 0+5*a*b):=by unfold TX;rw[if_neg h5]
    rw[hs]at TY;obtain⟨y,hy⟩:=Zx (r.getD (i+k-5) 0);rw[←hy]at g1 y1 TY;have e0:(5:Int)*(a:Int)=((5*a:Nat):Int):=rfl;have tH:((5*a:Nat):Int)%18446744073709551616=((5*a:Nat):Int):=by omega
    have e1:((5*a:Nat):Int)*(b:Int)=((5*a*b:Nat):Int):=(Int.natCast_mul (5*a) b).symm;have e2:((5*a*b:Nat):Int)%18446744073709551616=((5*a*b:Nat):Int):=by omega
    obtain⟨p,hp'⟩:=Zx (5*a*b);rw[←hp']at e1 e2 hp5 TY;have e3:(y:Int)+(p:Int)=((y+p:Nat):Int):=rfl;have e4:((y+p:Nat):Int)%18446744073709551616=((y+p:Nat):Int):=by omega
    have e5:((i+k:Nat):Int)-5=((i+k-5:Nat):Int):=by omega
    have e6:((i+k-5:Nat):Int)<5:=by omega
    have c1:JJ G ⟨bo,i+k-5,none⟩ (.int .u64 (y+p:Nat))=_:=Z1 (f:=uv) hx (i:=i+k-5) (by omega) (y+p) rfl;simp -implicitDefEqProofs only[go_sem,↓reduceIte,f3,f4,f5,f6,f7,f10,f11,f15,f16,ZfK,Int.toNat_natCast,n2,eik,h5',g1,e0,tH,e1,e2,e3,e4,e5,e6,c1];refine⟨⟨f3,f4,f5,f10,f11,f6,f7,f15,k+1,hlk,rfl,?_⟩,?_⟩
    ·rw[hG,set_set,TY];rfl
    ·simp only[vi,Zi,↓reduceIte,f16];omega
  ·have YJ:¬(k:Int)<5:=by omega
   obtain rfl:k=5:=by omega
   have c5:((5:Nat):Int)=5:=rfl;rw[c5]at f16 YJ;simp -implicitDefEqProofs only[go_sem,↓reduceIte,f3,f4,f5,f10,f11,f16,YJ];refine⟨⟨f3,f4,f5,f10,i+1,ZD,rfl,?_⟩,?_⟩
   ·rw[ZbD]
   ·simp only[vi,Zi,↓reduceIte,f11];omega
 ·have YJ:¬(i:Int)<5:=by omega
  obtain rfl:i=5:=by omega
  have c5:((5:Nat):Int)=5:=rfl;rw[c5]at f11 YJ;have hx:(H.setIfInBounds bo (Yg (UW xs bs 5)))[bo]? = some (Yg (UW xs bs 5)):=ZT H3;have Pe:(H.setIfInBounds bo (Yg (UW xs bs 5)))[br]? = some (Yg [0,0,0,0,0]):=by rw[Array.getElem?_setIfInBounds,if_neg (by omega)];exact H2
  have HB2:Zf h.size h (H.setIfInBounds bo (Yg (UW xs bs 5))):=HB.Zm (by omega) _;obtain⟨w1,w2,w3⟩:=Gi ha hb wa wb;obtain⟨o,ho⟩:=Zx (UW xs bs 5);rw[←ho]at hx Pe HB2 w1 w2 ⊢;generalize H.setIfInBounds bo (Yg o)=G at *;simp -implicitDefEqProofs only[go_sem,↓reduceIte,f3,f4,f5,f10,f11,YJ];refine (DN T G bo o w2 w1 hx).use ?_;rintro _ _ rfl;obtain⟨m1,m2,m3⟩:=S9 w2 w1;have ax:(G.setIfInBounds bo (Yg (Xl o)))[bo]? = some (Yg (Xl o)):=ZT hx;have Bu:(G.setIfInBounds bo (Yg (Xl o)))[br]? = some (Yg [0,0,0,0,0]):=by rw[Array.getElem?_setIfInBounds,if_neg (by omega)];exact Pe
  have HB3:Zf h.size h (G.setIfInBounds bo (Yg (Xl o))):=HB2.Zm (by omega) _;generalize G.setIfInBounds bo (Yg (Xl o))=G2 at *;have r3:=Sx m1 ax;have lc:((Xl o).map uv).length=5:=by simpa using m1
  have w4:=ZU (h:=G2) (b:=br) (l:=([0,0,0,0,0].map uv)) (by unfold Yg at Bu;rw[List.append_nil]at Bu;exact Bu) 0 ((Xl o).map uv);have ho4:((Xl o).map uv).all Z7=true:=by simp[uv,Z7]
  rw[if_pos ⟨by simp[lc],ho4⟩,ZJ (by simp[lc])]at w4;have tc:((Xl o).map uv).take 5=(Xl o).map uv:=List.take_of_length_le (by omega);have hlr:=Za Bu;simp -implicitDefEqProofs only[go_sem,↓reduceIte,f3,f4,f5,r3,w4,lc,tc,hlr];exact HB3.Zm (by omega) _
theorem DP (T:World) (h:Hp) (xs:List Nat) (ha:xs.length=5) (wa:Ym 268435456 xs) :
  Zc Tryz.prog T 142 #[.agg (xs.map uv).toArray] h fun v' h'=>v'=.agg ((Sw (Xl xs)).map uv).toArray∧Zf h.size h h':=by
 have la:(xs.map uv).length=5:=by simpa using ha
 refine Zc.Zk (args:=[_]) Tryz.func142 rfl rfl rfl rfl ?_;simp -implicitDefEqProofs only[go_sem,↓reduceIte,la];obtain⟨H,hH⟩:=Zx (((h.push (.cells (xs.map uv).toArray 237)).push (.cells #[.int .u64 0,.int .u64 0,.int .u64 0,.int .u64 0,.int .u64 0] 237)):Hp);have HB:Zf h.size h H:=by rw[hH];exact ((Zf.push (Nat.le_refl _) _).Yi (by simp) _)
 have Hs:H.size=h.size+1+1:=by rw[hH];simp
 have H0:H[h.size]? = some (Yg xs):=by
  rw[hH,Zt (by simp),Zb];unfold Yg;rw[List.append_nil]
 have H1:H[h.size+1]? = some (Yg [0,0,0,0,0]):=by
  have:=Zb (h:=(h.push (.cells (xs.map uv).toArray 237))) (o:=.cells #[.int .u64 0,.int .u64 0,.int .u64 0,.int .u64 0,.int .u64 0] 237);rw[Array.size_push]at this;rw[hH,this];rfl
 rw[←hH];clear hH;refine (DN T H h.size xs ha (wa.mono (by decide)) H0).use ?_;rintro _ _ rfl;obtain⟨m1,m2,m3,m4⟩:=S9 ha (wa.mono (by decide));have S6:(H.setIfInBounds h.size (Yg (Xl xs)))[h.size]? = some (Yg (Xl xs)):=ZT H0;have QL:(H.setIfInBounds h.size (Yg (Xl xs)))[h.size+1]? = some (Yg [0,0,0,0,0]):=by rw[Array.getElem?_setIfInBounds,if_neg (by omega)];exact H1
 have HB2:Zf h.size h (H.setIfInBounds h.size (Yg (Xl xs))):=HB.Zm (Nat.le_refl _) _;have Hs2:(H.setIfInBounds h.size (Yg (Xl xs))).size=h.size+1+1:=by rw[Array.size_setIfInBounds];exact Hs
 obtain⟨m,hm⟩:=Zx (Xl xs);rw[←hm]at S6 QL HB2 Hs2 m1 m2 m3 m4 ⊢;generalize H.setIfInBounds h.size (Yg m)=G at *;have r0:=Sx m1 S6;have lm:(m.map uv).length=5:=by simpa using m1
 have hom:(m.map uv).all Z7=true:=by simp[uv,Z7]
 have lp:Yw [Value.int .u64 0,.int .u64 0,.int .u64 0,.int .u64 0,.int .u64 0] 0 (m.map uv)=m.map uv:=ZJ lm;have n0:=FI (l:=m) (i:=0) (by omega);have y0:=m2.getD (by omega) 0;have hw0:Rq m 0=m.set 0 (m.getD 0 0+5):=rfl;obtain⟨y,hy⟩:=Zx (m.getD 0 0);rw[←hy]at n0 y0 hw0;have e1:(y:Int)+5=((y+5:Nat):Int):=rfl;have e2:((y+5:Nat):Int)%18446744073709551616=((y+5:Nat):Int):=by omega
 simp -implicitDefEqProofs only[go_sem,↓reduceIte,r0,lm,hom,Hs2,lp,n0,e1,e2];have hms:(m.map uv).set 0 (.int .u64 (y+5:Nat))=(m.set 0 (y+5)).map uv:=by rw[List.map_set];rfl
 rw[hms,←hw0];obtain⟨J,hJ⟩:=Zx (G.push (.cells ((Rq m 0).map uv).toArray 237));have J3:J[h.size+1+1]? = some (Yg (Rq m 0)):=by
  rw[hJ,←Hs2,Zb];unfold Yg;rw[List.append_nil]
 have J0:J[h.size]? = some (Yg m):=by rw[hJ,Zt (by omega)];exact S6
 have J1:J[h.size+1]? = some (Yg [0,0,0,0,0]):=by rw[hJ,Zt (by omega)];exact QL
 have JB:Zf h.size h J:=by rw[hJ];exact HB2.Yi (by omega) _
 rw[←hJ];clear hJ;obtain⟨b3,hb3⟩:∃b,b=h.size+1+1:=⟨_,rfl⟩
 obtain⟨b2,Lr⟩:∃b,b=h.size+1:=⟨_,rfl⟩
 rw[←hb3]at J3 ⊢;rw[←Lr]at J1 ⊢;refine VS.ZW (fun F g=>F 1=.pointer (some ⟨h.size,0,none⟩)∧F 2=.pointer (some ⟨b2,0,none⟩)∧F 3=.pointer (some ⟨b3,0,none⟩)∧∃i:Nat,i≤4∧F 11=.int .i64 i∧g=J.setIfInBounds b3 (Yg (Rq m i)))
  (fun F _=>4-(vi (F 11)).toNat) rfl ⟨rfl,rfl,rfl,0,by omega,rfl,(Uv J3).symm⟩ ?_
 rintro F g ⟨f1,f2,f3,i,hi,f11,rfl⟩;have hx:(J.setIfInBounds b3 (Yg (Rq m i)))[b3]? = some (Yg (Rq m i)):=ZT J3;have wY:=oS m2 i (by omega);have lY:(Rq m i).length=5:=by rw[KN,m1]
 by_cases ZD:i<4
 ·have ZL:(i:Int)<4:=by omega
  have YX:Rq m (i+1)=((Rq m i).set (i+1) ((Rq m i).getD (i+1) 0+(Rq m i).getD i 0/67108864)).set i ((Rq m i).getD i 0%67108864):=rfl;obtain⟨r,hr⟩:=Zx (Rq m i);rw[←hr]at hx wY lY YX ⊢;obtain⟨G1,kY⟩:=Zx (J.setIfInBounds b3 (Yg r));rw[←kY]at hx ⊢;have g1:=ZN hx (i:=i+1) (by omega);have g0:=ZN hx (i:=i) (by omega);have q1:=wY.getD (by omega) (i+1);have q0:=wY.getD (by omega) i;unfold uv at g0 g1;obtain⟨a,hax⟩:=Zx (r.getD i 0);obtain⟨b,hbx⟩:=Zx (r.getD (i+1) 0);rw[←hax]at g0 q0 YX;rw[←hbx]at g1 q1 YX;have s1:=dR a;have s2:=Su a (by omega);have t1:(b:Int)+((a/67108864:Nat):Int)=((b+a/67108864:Nat):Int):=rfl;have t2:((b+a/67108864:Nat):Int)%18446744073709551616=((b+a/67108864:Nat):Int):=by omega
  have ei:(i:Int)+1=((i+1:Nat):Int):=rfl;have dS:((i+1:Nat):Int)<5:=by omega
  have ZnY:(i:Int)<5:=by omega
  have c1:JJ G1 ⟨b3,i+1,none⟩ (.int .u64 (b+a/67108864:Nat))=_:=Z1 (f:=uv) hx (i:=i+1) (by omega) (b+a/67108864) rfl;have FJ:=ZT (o:=.cells ((r.set (i+1) (b+a/67108864)).map uv++[]).toArray 237) hx;have l1:(r.set (i+1) (b+a/67108864)).length=5:=by rw[List.length_set,lY]
  have v1:(r.set (i+1) (b+a/67108864)).getD i 0=a:=by rw[OE (by omega),←hax]
  obtain⟨r1,ay⟩:=Zx (r.set (i+1) (b+a/67108864));rw[←ay]at c1 FJ l1 v1 YX;obtain⟨G2,dJ⟩:=Zx (G1.setIfInBounds b3 (.cells (r1.map uv++[]).toArray 237));rw[←dJ]at c1 FJ;have g2:=ZN FJ (i:=i) (by omega);unfold uv at g2;rw[v1]at g2;have c2:JJ G2 ⟨b3,i,none⟩ (.int .u64 (a%67108864:Nat))=_:=Z1 (f:=uv) FJ (i:=i) (by omega) (a%67108864) rfl;simp -implicitDefEqProofs only[go_sem,↓reduceIte,f1,f2,f3,f11,ZL];refine VS.w (b3+1) [10] (.q 0 (.q 1 (.q 2 (.q 3 (.q 4 (.q 5 (.q 6 (.q 7 (.q 8 (.q 9 (.w 10 .nil))))))))))) mixed (by kernel_rfl) ?_;simp -implicitDefEqProofs only[go_sem,↓reduceIte,f1,f2,f3,f11,ei,dS,ZnY,Int.toNat_natCast,Nat.zero_add,g0,g1,s1,t1,t2,c1,g2,s2,c2];refine⟨⟨f1,f2,f3,i+1,ZD,rfl,?_⟩,?_⟩
  ·rw[dJ,set_set,kY,set_set,YX];rfl
  ·simp only[vi,Zi,↓reduceIte,f11];omega
 ·have YJ:¬(i:Int)<4:=by omega
  obtain rfl:i=4:=by omega
  have c4:((4:Nat):Int)=4:=rfl;rw[c4]at f11 YJ;have hW:Sw m=if (Rq m 4).getD 4 0/67108864=0 then m else (Rq m 4).set 4 ((Rq m 4).getD 4 0%67108864):=rfl
  have iF:(J.setIfInBounds b3 (Yg (Rq m 4)))[h.size]? = some (Yg m):=by rw[Array.getElem?_setIfInBounds,if_neg (by omega)];exact J0
  have FJ:(J.setIfInBounds b3 (Yg (Rq m 4)))[b2]? = some (Yg [0,0,0,0,0]):=by rw[Array.getElem?_setIfInBounds,if_neg (by omega)];exact J1
  have HB3:Zf h.size h (J.setIfInBounds b3 (Yg (Rq m 4))):=JB.Zm (by omega) _;obtain⟨r,hr⟩:=Zx (Rq m 4);rw[←hr]at hx wY lY iF FJ HB3 hW ⊢;generalize J.setIfInBounds b3 (Yg r)=G1 at *;have g4:=ZN hx (i:=4) (by omega);have q4:=wY.getD (by omega) 4;unfold uv at g4;obtain⟨a,hax⟩:=Zx (r.getD 4 0);rw[←hax]at g4 q4 hW;have s1:=dR a;have s2:=Su a (by omega);have w4:=fun (k:List Nat) (hk:k.length=5)=>ZU (h:=G1) (b:=b2) (l:=([0,0,0,0,0].map uv)) (by unfold Yg at FJ;rw[List.append_nil]at FJ;exact FJ) 0 (k.map uv);have h2s:=Za FJ;by_cases h0:a/67108864=0
  ·have h0':((a/67108864:Nat):Int)=0:=by omega
   rw[if_pos h0]at hW;have w5:=w4 m m1;rw[if_pos ⟨by simp[lm],hom⟩,ZJ (by simp[lm])]at w5;have r1:=Sx m1 iF;have tm:(m.map uv).take 5=m.map uv:=List.take_of_length_le (by omega);simp -implicitDefEqProofs only[go_sem,↓reduceIte,f1,f2,f3,f11,YJ,g4,s1,h0',r1,w5,lm,tm,h2s];exact⟨by rw[hW],HB3.Zm (by omega) _⟩
  ·have h0':¬((a/67108864:Nat):Int)=0:=by omega
   rw[if_neg h0]at hW;have c1:JJ G1 ⟨b3,4,none⟩ (.int .u64 (a%67108864:Nat))=_:=Z1 (f:=uv) hx (i:=4) (by omega) (a%67108864) rfl;have hz:=ZT (o:=.cells ((r.set 4 (a%67108864)).map uv++[]).toArray 237) hx;have l1:(r.set 4 (a%67108864)).length=5:=by rw[List.length_set,lY]
   have HB4:Zf h.size h (G1.setIfInBounds b3 (.cells ((r.set 4 (a%67108864)).map uv++[]).toArray 237)):=HB3.Zm (by omega) _;have az:(G1.setIfInBounds b3 (.cells ((r.set 4 (a%67108864)).map uv++[]).toArray 237))[b2]? = some (Yg [0,0,0,0,0]):=by rw[Array.getElem?_setIfInBounds,if_neg (by omega)];exact FJ
   rw[hW];obtain⟨r1,ay⟩:=Zx (r.set 4 (a%67108864));rw[←ay]at c1 hz l1 HB4 az ⊢;generalize G1.setIfInBounds b3 (.cells (r1.map uv++[]).toArray 237)=G2 at *;have r4:=Sx l1 hz;have lr:(r1.map uv).length=5:=by simpa using l1
   have hor:(r1.map uv).all Z7=true:=by simp[uv,Z7]
   have w5:=ZU (h:=G2) (b:=b2) (l:=([0,0,0,0,0].map uv)) (by unfold Yg at az;rw[List.append_nil]at az;exact az) 0 (r1.map uv);rw[if_pos ⟨by simp[lr],hor⟩,ZJ (by simp[lr])]at w5;have tm:(r1.map uv).take 5=r1.map uv:=List.take_of_length_le (by omega);have ZnZ:=Za az;simp -implicitDefEqProofs only[go_sem,↓reduceIte,f1,f2,f3,f11,YJ,g4,s1,s2,h0',Nat.zero_add,c1,r4,w5,lr,tm,ZnZ];exact HB4.Zm (by omega) _
def oU (key:List Nat) (i:Nat):Nat:=if i%4=3 then key.getD i 0%16 else if i%4=0∧0<i then key.getD i 0/4*4 else key.getD i 0
def Jh (key:List Nat):List Nat:=(List.range 16).map (oU key)
def ZfM (data:List Nat) (k:Nat):List Nat:=(data.drop (16*k)).take 16++[1]
def oV (r:Nat) (data:List Nat):Nat→Nat
 | 0=>0
 | k+1=>(oV r data k+Xd (ZfM data k))*r%V3
def vG (key data:List Nat):Nat:=oV (Xd (Jh key)) data ((data.length+15)/16)+Xd ((key.drop 16).take 16)
def aA (key data:List Nat):List Nat:=(List.range 16).map fun i=>vG key data/256 ^ i%256
theorem Hq (key:List Nat):(Jh key).length=16:=by simp[Jh]
theorem DQ (key data:List Nat):(aA key data).length=16:=by simp[aA]
theorem Ra {h:Hp} {p:Option Addr} {c n:Nat} {l:List Nat} (s:Bs h (.slice p n c) l) {m:Nat} (hm:m≤l.length) (c':Nat):Bs h (.slice p m c') (l.take m):=by
 refine⟨?_,fun x hx=>s.byte x (List.mem_of_mem_take hx)⟩;obtain⟨p',cap,hv,hl,hc⟩:=s.sl;simp only[Value.slice.injEq]at hv;obtain⟨rfl,_,rfl⟩:=hv;refine⟨_,c',by rw[List.length_take,Nat.min_eq_left hm],by simp,fun YA=>?_⟩;obtain⟨b,o,rfl,YS⟩:=hc (by intro e;simp at e;subst e;simp at YA);refine⟨b,o,rfl,fun i hi=>?_⟩;have Da:i<m∧i<l.length:=by rw[List.length_map,List.length_take]at hi;omega
 rw[YS i (by simp;omega)];simp
theorem ZbG {h:Hp} {p:Option Addr} {c n:Nat} {l:List Nat} (s:Bs h (.slice p n c) l) (hn:l.length=n) {k m:Nat} (hk:k+m≤n) (QO:n≤c) (c':Nat):Bs h (.slice (A0 p 1 c k) m c') ((l.drop k).take m):=
 Ra (S4 s hn (k:=k) (by omega) QO c') (by rw[List.length_drop];omega) c'
def Vu (key data:List Nat):Int:=if key.length≠32∨4000<data.length then 1 else 0
def oW (B:Nat) (h:Hp) (v:Value) (key data:List Nat):Prop:=∃w,v=.tuple #[w,.int .i64 (Vu key data)]∧Z0 B 5 h w (if Vu key data=0 then aA key data else [])
def XK:List (Option IntKind):=rep 32 [some .i64]++rep 8 [none]
theorem Uw:∀{ks:List (Option IntKind)} {vs:List Value} (i:Nat) (v:Value),YB ks vs=true→(∀k,ks[i]? = some k→UI k v=true)→YB ks (vs.set i v)=true:=by
 intro ks
 induction ks with
 | nil=>intro vs i v h _;cases vs<;>simp[YB]at h ⊢
 | cons k ks ih=>
  intro vs i v h hk
  cases vs with
  | nil=>simp[YB]at h
  | cons x vs=>
   simp only[YB,Bool.and_eq_true]at h
   cases i with
   | zero=>simp only[List.set_cons_zero,YB,Bool.and_eq_true];exact⟨hk k rfl,h.2⟩
   | succ i=>simp only[List.set_cons_succ,YB,Bool.and_eq_true];exact⟨h.1,ih i v h.2 (fun k' Oh=>hk k' (by simpa using Oh))⟩
theorem Qy {i:Nat} (hi:i<32) (n:Int):∀k,XK[i]? = some k→UI k (.int .i64 n)=true:=by
 intro k hk;have:∀i<32,XK[i]? = some (some .i64):=by decide
 rw[this i hi]at hk;obtain rfl:=Option.some.inj hk;rfl
theorem DR {i:Nat} (h1:32≤i) (b:Bool):∀k,XK[i]? = some k→UI k (.bool b)=true:=by
 intro k hk;have:∀j<8,XK[32+j]? = some none:=by decide
 by_cases h2:i<40
 ·have:=this (i-32) (by omega);rw[show 32+(i-32)=i by omega]at this;rw[this]at hk;obtain rfl:=Option.some.inj hk;rfl
 ·rw[List.getElem?_eq_none (by show 40≤i;omega)]at hk;cases hk
theorem OG {g:Hp} {b:Nat} {o:Obj} (hx:g[b]? = some o):g.setIfInBounds b o=g:=by
 apply Array.ext_getElem?;intro i;rw[Array.getElem?_setIfInBounds];by_cases hb:b=i
 ·subst hb;rw[if_pos rfl,if_pos (Za hx),hx]
 ·rw[if_neg hb]
structure ZfN where
 cells:List Value
 code:Int
 val:Int
def JS (cs:List Value) (k c n v:Nat):List Value × Int:=
 if k=1 then (cs.set n (.int .i64 v),v) else if k=2 then (cs,ci cs n) else (cs.set (32+n) (.bool true),0)
def Jb (cs:List Value) (k c s n v:Nat):ZfN:=
 if k=0 then ⟨cs,0,0⟩ else
 if (s:Int)+1=ci cs (8+c) then ⟨cs,ci cs (16+c*2),ci cs (16+c*2+1)⟩ else
 if (s:Int)<ci cs (8+c) then ⟨cs,7,0⟩ else
 if cb cs (32+c)=true then ⟨cs,11,0⟩ else
 ⟨((((JS cs k c n v).1.set (8+c) (.int .i64 ((s:Int)+1))).set (16+c*2) (.int .i64 0)).set (16+c*2+1) (.int .i64 (JS cs k c n v).2)),0,(JS cs k c n v).2⟩
def RN (cs:List Value) (k c s n v:Int):Int:=if Xi cs=true then 5 else Yx k c s n v
def Yn:List Value:=rep 32 [Value.int .i64 0]++rep 8 [Value.bool false]
def doL (cs:List Value) (k c s n v:Int):List Value:=
 if RN cs k c s n v=0 then [.agg (Jb cs k.toNat c.toNat s.toNat n.toNat v.toNat).cells.toArray,.agg [.int .i64 (Jb cs k.toNat c.toNat s.toNat n.toNat v.toNat).code,.int .i64 (Jb cs k.toNat c.toNat s.toNat n.toNat v.toNat).val].toArray,.int .i64 0]
  else [.agg Yn.toArray,.agg [.int .i64 0,.int .i64 0].toArray,.int .i64 (RN cs k c s n v)]
def oX (v':Value) (cs:List Value) (k c s n v:Int):Prop:=v'=.tuple (doL cs k c s n v).toArray
theorem XO {k c s n v:Int} (h:Yx k c s n v=0):∃k' c' s' n' v':Nat,k=k'∧c=c'∧s=s'∧n=n'∧v=v'∧k'≤3∧c'≤7∧s'≤1048576∧n'≤7∧v'≤1073741824:=by
 have:0≤k∧k≤3∧0≤c∧c≤7∧0≤s∧s≤1048576∧0≤n∧n≤7∧0≤v∧v≤1073741824:=by
  unfold Yx at h
  repeat' split at h
  all_goals omega
 exact⟨k.toNat,c.toNat,s.toNat,n.toNat,v.toNat,by omega,by omega,by omega,by omega,by omega,by omega,by omega,by omega,by omega,by omega⟩
theorem X1 {cs:List Value} {i j:Nat} {x:Value} (h:i≠j):ci (cs.set i x) j=ci cs j:=by
 unfold ci;rw[Yh,Yh,List.getElem?_set_ne h]
theorem ints_set {cs:List Value} {j:Nat} (hj:j<cs.length) (x:Int) (hi:∀i,i<32→nth cs i=some (.int .i64 (ci cs i))):∀i,i<32→nth (cs.set j (.int .i64 x)) i=some (.int .i64 (ci (cs.set j (.int .i64 x)) i)):=by
 intro i h32;by_cases e:j=i
 ·subst e;have:nth (cs.set j (.int .i64 x)) j=some (.int .i64 x):=by rw[Yh,List.getElem?_set_self hj]
  unfold ci;rw[this]
 ·rw[X1 e,Yh,List.getElem?_set_ne e,←Yh];exact hi i h32
theorem iG (cs:List Value) (k c n v:Nat) (x:Value) (hn:n≤7) (hc:c≤7):JS (cs.set (8+c) x) k c n v=((JS cs k c n v).1.set (8+c) x,(JS cs k c n v).2):=by
 unfold JS;by_cases k1:k=1
 ·rw[if_pos k1,if_pos k1,List.set_comm _ _ (by omega)]
 ·rw[if_neg k1,if_neg k1];by_cases k2:k=2
  ·rw[if_pos k2,if_pos k2,X1 (by omega)]
  ·rw[if_neg k2,if_neg k2,List.set_comm _ _ (by omega)]
theorem DS {cs:List Value} (hf:YB XK cs=true) (k c n v:Nat) (hn:n≤7):YB XK (JS cs k c n v).1=true:=by
 unfold JS;by_cases k1:k=1
 ·rw[if_pos k1];exact Uw n _ hf (Qy (by omega) _)
 ·rw[if_neg k1];by_cases k2:k=2
  ·rw[if_pos k2];exact hf
  ·rw[if_neg k2];exact Uw (32+n) _ hf (DR (by omega) _)
theorem Gj {cs:List Value} (hf:YB XK cs=true) (k c s n v:Nat) (hn:n≤7) (hc:c≤7):YB XK (Jb cs k c s n v).cells=true:=by
 unfold Jb
 repeat' split
 all_goals first|exact hf|skip
 exact Uw _ _ (Uw _ _ (Uw _ _ (DS hf k c n v hn) (Qy (by omega) _)) (Qy (by omega) _)) (Qy (by omega) _)
theorem DT (T:World) (h:Hp) (b:Nat) (cs:List Value) (k c s n v:Nat) (hl:cs.length=40) (hi:∀i,i<32→nth cs i=some (.int .i64 (ci cs i))) (hn:n≤7) (hk:1≤k) (hk3:k≤3) (hx:h[b]? = some (.cells cs.toArray 43)) :
  Zc Tryz.prog T 25 #[.pointer (some ⟨b,0,none⟩),.agg (Qp k c s n v).toArray] h fun v' h'=>v'=.agg [.int .i64 0,.int .i64 (JS cs k c n v).2].toArray∧Zf h.size (h.setIfInBounds b (.cells (JS cs k c n v).1.toArray 43)) h':=by
 refine Zc.Zk (args:=[_,_]) Tryz.func25 rfl rfl rfl rfl ?_;have hb:=Za hx;have hn8:(n:Int)<8:=by omega
 unfold Qp JS;by_cases k1:k=1
 ·subst k1;simp +contextual -implicitDefEqProofs only[go_sem,↓reduceIte];refine VS.w (h.size+2) [8] (.q 0 (.q 1 (.q 2 (.q 3 (.q 4 (.q 5 (.q 6 (.q 7 (.w 8 .nil))))))))) mixed (by kernel_rfl) ?_;have w1:=YC hx n (.int .i64 v);rw[if_pos ⟨by omega,rfl⟩]at w1;have nn:nth (cs.set n (.int .i64 (v:Int))) n=some (.int .i64 v):=by rw[Yh,List.getElem?_set_self (by omega)]
  simp +contextual -implicitDefEqProofs only[go_sem,↓reduceIte,hn8,w1,hb];refine VS.w (h.size+2) [8] (.q 0 (.q 1 (.q 2 (.q 3 (.q 4 (.q 5 (.q 6 (.q 7 (.w 8 .nil))))))))) mixed (by kernel_rfl) ?_;simp +contextual -implicitDefEqProofs only[go_sem,↓reduceIte,hn8,hb,nn]
  try exact ((Zf.push (by simp) _).Yi (by simp) _)
 ·by_cases k2:k=2
  ·subst k2;have nn:=hi n (by omega);have x1:hc h ⟨b,n,none⟩=some (.int .i64 (ci cs n)):=by rw[Zh hx];exact nn
   have zE:=OG hx;simp +contextual -implicitDefEqProofs only[go_sem,↓reduceIte,zE];refine VS.w (h.size+2) [8] (.q 0 (.q 1 (.q 2 (.q 3 (.q 4 (.q 5 (.q 6 (.q 7 (.w 8 .nil))))))))) mixed (by kernel_rfl) ?_;simp +contextual -implicitDefEqProofs only[go_sem,↓reduceIte,hn8,hb,x1]
  ·have k3:k=3:=by omega
   subst k3;have w1:=YC hx (32+n) (.bool true);rw[if_pos ⟨by omega,rfl⟩]at w1;simp +contextual -implicitDefEqProofs only[go_sem,↓reduceIte];refine VS.w (h.size+2) [6] (.q 0 (.q 1 (.q 2 (.q 3 (.q 4 (.q 5 (.w 6 .nil))))))) mixed (by kernel_rfl) ?_;simp +contextual -implicitDefEqProofs only[go_sem,↓reduceIte,hn8,w1,hb]
   try exact ((Zf.push (by simp) _).Yi (by simp) _)
theorem KO (T:World) (h:Hp) (cs:List Value) (k c s n v:Int) (hf:YB XK cs=true) (hi:∀i,i<32→nth cs i=some (.int .i64 (ci cs i))) (hb:∀i,32≤i→i<40→nth cs i=some (.bool (cb cs i))) :
  Zc Tryz.prog T 14 #[.agg cs.toArray,.agg (Qp k c s n v).toArray] h fun v' h'=>oX v' cs k c s n v∧Zf h.size h h':=by
 have hl:cs.length=40:=Z6 hf;have tk:=YW hl;have Xc:=VV hf;refine Zc.XM (args:=[_,_]) Tryz.func14 rfl rfl rfl rfl ?_;unfold Qp;simp +contextual -implicitDefEqProofs only[go_sem,↓reduceIte,hl,tk];refine (hO T _ cs hl hi).use ?_;rintro _ _ ⟨rfl,rfl⟩;unfold oX doL RN;by_cases e1:Xi cs=true
 ·simp +contextual -implicitDefEqProofs only[go_sem,↓reduceIte,e1];refine⟨rfl,?_⟩
  (repeat' (first|exact Zf.refl _ _|assumption|refine Zf.add ?_ _|refine Zf.Zm ?_ (by first|omega|(simp;omega)) _|refine Zf.trans (by assumption) ?_))
 ·have e1:Xi cs=false:=by simpa using e1
  simp +contextual -implicitDefEqProofs only[go_sem,↓reduceIte,e1];refine (Qq T _ k c s n v).use ?_;rintro _ _ ⟨rfl,rfl⟩;unfold Qp;by_cases e2:Yx k c s n v=0
  ·obtain⟨k,c,s,n,v,rfl,rfl,rfl,rfl,rfl,y1,y2,y3,y4,y5⟩:=XO e2;simp only[Int.toNat_natCast];have XW:Yn=[.int .i64 0,.int .i64 0,.int .i64 0,.int .i64 0,.int .i64 0,.int .i64 0,.int .i64 0,.int .i64 0,.int .i64 0,.int .i64 0,.int .i64 0,.int .i64 0,.int .i64 0,.int .i64 0,.int .i64 0,.int .i64 0,.int .i64 0,.int .i64 0,.int .i64 0,.int .i64 0,.int .i64 0,.int .i64 0,.int .i64 0,.int .i64 0,.int .i64 0,.int .i64 0,.int .i64 0,.int .i64 0,.int .i64 0,.int .i64 0,.int .i64 0,.int .i64 0,.bool false,.bool false,.bool false,.bool false,.bool false,.bool false,.bool false,.bool false]:=rfl;obtain⟨H,hH⟩:=Zx (((((((h.push (.cells cs.toArray 43)).push (.cells [.int .i64 k,.int .i64 c,.int .i64 s,.int .i64 n,.int .i64 v].toArray 47)).push (.cells [.int .i64 0,.int .i64 0,.int .i64 0,.int .i64 0,.int .i64 0,.int .i64 0,.int .i64 0,.int .i64 0,.int .i64 0,.int .i64 0,.int .i64 0,.int .i64 0,.int .i64 0,.int .i64 0,.int .i64 0,.int .i64 0,.int .i64 0,.int .i64 0,.int .i64 0,.int .i64 0,.int .i64 0,.int .i64 0,.int .i64 0,.int .i64 0,.int .i64 0,.int .i64 0,.int .i64 0,.int .i64 0,.int .i64 0,.int .i64 0,.int .i64 0,.int .i64 0,.bool false,.bool false,.bool false,.bool false,.bool false,.bool false,.bool false,.bool false].toArray 43)).push (.cells [.int .i64 0,.int .i64 0].toArray 39)).push (.cells cs.toArray 43)).push (.cells [.int .i64 k,.int .i64 c,.int .i64 s,.int .i64 n,.int .i64 v].toArray 47)):Hp);have x0:H[h.size]? = some (.cells cs.toArray 43):=by rw[hH];simp only[Array.getElem?_push,Array.size_push,IntWalk.iteOmega,↓reduceIte]
   have x1:H[h.size+1]? = some (.cells [.int .i64 k,.int .i64 c,.int .i64 s,.int .i64 n,.int .i64 v].toArray 47):=by rw[hH];simp only[Array.getElem?_push,Array.size_push,IntWalk.iteOmega,↓reduceIte]
   have x2:H[h.size+2]? = some (.cells Yn.toArray 43):=by rw[hH,XW];simp only[Array.getElem?_push,Array.size_push,IntWalk.iteOmega,↓reduceIte]
   have x3:H[h.size+3]? = some (.cells [.int .i64 0,.int .i64 0].toArray 39):=by rw[hH];simp only[Array.getElem?_push,Array.size_push,IntWalk.iteOmega,↓reduceIte]
   have hHs:H.size=h.size+6:=by rw[hH];simp
   have aj:Zf h.size h H:=by rw[hH];(repeat' (first|exact Zf.refl _ _|assumption|refine Zf.add ?_ _|refine Zf.Zm ?_ (by first|omega|(simp;omega)) _|refine Zf.trans (by assumption) ?_))
   rw[←hH];clear hH XW;have c1:hc H ⟨h.size+1,0,none⟩=some (.int .i64 k):=by rw[Zh x1];rfl
   have c2:hc H ⟨h.size+1,1,none⟩=some (.int .i64 c):=by rw[Zh x1];rfl
   have c3:hc H ⟨h.size+1,2,none⟩=some (.int .i64 s):=by rw[Zh x1];rfl
   have cc:(c:Int)<8:=by omega
   have ZfP:=hi (8+c) (by omega);have lx:hc H ⟨h.size,8+c,none⟩=some (.int .i64 (ci cs (8+c))):=by rw[Zh x0];exact ZfP
   have fin:∀(G:Hp) (D:List Value) (a b:Int),D.length=40→D.all Z7=true→G[h.size+2]? = some (.cells Yn.toArray 43)→G[h.size+3]? = some (.cells [.int .i64 0,.int .i64 0].toArray 39) →
     wr G ⟨h.size+1+1,0,none⟩ D=some (G.setIfInBounds (h.size+1+1) (.cells D.toArray 43)) ∧
     wr (G.setIfInBounds (h.size+1+1) (.cells D.toArray 43)) ⟨h.size+1+1+1,0,none⟩ [.int .i64 a,.int .i64 b]=some ((G.setIfInBounds (h.size+1+1) (.cells D.toArray 43)).setIfInBounds (h.size+1+1+1) (.cells [.int .i64 a,.int .i64 b].toArray 39)):=by
    intro G D a b d1 d2 g2 g3;refine⟨?_,?_⟩
    ·rw[ZU (b:=h.size+1+1) g2 0 D,ZJ (by rw[d1];rfl),if_pos ⟨by rw[d1];exact Nat.le_refl _,d2⟩]
    ·rw[ZU (b:=h.size+1+1+1) (l:=[.int .i64 0,.int .i64 0]) (t:=39) (by rw[Array.getElem?_setIfInBounds,if_neg (by omega)];exact g3),if_pos ⟨by simp,rfl⟩];rfl
   have r0:=Zq x0 hl;have iH:∀(G:Hp) (o o':Obj),Zf h.size h G→Zf h.size h ((G.setIfInBounds (h.size+1+1) o).setIfInBounds (h.size+1+1+1) o'):=fun G o o' hG=>(hG.Zm (by omega) _).Zm (by omega) _;by_cases k0:k=0
   ·subst k0;have ed:Jb cs 0 c s n v=⟨cs,0,0⟩:=rfl;obtain⟨w2,w3⟩:=fin H cs 0 0 hl Xc x2 x3;simp -implicitDefEqProofs only[go_sem,↓reduceIte,e2,c1,c2,cc,ed,r0,w2,w3,hl,hHs,tk,aj];exact iH H _ _ aj
   ·have k0':¬(k:Int)=0:=by omega
    simp -implicitDefEqProofs only[go_sem,↓reduceIte,e2,c1,c2,cc,k0'];refine VS.q mixed (by kernel_rfl) ?_;by_cases q1:(s:Int)+1=ci cs (8+c)
    ·have ed:Jb cs k c s n v=⟨cs,ci cs (16+c*2),ci cs (16+c*2+1)⟩:=by unfold Jb;rw[if_neg k0,if_pos q1]
     obtain⟨w2,w3⟩:=fin H cs (ci cs (16+c*2)) (ci cs (16+c*2+1)) hl Xc x2 x3;have ra:rd H ⟨h.size,16+c*2,none⟩ 2=some [.int .i64 (ci cs (16+c*2)),.int .i64 (ci cs (16+c*2+1))]:=by
      rw[Z9 x0 (by omega),E6 (hi _ (by omega)) (hi _ (by omega))]
     simp -implicitDefEqProofs only[go_sem,↓reduceIte,c3,lx,q1];refine VS.w (h.size+1+1) [] (.q 0 (.q 1 (.q 2 (.q 3 (.q 4 (.q 5 (.s 6 (.s 7 (.q 8 .nil))))))))) mixed (by kernel_rfl) ?_;simp -implicitDefEqProofs only[go_sem,↓reduceIte,e2,c2,cc,ed,r0,ra,w2,w3,hl,hHs,tk,aj];exact iH H _ _ aj
    ·simp -implicitDefEqProofs only[go_sem,↓reduceIte,c3,lx,q1];refine VS.q mixed (by kernel_rfl) ?_;by_cases q2:(s:Int)<ci cs (8+c)
     ·have ed:Jb cs k c s n v=⟨cs,7,0⟩:=by unfold Jb;rw[if_neg k0,if_neg q1,if_pos q2]
      obtain⟨w2,w3⟩:=fin H cs 7 0 hl Xc x2 x3;simp -implicitDefEqProofs only[go_sem,↓reduceIte,c3,lx,q2,e2,ed,r0,w2,w3,hl,hHs,tk,aj];exact iH H _ _ aj
     ·have rv:hc H ⟨h.size,32+c,none⟩=some (.bool (cb cs (32+c))):=by rw[Zh x0];exact hb _ (by omega) (by omega)
      by_cases q3:cb cs (32+c)=true
      ·have ed:Jb cs k c s n v=⟨cs,11,0⟩:=by unfold Jb;rw[if_neg k0,if_neg q1,if_neg q2,if_pos q3]
       obtain⟨w2,w3⟩:=fin H cs 11 0 hl Xc x2 x3;rw[q3]at rv;simp -implicitDefEqProofs only[go_sem,↓reduceIte,c3,lx,q2,c2,cc,rv,e2,ed,r0,w2,w3,hl,hHs,tk,aj];exact iH H _ _ aj
      ·have q3':cb cs (32+c)=false:=by simpa using q3
       rw[q3']at rv;have w1:=YC x0 (8+c) (.int .i64 ((s:Int)+1));rw[if_pos ⟨by omega,rfl⟩]at w1;have rc:=Zq x1 (n:=5) rfl;have zD:(H.setIfInBounds h.size (.cells (cs.set (8+c) (.int .i64 ((s:Int)+1))).toArray 43))[h.size+1]? = some (.cells [.int .i64 k,.int .i64 c,.int .i64 s,.int .i64 n,.int .i64 v].toArray 47):=by rw[Array.getElem?_setIfInBounds,if_neg (by omega)];exact x1
       have rc':=Zq zD (n:=5) rfl;simp -implicitDefEqProofs only[go_sem,↓reduceIte,c3,lx,q2,c2,cc,rv,w1,rc'];have x0':(H.setIfInBounds h.size (.cells (cs.set (8+c) (.int .i64 ((s:Int)+1))).toArray 43))[h.size]? = some (.cells (cs.set (8+c) (.int .i64 ((s:Int)+1))).toArray 43):=by rw[Array.getElem?_setIfInBounds,if_pos rfl,if_pos (by omega)]
       have Ul:Zf h.size h (H.setIfInBounds h.size (.cells (cs.set (8+c) (.int .i64 ((s:Int)+1))).toArray 43)):=aj.Zm (Nat.le_refl _) _;have x2':(H.setIfInBounds h.size (.cells (cs.set (8+c) (.int .i64 ((s:Int)+1))).toArray 43))[h.size+2]? = some (.cells Yn.toArray 43):=by rw[Array.getElem?_setIfInBounds,if_neg (by omega)];exact x2
       have x3':(H.setIfInBounds h.size (.cells (cs.set (8+c) (.int .i64 ((s:Int)+1))).toArray 43))[h.size+3]? = some (.cells [.int .i64 0,.int .i64 0].toArray 39):=by rw[Array.getElem?_setIfInBounds,if_neg (by omega)];exact x3
       have hGs:(H.setIfInBounds h.size (.cells (cs.set (8+c) (.int .i64 ((s:Int)+1))).toArray 43)).size=h.size+6:=by rw[Array.size_setIfInBounds];exact hHs
       refine (DT T _ h.size (cs.set (8+c) (.int .i64 ((s:Int)+1))) k c s n v (by rw[List.length_set];exact hl) (ints_set (by omega) _ hi) (by omega) (by omega) (by omega) x0').use ?_;rintro _ g1 ⟨rfl,b1⟩;rw[iG cs k c n v _ (by omega) (by omega)]at b1 ⊢;have hfA:=DS hf k c n v (by omega);have ed:Jb cs k c s n v=⟨((((JS cs k c n v).1.set (8+c) (.int .i64 ((s:Int)+1))).set (16+c*2) (.int .i64 0)).set (16+c*2+1) (.int .i64 (JS cs k c n v).2)),0,(JS cs k c n v).2⟩:=by unfold Jb;rw[if_neg k0,if_neg q1,if_neg q2,if_neg q3]
       obtain⟨A,hA⟩:=Zx ((JS cs k c n v).1.set (8+c) (.int .i64 ((s:Int)+1)));obtain⟨a,ha⟩:=Zx ((JS cs k c n v).2);rw[←hA,←ha]at ed;simp only[←hA,←ha]at b1 ⊢;have ZfQ:YB XK A=true:=by rw[hA];exact Uw _ _ hfA (Qy (by omega) _)
       have ZzD:A.length=40:=Z6 ZfQ;obtain⟨G,hG⟩:=Zx (H.setIfInBounds h.size (.cells (cs.set (8+c) (.int .i64 ((s:Int)+1))).toArray 43):Hp);rw[←hG]at b1 zD x2' x3' Ul hGs;clear x0' rc' hG;rw[hGs]at b1;have g0:g1[h.size]? = some (.cells A.toArray 43):=b1.get (by omega) (by rw[Array.getElem?_setIfInBounds,if_pos rfl,if_pos (by omega)]);have g1c:=b1.get (k:=h.size+1) (by omega) (by rw[Array.getElem?_setIfInBounds,if_neg (by omega)];exact zD);have g2:=b1.get (k:=h.size+2) (by omega) (by rw[Array.getElem?_setIfInBounds,if_neg (by omega)];exact x2');have g3:=b1.get (k:=h.size+3) (by omega) (by rw[Array.getElem?_setIfInBounds,if_neg (by omega)];exact x3');have gs:h.size+6≤g1.size:=by have:=b1.size;rw[Array.size_setIfInBounds,hGs]at this;exact this
       have gB:Zf h.size h g1:=(Ul.Zm (Nat.le_refl _) _).trans (b1.mono (by omega));clear b1 Ul zD x2' x3' hGs;have gc:hc g1 ⟨h.size+1,1,none⟩=some (.int .i64 c):=by rw[Zh g1c];rfl
       have wa:=ZU g0 (16+c*2) [.int .i64 0,.int .i64 a];rw[if_pos ⟨by simp only[List.length_cons,List.length_nil];omega,rfl⟩,VM,VM]at wa;have wa:wr g1 ⟨h.size,16+c*2,none⟩ [.int .i64 0,.int .i64 a]=some (g1.setIfInBounds h.size (.cells ((A.set (16+c*2) (.int .i64 0)).set (16+c*2+1) (.int .i64 a)).toArray 43)):=by rw[wa];simp[Yw]
       simp -implicitDefEqProofs only[go_sem,↓reduceIte,gc,cc,wa];obtain⟨D,hD⟩:=Zx ((A.set (16+c*2) (.int .i64 0)).set (16+c*2+1) (.int .i64 a));have hfD:YB XK D=true:=by rw[hD];exact Uw _ _ (Uw _ _ ZfQ (Qy (by omega) _)) (Qy (by omega) _)
       have vH:D.length=40:=Z6 hfD;have dU:=VV hfD;have iI:=YW vH;rw[←hD]at ed ⊢;obtain⟨G,hG⟩:=Zx ((g1.setIfInBounds h.size (.cells D.toArray 43)).push (.cells [.int .i64 0,.int .i64 a].toArray 39):Hp);have n0:G[h.size]? = some (.cells D.toArray 43):=by rw[hG];simp only[Array.getElem?_push,Array.size_setIfInBounds,Array.getElem?_setIfInBounds,IntWalk.iteOmega,↓reduceIte]
       have n2:G[h.size+2]? = some (.cells Yn.toArray 43):=by rw[hG];simp only[Array.getElem?_push,Array.size_setIfInBounds,Array.getElem?_setIfInBounds,IntWalk.iteOmega,↓reduceIte];exact g2
       have n3:G[h.size+3]? = some (.cells [.int .i64 0,.int .i64 0].toArray 39):=by rw[hG];simp only[Array.getElem?_push,Array.size_setIfInBounds,Array.getElem?_setIfInBounds,IntWalk.iteOmega,↓reduceIte];exact g3
       have n6:G[g1.size]? = some (.cells [.int .i64 0,.int .i64 a].toArray 39):=by rw[hG];simp only[Array.getElem?_push,Array.size_setIfInBounds,IntWalk.iteOmega,↓reduceIte]
       have nB:Zf h.size h G:=by rw[hG];exact (gB.Zm (Nat.le_refl _) _).Yi (by simp;omega) _
       have nS:G.size=g1.size+1:=by rw[hG];simp
       rw[←hG];have rA:=Zq n0 vH;have rB:=Zq n6 (n:=2) rfl;obtain⟨w2,w3⟩:=fin G D 0 a vH dU n2 n3;refine VS.w (h.size+1) [2,3,4] (.q 0 (.or 1 (.w 2 (.w 3 (.w 4 .nil))) (.s 2 (.s 1 (.w 3 (.w 4 .nil)))))) mixed (by kernel_rfl) ?_;have z1:h.size<h.size+1:=by omega
       have z2:h.size+1+1<G.size:=by omega
       have z3:h.size+1+1+1<G.size:=by omega
       simp -implicitDefEqProofs only[go_sem,↓reduceIte,rA,rB,w2,w3,vH,iI,z1,z2,z3,ed];exact⟨iH G _ _ nB,iH G _ _ nB⟩
  ·simp +contextual -implicitDefEqProofs only[go_sem,↓reduceIte,e2];refine⟨rfl,?_⟩
   (repeat' (first|exact Zf.refl _ _|assumption|refine Zf.add ?_ _|refine Zf.Zm ?_ (by first|omega|(simp;omega)) _|refine Zf.trans (by assumption) ?_))
theorem oY {g:Hp} {b:Nat} {o o':Obj} (hx:g[b]? = some o'):(g.setIfInBounds b o)[b]? = some o:=by rw[Array.getElem?_setIfInBounds,if_pos rfl,if_pos (Za hx)]
def Tw:Vt:=⟨0,⟨0,0⟩,0,0,0,0,0⟩
def FK (v:Vt):List Value:=[.int .i64 v.k,.int .i64 v.c,.int .i64 v.s,.int .i64 v.nm,.int .i64 v.v]
def QD (slot:Int) (ZfR v:Vt):Vt:=if v.slot=slot∧below ZfR.b v.b then v else ZfR
def Q9 (slot:Int) (l:List Vt):Vt:=l.foldl (QD slot) Tw
def Ua (l:List Vt):Bool:=l.all fun v=>decide (Ya v)
def Vf (slot:Int) (l:List Vt):Int:=if slot<0∨39<slot then 2 else if Ua l=true then 0 else 5
def FL (v':Value) (slot:Int) (l:List Vt):Prop:=
 v'=.tuple [.agg (FK (if Vf slot l=0 then Q9 slot l else Tw)).toArray,.bool (if Vf slot l=0 then decide (0<(Q9 slot l).b.r) else false),.int .i64 (Vf slot l)].toArray
def Vss (h:Hp) (v:Value) (LL:List (List Vt)):Prop:=∃p c,v=.slice p LL.length c∧(LL≠[]→∃b o,p=some ⟨b,o,none⟩∧b<h.size∧∀i (hi:i<LL.length),∃w,hc h ⟨b,o+i,none⟩=some w∧Ts Zo 8 h w LL[i]∧LL[i].length≤2199023255552)
theorem iJ (LL:List (List Vt)) (i:Nat) (hi:i<LL.length):(LL.take (i+1)).flatten=(LL.take i).flatten++LL[i]:=by
 rw[Yl LL i hi,List.flatten_append,List.flatten_singleton]
theorem aB (a b:List Vt):Ua (a++b)=(Ua a&&Ua b):=by simp[Ua]
theorem FM {l:List Vt} {v:Vt} (hv:v∈l) (hm:¬Ya v):Ua l=false:=by
 rw[Ua,List.all_eq_false];exact⟨v,hv,by simpa using hm⟩
set_option maxHeartbeats 1000000 in
theorem vI (T:World) (h:Hp) (u:Value) (LL:List (List Vt)) (slot:Int) (s:Vss h u LL) (hL:LL.length≤4611686018427387904) :
  Zc Tryz.prog T 122 #[u,.int .i64 slot] h fun v' h'=>FL v' slot LL.flatten∧Zf h.size h h':=by
 have dV:Vf slot LL.flatten=if slot<0∨39<slot then 2 else if Ua LL.flatten=true then 0 else 5:=rfl
 obtain⟨p,c,rfl,YS⟩:=s;refine Zc.XM (args:=[_,_]) Tryz.func122 rfl rfl rfl rfl ?_;unfold FL;by_cases q1:slot<0
 ·rw[if_pos (.inl q1)]at dV;simp -implicitDefEqProofs only[go_sem,↓reduceIte,q1,dV];rfl
 ·by_cases q2:39<slot
  ·rw[if_pos (.inr q2)]at dV;have q2':40≤slot:=by omega
   simp -implicitDefEqProofs only[go_sem,↓reduceIte,q1,q2',dV];rfl
  ·rw[if_neg (by omega)]at dV;have q2':¬40≤slot:=by omega
   simp -implicitDefEqProofs only[go_sem,↓reduceIte,q1,q2'];obtain⟨H,hH⟩:=Zx ((h.push (.cells #[.int .i64 0,.int .i64 0,.int .i64 0,.int .i64 0,.int .i64 0] 47)).push (.cells #[.int .i64 0,.int .i64 0,.int .i64 0,.int .i64 0,.int .i64 0,.int .i64 0,.int .i64 0,.int .i64 0] 109):Hp);have HB:Zf h.size h H:=by rw[hH];(repeat' (first|exact Zf.refl _ _|assumption|refine Zf.add ?_ _|refine Zf.Zm ?_ (by first|omega|(simp;omega)) _|refine Zf.trans (by assumption) ?_))
   have HZ:H[h.size]? = some (.cells (FK Tw).toArray 47):=by rw[hH,Zt (by simp),Zb];rfl
   have HV:H[h.size+1]? = some (.cells (Zo Tw).toArray 109):=by
    have:=Zb (h:=h.push (.cells #[.int .i64 0,.int .i64 0,.int .i64 0,.int .i64 0,.int .i64 0] 47)) (o:=.cells #[.int .i64 0,.int .i64 0,.int .i64 0,.int .i64 0,.int .i64 0,.int .i64 0,.int .i64 0,.int .i64 0] 109);rw[Array.size_push]at this;rw[hH,this];rfl
   rw[←hH];clear hH;have wz:∀g:Hp,g[h.size]? = some (.cells (FK Tw).toArray 47)→∀w:List Value,w.length=5→w.all Z7=true→wr g ⟨h.size,0,none⟩ w=some (g.setIfInBounds h.size (.cells w.toArray 47)):=by
    intro g hg w h5 h1;rw[ZU hg 0 w,ZJ (by rw[h5];rfl),if_pos ⟨by rw[h5];exact Nat.le_refl _,h1⟩]
   refine VS.ZW (fun F g=>F 1=.int .i64 slot∧F 4=.pointer (some ⟨h.size,0,none⟩)∧F 7=.pointer (some ⟨h.size+1,0,none⟩)∧F 19=.slice p LL.length c∧F 20=.int .i64 LL.length∧Zf h.size h g∧g[h.size]? = some (.cells (FK Tw).toArray 47)∧∃i:Nat,i≤LL.length∧F 21=.int .i64 i∧g[h.size+1]? = some (.cells (Zo (Q9 slot (LL.take i).flatten)).toArray 109)∧Ua (LL.take i).flatten=true)
    (fun F _=>LL.length-(vi (F 21)).toNat) rfl ⟨rfl,rfl,rfl,rfl,rfl,HB,HZ,0,by omega,rfl,HV,rfl⟩ ?_
   clear HB HZ HV H;rintro F g ⟨f1,f4,f7,f19,f20,hg,gZ,i,hi,f21,gV,Xk⟩;have zV:=Za gV;by_cases ZD:i<LL.length
   ·have ZL:(i:Int)<LL.length:=by omega
    obtain⟨bb,oo,rfl,Wi,YS⟩:=YS (by intro e;rw[e]at ZD;simp at ZD);obtain⟨w,hw,tw,hwl⟩:=YS i ZD;have hw':V.hc g ⟨bb,oo+i,none⟩=some w:=by rw[hg.hc (by exact Wi)];exact hw
    have zF:=iJ LL i ZD;have oZ:LL[i]∈LL:=List.getElem_mem ZD;obtain⟨L,zH⟩:=Zx (LL[i]);rw[←zH]at tw hwl zF oZ;obtain⟨pw,cw,rfl,hwc⟩:=Q7 tw;simp -implicitDefEqProofs only[go_sem,↓reduceIte,f1,f4,f7,f19,f20,f21,ZL,Int.toNat_natCast,hw'];refine VS.ZW (fun F g=>F 1=.int .i64 slot∧F 4=.pointer (some ⟨h.size,0,none⟩)∧F 7=.pointer (some ⟨h.size+1,0,none⟩)∧F 19=.slice (some ⟨bb,oo,none⟩) LL.length c∧F 20=.int .i64 LL.length∧F 21=.int .i64 i∧F 25=.slice pw L.length cw∧F 26=.int .i64 L.length∧Zf h.size h g∧g[h.size]? = some (.cells (FK Tw).toArray 47)∧∃j:Nat,j≤L.length∧F 27=.int .i64 j∧g[h.size+1]? = some (.cells (Zo (Q9 slot ((LL.take i).flatten++L.take j))).toArray 109)∧Ua ((LL.take i).flatten++L.take j)=true)
     (fun F _=>L.length-(vi (F 27)).toNat) rfl ⟨f1,f4,f7,f19,f20,f21,rfl,rfl,hg,gZ,0,by omega,rfl,by rw[List.take_zero,List.append_nil];exact gV,by rw[List.take_zero,List.append_nil];exact Xk⟩ ?_
    clear f1 f4 f7 f19 f20 f21 F hg gZ gV Xk zV hw';rintro F g ⟨f1,f4,f7,f19,f20,f21,f25,f26,hg,gZ,j,hj,f27,gV,Xk⟩;have zV:=Za gV;by_cases zI:j<L.length
    ·have Zn2:(j:Int)<L.length:=by omega
     obtain⟨b2,o2,rfl,Lr,_,hwc⟩:=hwc (by intro e;rw[e]at zI;simp at zI);have r1:rd g ⟨b2,o2+j*8,none⟩ 8=some (Zo L[j]):=by rw[JQ hg (by exact Lr)];exact hwc j zI
     have aC:(LL.take i).flatten++L.take (j+1)=((LL.take i).flatten++L.take j)++[L[j]]:=by rw[Yl L j zI,List.append_assoc]
     have zK:L[j]∈LL.flatten:=List.mem_flatten.2 ⟨L,oZ,List.getElem_mem zI⟩;obtain⟨v,hv⟩:=Zx (L[j]);rw[←hv]at r1 aC zK;have XH:Q9 slot ((LL.take i).flatten++L.take (j+1))=QD slot (Q9 slot ((LL.take i).flatten++L.take j)) v:=by
      rw[aC];unfold Q9;rw[List.foldl_append];rfl
     have Ln:Ua ((LL.take i).flatten++L.take (j+1))=decide (Ya v):=by rw[aC,aB,Xk,Bool.true_and];simp[Ua]
     obtain⟨B,hB⟩:=Zx (Q9 slot ((LL.take i).flatten++L.take j));rw[←hB]at gV XH;unfold Zo at r1;simp -implicitDefEqProofs only[go_sem,↓reduceIte,f1,f4,f7,f19,f20,f21,f25,f26,f27,Zn2,Int.toNat_natCast,r1];refine (Ly T _ v).use ?_;rintro _ g1 ⟨rfl,b1⟩;have kX:Zf g.size g g1:=(Zf.push (Nat.le_refl _) _).trans (b1.mono (by simp));have y0:g1[g.size]? = some (.cells (Zo v).toArray 109):=b1.get (by simp) Zb;have z1:=kX.size;have Ni:=hg.trans (kX.mono hg.size);have gZ1:=kX.get (Za gZ) gZ;have gV1:=kX.get zV gV;have z0:=Za y0;by_cases c1:Ya v
     ·rw[decide_eq_true c1]at Ln;have y1:V.hc g1 ⟨g.size,0,none⟩=some (.int .i64 v.slot):=by rw[Zh y0];rfl
      have y2:rd g1 ⟨g.size,1,none⟩ 2=some (Jr v.b):=by rw[Z9 y0 (by simp[Zo])];rfl
      have y3:rd g1 ⟨h.size+1,1,none⟩ 2=some (Jr B.b):=by rw[Z9 gV1 (by simp[Zo])];rfl
      by_cases c2:v.slot=slot
      ·simp -implicitDefEqProofs only[go_sem,↓reduceIte,f1,f4,f7,f19,f20,f21,f25,f26,f27,c1,y1,c2,y2,y3];refine (Wk T _ v.b B.b).use ?_;rintro _ g2 ⟨rfl,kW⟩;have z2:=kW.size;have QW:=Ni.trans (kW.mono Ni.size);have gZ2:=kW.get (Za gZ1) gZ1;have gV2:=kW.get (Za gV1) gV1;have y02:=kW.get z0 y0;by_cases c3:below B.b v.b
       ·have oN:=(VY v.b B.b).2 c3;have rV:=Zq y02 (n:=8) rfl;have wV:=ZU gV2 0 (Zo v);rw[ZJ (by simp[Zo]),if_pos ⟨by simp[Zo],rfl⟩]at wV;have vJ:QD slot B v=v:=by unfold QD;rw[if_pos ⟨c2,c3⟩]
        rw[vJ]at XH;unfold Zo at rV wV;simp -implicitDefEqProofs only[go_sem,↓reduceIte,f1,f4,f7,f19,f20,f21,f25,f26,f27,oN,rV,wV];refine⟨⟨f1,f4,f7,f19,f20,f21,f25,f26,QW.Zm (by omega) _,?_,j+1,zI,rfl,?_,Ln⟩,?_⟩
        ·rw[Array.getElem?_setIfInBounds,if_neg (by omega)];exact gZ2
        ·rw[XH];exact oY gV2
        ·simp only[vi,Zi,↓reduceIte,f27];omega
       ·have oN:¬0<Nz v.b B.b:=fun h=>c3 ((VY v.b B.b).1 h);have vJ:QD slot B v=B:=by unfold QD;rw[if_neg (fun h=>c3 h.2)]
        rw[vJ]at XH;simp -implicitDefEqProofs only[go_sem,↓reduceIte,f1,f4,f7,f19,f20,f21,f25,f26,f27,oN];refine⟨⟨f1,f4,f7,f19,f20,f21,f25,f26,QW,gZ2,j+1,zI,rfl,?_,Ln⟩,?_⟩
        ·rw[XH];exact gV2
        ·simp only[vi,Zi,↓reduceIte,f27];omega
      ·have vJ:QD slot B v=B:=by unfold QD;rw[if_neg (fun h=>c2 h.1)]
       rw[vJ]at XH;simp -implicitDefEqProofs only[go_sem,↓reduceIte,f1,f4,f7,f19,f20,f21,f25,f26,f27,c1,y1,c2];refine⟨⟨f1,f4,f7,f19,f20,f21,f25,f26,Ni,gZ1,j+1,zI,rfl,?_,Ln⟩,?_⟩
       ·rw[XH];exact gV1
       ·simp only[vi,Zi,↓reduceIte,f27];omega
     ·have hf:=FM zK c1;rw[hf,if_neg (by decide)]at dV;have wz1:=wz g1 gZ1 [.int .i64 0,.int .i64 0,.int .i64 0,.int .i64 0,.int .i64 0] rfl rfl;have zl:=Za gZ1;simp -implicitDefEqProofs only[go_sem,↓reduceIte,f1,f4,f7,c1,wz1,zl,dV];exact⟨rfl,Ni.Zm (Nat.le_refl _) _⟩
    ·have Zn4:¬(j:Int)<L.length:=by omega
     obtain rfl:j=L.length:=by omega
     rw[List.take_length,←zF]at gV Xk;simp -implicitDefEqProofs only[go_sem,↓reduceIte,f1,f4,f7,f19,f20,f21,f25,f26,f27,Zn4];refine⟨⟨f1,f4,f7,f19,f20,hg,gZ,i+1,ZD,rfl,gV,Xk⟩,?_⟩;simp only[vi,Zi,↓reduceIte,f21];omega
   ·have YJ:¬(i:Int)<LL.length:=by omega
    obtain rfl:i=LL.length:=by omega
    rw[List.take_length]at gV Xk;rw[Xk,if_pos rfl]at dV;rw[dV,if_pos rfl,if_pos rfl];obtain⟨B,hB⟩:=Zx (Q9 slot LL.flatten);rw[←hB]at gV ⊢;have r1:rd g ⟨h.size+1,3,none⟩ 5=some (FK B):=by rw[Z9 gV (by simp[Zo])];rfl
    have r2:V.hc g ⟨h.size+1,1,none⟩=some (.int .i64 B.b.r):=by rw[Zh gV];rfl
    have wB:=wz g gZ (FK B) rfl rfl;have zl:=Za gZ;unfold FK at r1 wB ⊢;simp -implicitDefEqProofs only[go_sem,↓reduceIte,f1,f4,f7,f19,f20,f21,YJ];refine VS.w (h.size) [] (.q 0 (.q 2 (.q 3 (.or 1 (.or 4 (.q 5 (.s 6 (.q 7 (.q 8 .nil)))) (.s 6 (.s 4 (.q 5 (.q 7 (.q 8 .nil)))))) (.s 4 (.q 5 (.s 1 (.s 6 (.q 7 (.q 8 .nil)))))))))) mixed (by kernel_rfl) ?_;simp -implicitDefEqProofs only[go_sem,↓reduceIte,f4,f7,r1,r2,wB,zl];have aD:=hg.Zm (Nat.le_refl _) (.cells #[.int .i64 B.k,.int .i64 B.c,.int .i64 B.s,.int .i64 B.nm,.int .i64 B.v] 47);exact⟨⟨aD,aD⟩,aD⟩
end Go.Proofs.YtboeoomhjbcecaaGreatDoor
