/- Ballots and votes: what the small functions compute; no condition but those in the statements. -/
import Derived.Test.YtnhbpmoeaodmnaaGreatDoorVst
import Derived.Test.YtnhbpmoeaodmnaaGreatDoorW13
import Derived.Test.YtnhbpmoeaodmnaaGreatDoorLchks
namespace Go.Proofs.YtnhbpmoeaodmnaaGreatDoor
open Go Go.V
set_option linter.unusedSimpArgs false
set_option linter.unusedVariables false
set_option maxRecDepth 100000
structure Bal where
 r:Int
 n:Int
structure Vt where
 slot:Int
 b:Bal
 k:Int
 c:Int
 s:Int
 nm:Int
 v:Int
def balC (b:Bal):List Value:=[.int .i64 b.r,.int .i64 b.n]
def voteC (v:Vt):List Value:=[.int .i64 v.slot,.int .i64 v.b.r,.int .i64 v.b.n,.int .i64 v.k,.int .i64 v.c,.int .i64 v.s,.int .i64 v.nm,.int .i64 v.v]
def ballotMay (b:Bal):Prop:=(1≤b.r∧b.r≤65536)∧(0≤b.n∧b.n≤4)
instance (b:Bal):Decidable (ballotMay b):=by unfold ballotMay; infer_instance
def voteMay (v:Vt):Prop:=(0≤v.slot∧v.slot≤39)∧ballotMay v.b∧cmdErr v.k v.c v.s v.nm v.v=0
instance (v:Vt):Decidable (voteMay v):=by unfold voteMay; infer_instance
def below (a b:Bal):Prop:=a.r<b.r∨(a.r=b.r∧a.n<b.n)
instance (a b:Bal):Decidable (below a b):=by unfold below; infer_instance
def icmp (a b:Int):Int:=if a<b then -1 else if b<a then 1 else 0
def bcmp (a b:Bal):Int:=if icmp a.r b.r=0 then icmp a.n b.n else icmp a.r b.r
theorem bcmp_pos (a b:Bal):0<bcmp a b↔below b a:=by
 unfold bcmp icmp below
 repeat' split
 all_goals omega
theorem bcmp_neg (a b:Bal):bcmp a b<0↔below a b:=by
 unfold bcmp icmp below
 repeat' split
 all_goals omega
theorem isNaN_ok (T:World) (h:Hp) (a:Int):CallsH Tryz.prog T 129 #[.int .i64 a] h fun v' h'=>v'=.bool false∧h'=h:=by
 refine CallsH.of_code' (args:=[_]) Tryz.func129 rfl rfl rfl rfl ?_
 simp -implicitDefEqProofs (maxSteps:=2000000) only [go_sem,↓reduceIte]
theorem cmpCompare_ok (T:World) (h:Hp) (a b:Int):CallsH Tryz.prog T 108 #[.int .i64 a,.int .i64 b] h fun v' h'=>v'=.int .i64 (icmp a b)∧h'=h:=by
 refine CallsH.of_code' (args:=[_,_]) Tryz.func108 rfl rfl rfl rfl ?_
 simp -implicitDefEqProofs (maxSteps:=2000000) only [go_sem,↓reduceIte]
 refine (isNaN_ok T _ _).pure ?_
 simp -implicitDefEqProofs (maxSteps:=2000000) only [go_sem,↓reduceIte]
 refine (isNaN_ok T _ _).pure ?_
 unfold icmp
 by_cases q1:a<b
 ·simp -implicitDefEqProofs (maxSteps:=2000000) only [go_sem,↓reduceIte,q1]
 ·by_cases q2:b<a
  ·simp -implicitDefEqProofs (maxSteps:=2000000) only [go_sem,↓reduceIte,q1,q2]
  ·simp -implicitDefEqProofs (maxSteps:=2000000) only [go_sem,↓reduceIte,q1,q2]
theorem cmpOr_ok (T:World) (h:Hp) (b:Nat) (x y:Int) (h0:hc h ⟨b,0,none⟩=some (.int .i64 x)) (h1:hc h ⟨b,1,none⟩=some (.int .i64 y)):CallsH Tryz.prog T 128 #[.slice (some ⟨b,0,none⟩) 2 2] h fun v' h'=>v'=.int .i64 (if x=0 then y else x)∧h'=h:=by
 refine CallsH.of_code' (args:=[_]) Tryz.func128 rfl rfl rfl rfl ?_
 simp -implicitDefEqProofs (maxSteps:=2000000) only [go_sem,↓reduceIte]
 refine VS.rounds 3 rfl ?_
 by_cases q1:x=0
 ·by_cases q2:y=0
  ·simp -implicitDefEqProofs (maxSteps:=2000000) only [go_sem,↓reduceIte,h0,h1,q1,q2,Int.reduceAdd]
  ·simp -implicitDefEqProofs (maxSteps:=2000000) only [go_sem,↓reduceIte,h0,h1,q1,q2,Int.reduceAdd]
 ·simp -implicitDefEqProofs (maxSteps:=2000000) only [go_sem,↓reduceIte,h0,h1,q1]
theorem ballot_ok (T:World) (h:Hp) (b:Bal):CallsH Tryz.prog T 102 #[.agg (balC b).toArray] h fun v' h'=>v'=.bool (decide (ballotMay b))∧h'=h.push (.cells (balC b).toArray 60):=by
 refine CallsH.of_code' (args:=[_]) Tryz.func102 rfl rfl rfl rfl ?_
 unfold balC
 by_cases q1:1≤b.r
 ·by_cases q2:b.r≤65536
  ·by_cases q3:0≤b.n
   ·by_cases q4:b.n<5
    ·have e:ballotMay b:=⟨⟨q1,q2⟩,q3,by omega⟩
     simp -implicitDefEqProofs (maxSteps:=2000000) only [go_sem,↓reduceIte,q1,q2,q3,q4,e]
    ·have e:¬ ballotMay b:=by unfold ballotMay; omega
     simp -implicitDefEqProofs (maxSteps:=2000000) only [go_sem,↓reduceIte,q1,q2,q3,q4,e]
   ·have e:¬ ballotMay b:=by unfold ballotMay; omega
    simp -implicitDefEqProofs (maxSteps:=2000000) only [go_sem,↓reduceIte,q1,q2,q3,e]
  ·have e:¬ ballotMay b:=by unfold ballotMay; omega
   simp -implicitDefEqProofs (maxSteps:=2000000) only [go_sem,↓reduceIte,q1,q2,e]
 ·have e:¬ ballotMay b:=by unfold ballotMay; omega
  simp -implicitDefEqProofs (maxSteps:=2000000) only [go_sem,↓reduceIte,q1,e]
theorem compare_ok (T:World) (h:Hp) (a b:Bal):CallsH Tryz.prog T 103 #[.agg (balC a).toArray,.agg (balC b).toArray] h fun v' h'=>v'=.int .i64 (bcmp a b)∧Bel h.size h h':=by
 refine CallsH.of_code' (args:=[_,_]) Tryz.func103 rfl rfl rfl rfl ?_
 unfold balC
 simp -implicitDefEqProofs (maxSteps:=2000000) only [go_sem,↓reduceIte]
 refine VS.w (h.size+2) [] (.q 0 (.q 1 (.q 2 (.q 3 (.q 5 (.q 6 (.q 7 (.q 8 (.s 4 (.s 9 (.s 10 (.s 11 (.q 12 .nil))))))))))))) mixed (by kernel_rfl) ?_
 simp -implicitDefEqProofs (maxSteps:=2000000) only [go_sem,↓reduceIte]
 refine (cmpCompare_ok T _ _ _).pure ?_
 simp -implicitDefEqProofs (maxSteps:=2000000) only [go_sem,↓reduceIte]
 refine (cmpCompare_ok T _ _ _).pure ?_
 simp -implicitDefEqProofs (maxSteps:=2000000) only [go_sem,↓reduceIte]
 refine ⟨(Bel.refl _ _).addP (by simp) _,?_⟩
 refine (cmpOr_ok T _ _ (icmp a.r b.r) (icmp a.n b.n) ?_ ?_).pure ?_
 ·simp -implicitDefEqProofs (maxSteps:=2000000) only [go_sem,↓reduceIte]
 ·simp -implicitDefEqProofs (maxSteps:=2000000) only [go_sem,↓reduceIte]
 unfold bcmp
 simp -implicitDefEqProofs (maxSteps:=2000000) only [go_sem,↓reduceIte]
 refine ⟨(Bel.refl _ _).addP (by simp) _,?_⟩
 (repeat' (first | exact Bel.refl _ _ | assumption | refine Bel.add ?_ _ | refine Bel.addSet ?_ (by first | omega | (simp; omega)) _ | refine Bel.trans (by assumption) ?_))
theorem vote_ok (T:World) (h:Hp) (v:Vt):CallsH Tryz.prog T 105 #[.agg (voteC v).toArray] h fun v' h'=>v'=.bool (decide (voteMay v))∧Bel h.size h h':=by
 refine CallsH.of_code' (args:=[_]) Tryz.func105 rfl rfl rfl rfl ?_
 unfold voteC
 by_cases q1:0≤v.slot
 ·by_cases q2:v.slot<40
  ·simp -implicitDefEqProofs (maxSteps:=2000000) only [go_sem,↓reduceIte,q1,q2]
   refine (ballot_ok T _ v.b).use ?_
   rintro _ _ ⟨rfl,rfl⟩
   unfold balC
   by_cases q3:ballotMay v.b
   ·simp -implicitDefEqProofs (maxSteps:=2000000) only [go_sem,↓reduceIte,q3]
    refine (orderCheck_ok T _ v.k v.c v.s v.nm v.v).use ?_
    rintro _ _ ⟨rfl,rfl⟩
    by_cases q4:cmdErr v.k v.c v.s v.nm v.v=0
    ·have e:voteMay v:=⟨⟨q1,by omega⟩,q3,q4⟩
     simp -implicitDefEqProofs (maxSteps:=2000000) only [go_sem,↓reduceIte,q4,e]
     (repeat' (first | exact Bel.refl _ _ | assumption | refine Bel.add ?_ _ | refine Bel.addSet ?_ (by first | omega | (simp; omega)) _ | refine Bel.trans (by assumption) ?_))
    ·have e:¬ voteMay v:=fun h=>q4 h.2.2
     simp -implicitDefEqProofs (maxSteps:=2000000) only [go_sem,↓reduceIte,q4,e]
     (repeat' (first | exact Bel.refl _ _ | assumption | refine Bel.add ?_ _ | refine Bel.addSet ?_ (by first | omega | (simp; omega)) _ | refine Bel.trans (by assumption) ?_))
   ·have e:¬ voteMay v:=fun h=>q3 h.2.1
    simp -implicitDefEqProofs (maxSteps:=2000000) only [go_sem,↓reduceIte,q3,e]
  ·have e:¬ voteMay v:=by unfold voteMay; omega
   simp -implicitDefEqProofs (maxSteps:=2000000) only [go_sem,↓reduceIte,q1,q2,e]
 ·have e:¬ voteMay v:=by unfold voteMay; omega
  simp -implicitDefEqProofs (maxSteps:=2000000) only [go_sem,↓reduceIte,q1,e]
theorem votes_open {h:Hp} {v:Value} {l:List Vt} (s:Ts voteC 8 h v l):∃ p cap,v=.slice p l.length cap∧(l≠[]→∃ b o,p=some ⟨b,o,none⟩∧b<h.size∧(∀ i (hi:i<l.length),hc h ⟨b,o+i*8,none⟩=some (.int .i64 l[i].slot))∧∀ i (hi:i<l.length),rd h ⟨b,o+i*8,none⟩ 8=some (voteC l[i])):=by
 obtain ⟨p,cap,hv,hc1⟩:=Ts.open (enc:=voteC) (n:=8) (fun _=>rfl) (by decide) s
 refine ⟨p,cap,hv,fun hne=>?_⟩
 obtain ⟨b,o,hp,hb,hcs⟩:=hc1 hne
 exact ⟨b,o,hp,hb,fun i hi=>(hcs i hi).hc (i:=0) rfl,fun i hi=>(hcs i hi).rd (by simp [voteC]) rfl⟩
def slotAt (l:List Vt) (j:Nat):Int:=((l[j]?).map (·.slot)).getD (-1)
def lastOf (l:List Vt) (i:Nat):Int:=if i=0 then -1 else slotAt l (i - 1)
def good (p:Bal) (l:List Vt) (i:Nat):Bool:=match l[i]? with
 | some v=>decide (voteMay v∧¬ below p v.b∧(i=0∨slotAt l (i - 1)<v.slot))
 | none=>true
def accErr (p:Bal) (l:List Vt):Int:=if ¬ ballotMay p∧¬ (p.r=0∧p.n=0) then 5 else if (List.range l.length).all (good p l)=true then 0 else 5
theorem slotAt_of {l:List Vt} {j:Nat} (hj:j<l.length):slotAt l j=l[j].slot:=by
 unfold slotAt; rw [List.getElem?_eq_getElem hj]; rfl
theorem good_iff {p:Bal} {l:List Vt} {i:Nat} (hi:i<l.length):good p l i=true↔voteMay l[i]∧¬ below p l[i].b∧(i=0∨slotAt l (i - 1)<l[i].slot):=by
 unfold good
 rw [List.getElem?_eq_getElem hi]
 simp only [decide_eq_true_eq]
theorem good_last {p:Bal} {l:List Vt} {i:Nat} (hi:i<l.length):good p l i=true↔voteMay l[i]∧¬ below p l[i].b∧lastOf l i<l[i].slot:=by
 rw [good_iff hi]
 unfold lastOf
 by_cases h0:i=0
 ·rw [if_pos h0]
  constructor
  ·rintro ⟨h1,h2,_⟩; exact ⟨h1,h2,by have:=h1.1.1; omega⟩
  ·rintro ⟨h1,h2,_⟩; exact ⟨h1,h2,.inl h0⟩
 ·rw [if_neg h0]
  constructor
  ·rintro ⟨h1,h2,h3⟩; exact ⟨h1,h2,h3.resolve_left h0⟩
  ·rintro ⟨h1,h2,h3⟩; exact ⟨h1,h2,.inr h3⟩
theorem accErr_good {p:Bal} {l:List Vt} (hp:¬ (¬ ballotMay p∧¬ (p.r=0∧p.n=0))) (hg:∀ j,j<l.length→good p l j=true):accErr p l=0:=by
 unfold accErr
 rw [if_neg hp,if_pos (List.all_eq_true.2 fun i hi=>hg i (List.mem_range.1 hi))]
theorem accErr_bad {p:Bal} {l:List Vt} {i:Nat} (hi:i<l.length) (hb:good p l i=false):accErr p l=5:=by
 unfold accErr
 split
 ·rfl
 ·rw [if_neg]
  intro h
  have:=List.all_eq_true.1 h i (List.mem_range.2 hi)
  rw [hb] at this; cases this
def accC (p:Bal) (v:Value):List Value:=[.int .i64 p.r,.int .i64 p.n,v]
theorem paxosCheck_ok (T:World) (h:Hp) (p:Bal) (u:Value) (l:List Vt) (s:Ts voteC 8 h u l) (hlen:l.length≤4611686018427387904) :
  CallsH Tryz.prog T 101 #[.agg (accC p u).toArray] h fun v' h'=>v'=.int .i64 (accErr p l)∧Bel h.size h h':=by
 obtain ⟨pv,cv,rfl,hcs⟩:=votes_open s
 refine CallsH.of_code' (args:=[_]) Tryz.func101 rfl rfl rfl rfl ?_
 unfold accC
 by_cases z:p.r=0∧p.n=0
 ·obtain ⟨z1,z2⟩:=z
  have hnot:¬ (¬ ballotMay p∧¬ (p.r=0∧p.n=0)):=fun h=>h.2 ⟨z1,z2⟩
  simp -implicitDefEqProofs (maxSteps:=2000000) only [go_sem,↓reduceIte,z1,z2]
  obtain ⟨H,hH⟩:∃ H:Hp,H=h.push (.cells [.int .i64 0,.int .i64 0,.slice pv l.length cv].toArray 63):=⟨_,rfl⟩
  have x0:H[h.size]? = some (.cells (accC p (.slice pv l.length cv)).toArray 63):=by rw [hH]; unfold accC; rw [z1,z2]; exact get_push_last
  have hHb:Bel h.size h H:=by rw [hH]; (repeat' (first | exact Bel.refl _ _ | assumption | refine Bel.add ?_ _ | refine Bel.addSet ?_ (by first | omega | (simp; omega)) _ | refine Bel.trans (by assumption) ?_))
  rw [← hH]
  clear hH
  have hz:=lt_of_get x0
  refine VS.loop' (fun F g=>Bel H.size H g∧F 1=.pointer (some ⟨h.size,0,none⟩)∧F 17=.slice pv l.length cv∧F 18=.int .i64 l.length∧∃ i:Nat,i≤l.length∧F 19=.int .i64 i∧F 3=.int .i64 (lastOf l i)∧∀ j,j<i→good p l j=true)
   (fun F _=>l.length - (vi (F 19)).toNat) rfl ⟨Bel.refl _ _,rfl,rfl,rfl,0,by omega,rfl,rfl,fun j hj=>by omega⟩ ?_
  rintro F g ⟨hg,f1,f17,f18,i,hi,f19,f3,hall⟩
  have hgs:=hg.size
  have hBg:Bel h.size h g:=hHb.trans (hg.mono (by omega))
  by_cases hlt:i<l.length
  ·have hlt':(i:Int)<l.length:=by omega
   obtain ⟨bb,oo,rfl,hbb,hcs0,hcs⟩:=hcs (by intro e; rw [e] at hlt; simp at hlt)
   have hbb1:bb<H.size:=by have:=hHb.size; omega
   have r1:rd g ⟨bb,oo+i*8,none⟩ 8=some (voteC l[i]):=by
    rw [rd_bel hBg (by exact hbb)]; exact hcs i hlt
   have rp:rd g ⟨h.size,0,none⟩ 2=some [.int .i64 p.r,.int .i64 p.n]:=by rw [rd_bel hg (by exact hz),rd_part x0 (by simp [accC])]; rfl
   have hsl:=slotAt_of hlt
   have gl:=good_last (p:=p) hlt
   obtain ⟨v,hv⟩:∃ v,v=l[i]:=⟨_,rfl⟩
   rw [← hv] at r1 gl hsl
   unfold voteC at r1
   have hnext:lastOf l (i+1)=v.slot:=by unfold lastOf; rw [if_neg (by omega),Nat.add_sub_cancel]; exact hsl
   simp -implicitDefEqProofs (maxSteps:=2000000) only [go_sem,↓reduceIte,f1,f17,f18,f19,hlt',r1]
   refine (vote_ok T _ v).use ?_
   rintro _ g1 ⟨rfl,b1⟩
   have b1s:=b1.size
   simp only [Array.size_push] at b1s
   have y0:g1[g.size]? = some (.cells [.int .i64 v.slot,.int .i64 v.b.r,.int .i64 v.b.n,.int .i64 v.k,.int .i64 v.c,.int .i64 v.s,.int .i64 v.nm,.int .i64 v.v].toArray 96):=b1.get (by simp) get_push_last
   have y1:hc g1 ⟨g.size,0,none⟩=some (.int .i64 v.slot):=by rw [hc_last y0]; rfl
   have y2:rd g1 ⟨g.size,1,none⟩ 2=some [.int .i64 v.b.r,.int .i64 v.b.n]:=by rw [rd_part y0 (by simp)]; rfl
   have hgp:Bel g.size g g1:=(Bel.push (Nat.le_refl _) _).trans (b1.mono (by simp))
   have y3:rd g1 ⟨h.size,0,none⟩ 2=some [.int .i64 p.r,.int .i64 p.n]:=by rw [rd_bel hgp (by show h.size<g.size; omega)]; exact rp
   have hB1:Bel h.size h g1:=hBg.trans (hgp.mono (by omega))
   have hg1:Bel H.size H g1:=hg.trans (hgp.mono (by omega))
   by_cases c1:voteMay v
   ·by_cases c2:v.slot≤lastOf l i
    ·have e:=accErr_bad (p:=p) hlt (by cases hv':good p l i with | false=>rfl | true=>exact absurd (gl.1 hv').2.2 (by omega))
     simp -implicitDefEqProofs (maxSteps:=2000000) only [go_sem,↓reduceIte,f1,f3,c1,c2,y1,e,hB1]
    ·simp -implicitDefEqProofs (maxSteps:=2000000) only [go_sem,↓reduceIte,f1,f3,c1,c2,y1,y2,y3]
     refine (compare_ok T _ v.b p).use ?_
     rintro _ g2 ⟨rfl,b2⟩
     have y4:hc g2 ⟨g.size,0,none⟩=some (.int .i64 v.slot):=by rw [b2.hc (by show g.size<g1.size; omega)]; exact y1
     have hB2:Bel h.size h g2:=hB1.trans (b2.mono (by have:=hB1.size; omega))
     have hg2:Bel H.size H g2:=hg1.trans (b2.mono (by have:=hg1.size; omega))
     by_cases c3:below p v.b
     ·have e:=accErr_bad (p:=p) hlt (by cases hv':good p l i with | false=>rfl | true=>exact absurd c3 (gl.1 hv').2.1)
      have c3':=(bcmp_pos v.b p).2 c3
      simp -implicitDefEqProofs (maxSteps:=2000000) only [go_sem,↓reduceIte,c3',e,hB2]
     ·have c3':¬ 0<bcmp v.b p:=fun h=>c3 ((bcmp_pos v.b p).1 h)
      simp -implicitDefEqProofs (maxSteps:=2000000) only [go_sem,↓reduceIte,c3',f1,f17,f18,f19,y4]
      refine ⟨⟨hg2,f1,f17,f18,i+1,hlt,rfl,by rw [hnext]; rfl,fun j hj=>?_⟩,?_⟩
      ·by_cases hji:j=i
       ·subst hji; exact gl.2 ⟨c1,c3,by omega⟩
       ·exact hall j (by omega)
      ·simp only [vi,updo_some,↓reduceIte,f19]; omega
   ·have e:=accErr_bad (p:=p) hlt (by cases hv':good p l i with | false=>rfl | true=>exact absurd (gl.1 hv').1 c1)
    simp -implicitDefEqProofs (maxSteps:=2000000) only [go_sem,↓reduceIte,c1,e,hB1]
  ·have hge:¬ (i:Int)<l.length:=by omega
   obtain rfl:i=l.length:=by omega
   have e:=accErr_good hnot hall
   simp -implicitDefEqProofs (maxSteps:=2000000) only [go_sem,↓reduceIte,f17,f18,f19,hge,e,hBg]
 ·have z':¬ p.r=0∨¬ p.n=0:=by omega
  by_cases q:ballotMay p
  ·have hnot:¬ (¬ ballotMay p∧¬ (p.r=0∧p.n=0)):=fun h=>h.1 q
   have zz:(p.r=0∧p.n=0)=False:=eq_false z
   by_cases z1:p.r=0
   ·have z2:¬ p.n=0:=fun e=>z ⟨z1,e⟩
    exact absurd q.1.1 (by omega)
   ·simp -implicitDefEqProofs (maxSteps:=2000000) only [go_sem,↓reduceIte,z1]
    refine (ballot_ok T _ p).use ?_
    rintro _ _ ⟨rfl,rfl⟩
    simp -implicitDefEqProofs (maxSteps:=2000000) only [go_sem,↓reduceIte,q]
    obtain ⟨H,hH⟩:∃ H:Hp,H=(h.push (.cells [.int .i64 p.r,.int .i64 p.n,.slice pv l.length cv].toArray 63)).push (.cells (balC p).toArray 60):=⟨_,rfl⟩
    have x0:H[h.size]? = some (.cells (accC p (.slice pv l.length cv)).toArray 63):=by rw [hH]; simp only [Array.getElem?_push,Array.size_push,IntWalk.iteOmega,↓reduceIte]; rfl
    have hHb:Bel h.size h H:=by rw [hH]; (repeat' (first | exact Bel.refl _ _ | assumption | refine Bel.add ?_ _ | refine Bel.addSet ?_ (by first | omega | (simp; omega)) _ | refine Bel.trans (by assumption) ?_))
    rw [← hH]
    clear hH
    have hz:=lt_of_get x0
    refine VS.loop' (fun F g=>Bel H.size H g∧F 1=.pointer (some ⟨h.size,0,none⟩)∧F 17=.slice pv l.length cv∧F 18=.int .i64 l.length∧∃ i:Nat,i≤l.length∧F 19=.int .i64 i∧F 3=.int .i64 (lastOf l i)∧∀ j,j<i→good p l j=true)
     (fun F _=>l.length - (vi (F 19)).toNat) rfl ⟨Bel.refl _ _,rfl,rfl,rfl,0,by omega,rfl,rfl,fun j hj=>by omega⟩ ?_
    rintro F g ⟨hg,f1,f17,f18,i,hi,f19,f3,hall⟩
    have hgs:=hg.size
    have hBg:Bel h.size h g:=hHb.trans (hg.mono (by omega))
    by_cases hlt:i<l.length
    ·have hlt':(i:Int)<l.length:=by omega
     obtain ⟨bb,oo,rfl,hbb,hcs0,hcs⟩:=hcs (by intro e; rw [e] at hlt; simp at hlt)
     have hbb1:bb<H.size:=by have:=hHb.size; omega
     have r1:rd g ⟨bb,oo+i*8,none⟩ 8=some (voteC l[i]):=by
      rw [rd_bel hBg (by exact hbb)]; exact hcs i hlt
     have rp:rd g ⟨h.size,0,none⟩ 2=some [.int .i64 p.r,.int .i64 p.n]:=by rw [rd_bel hg (by exact hz),rd_part x0 (by simp [accC])]; rfl
     have hsl:=slotAt_of hlt
     have gl:=good_last (p:=p) hlt
     obtain ⟨v,hv⟩:∃ v,v=l[i]:=⟨_,rfl⟩
     rw [← hv] at r1 gl hsl
     unfold voteC at r1
     have hnext:lastOf l (i+1)=v.slot:=by unfold lastOf; rw [if_neg (by omega),Nat.add_sub_cancel]; exact hsl
     simp -implicitDefEqProofs (maxSteps:=2000000) only [go_sem,↓reduceIte,f1,f17,f18,f19,hlt',r1]
     refine (vote_ok T _ v).use ?_
     rintro _ g1 ⟨rfl,b1⟩
     have b1s:=b1.size
     simp only [Array.size_push] at b1s
     have y0:g1[g.size]? = some (.cells [.int .i64 v.slot,.int .i64 v.b.r,.int .i64 v.b.n,.int .i64 v.k,.int .i64 v.c,.int .i64 v.s,.int .i64 v.nm,.int .i64 v.v].toArray 96):=b1.get (by simp) get_push_last
     have y1:hc g1 ⟨g.size,0,none⟩=some (.int .i64 v.slot):=by rw [hc_last y0]; rfl
     have y2:rd g1 ⟨g.size,1,none⟩ 2=some [.int .i64 v.b.r,.int .i64 v.b.n]:=by rw [rd_part y0 (by simp)]; rfl
     have hgp:Bel g.size g g1:=(Bel.push (Nat.le_refl _) _).trans (b1.mono (by simp))
     have y3:rd g1 ⟨h.size,0,none⟩ 2=some [.int .i64 p.r,.int .i64 p.n]:=by rw [rd_bel hgp (by show h.size<g.size; omega)]; exact rp
     have hB1:Bel h.size h g1:=hBg.trans (hgp.mono (by omega))
     have hg1:Bel H.size H g1:=hg.trans (hgp.mono (by omega))
     by_cases c1:voteMay v
     ·by_cases c2:v.slot≤lastOf l i
      ·have e:=accErr_bad (p:=p) hlt (by cases hv':good p l i with | false=>rfl | true=>exact absurd (gl.1 hv').2.2 (by omega))
       simp -implicitDefEqProofs (maxSteps:=2000000) only [go_sem,↓reduceIte,f1,f3,c1,c2,y1,e,hB1]
      ·simp -implicitDefEqProofs (maxSteps:=2000000) only [go_sem,↓reduceIte,f1,f3,c1,c2,y1,y2,y3]
       refine (compare_ok T _ v.b p).use ?_
       rintro _ g2 ⟨rfl,b2⟩
       have y4:hc g2 ⟨g.size,0,none⟩=some (.int .i64 v.slot):=by rw [b2.hc (by show g.size<g1.size; omega)]; exact y1
       have hB2:Bel h.size h g2:=hB1.trans (b2.mono (by have:=hB1.size; omega))
       have hg2:Bel H.size H g2:=hg1.trans (b2.mono (by have:=hg1.size; omega))
       by_cases c3:below p v.b
       ·have e:=accErr_bad (p:=p) hlt (by cases hv':good p l i with | false=>rfl | true=>exact absurd c3 (gl.1 hv').2.1)
        have c3':=(bcmp_pos v.b p).2 c3
        simp -implicitDefEqProofs (maxSteps:=2000000) only [go_sem,↓reduceIte,c3',e,hB2]
       ·have c3':¬ 0<bcmp v.b p:=fun h=>c3 ((bcmp_pos v.b p).1 h)
        simp -implicitDefEqProofs (maxSteps:=2000000) only [go_sem,↓reduceIte,c3',f1,f17,f18,f19,y4]
        refine ⟨⟨hg2,f1,f17,f18,i+1,hlt,rfl,by rw [hnext]; rfl,fun j hj=>?_⟩,?_⟩
        ·by_cases hji:j=i
         ·subst hji; exact gl.2 ⟨c1,c3,by omega⟩
         ·exact hall j (by omega)
        ·simp only [vi,updo_some,↓reduceIte,f19]; omega
     ·have e:=accErr_bad (p:=p) hlt (by cases hv':good p l i with | false=>rfl | true=>exact absurd (gl.1 hv').1 c1)
      simp -implicitDefEqProofs (maxSteps:=2000000) only [go_sem,↓reduceIte,c1,e,hB1]
    ·have hge:¬ (i:Int)<l.length:=by omega
     obtain rfl:i=l.length:=by omega
     have e:=accErr_good hnot hall
     simp -implicitDefEqProofs (maxSteps:=2000000) only [go_sem,↓reduceIte,f17,f18,f19,hge,e,hBg]
  ·have e:accErr p l=5:=by unfold accErr; rw [if_pos ⟨q,z⟩]
   by_cases z1:p.r=0
   ·have z2:¬ p.n=0:=fun e=>z ⟨z1,e⟩
    have hb:=ballot_ok T (h.push (.cells [.int .i64 0,.int .i64 p.n,.slice pv l.length cv].toArray 63)) p
    simp -implicitDefEqProofs (maxSteps:=2000000) only [go_sem,↓reduceIte,z1,z2]
    unfold balC at hb
    rw [z1] at hb
    refine hb.use ?_
    rintro _ _ ⟨rfl,rfl⟩
    simp -implicitDefEqProofs (maxSteps:=2000000) only [go_sem,↓reduceIte,q,e]
   ·simp -implicitDefEqProofs (maxSteps:=2000000) only [go_sem,↓reduceIte,z1]
    refine (ballot_ok T _ p).use ?_
    rintro _ _ ⟨rfl,rfl⟩
    simp -implicitDefEqProofs (maxSteps:=2000000) only [go_sem,↓reduceIte,q,e]
theorem cloneVotes_ok (T:World) (h:Hp) (u:Value) (l:List Vt) (s:Ts voteC 8 h u l) (hl:l.length≤2199023255552) :
  CallsH Tryz.prog T 104 #[u] h fun v' h'=>Ots h.size 96 voteC 8 h' v' l∧Bel h.size h h':=by
 obtain ⟨p,c,rfl,hc1⟩:=votes_open s
 refine CallsH.of_code' (args:=[_]) Tryz.func104 rfl rfl rfl rfl ?_
 cases p with
 | none=>
  have:l=[]:=by
   cases l with
   | nil=>rfl
   | cons x l=>obtain ⟨b,o,hp,_⟩:=hc1 (by simp); cases hp
  subst this
  simp -implicitDefEqProofs (maxSteps:=2000000) only [go_sem,↓reduceIte]
  exact Ots.nil _ _ _ _ _
 | some a=>
  simp -implicitDefEqProofs (maxSteps:=2000000) only [go_sem,↓reduceIte]
  refine append_ts (E:=96) (B:=h.size) (n:=8) (bytes:=64) tsl61 Tryz.underlying61 tn96 tz96 rfl tb96 (fun _=>rfl) (Ots.nil' _ _ voteC 8 _ _) (by simp) (s.bel (Bel.push (Nat.le_refl _) _)) (by simp; omega) (by omega) ?_
  intro v' h' ho hb _
  simp -implicitDefEqProofs (maxSteps:=2000000) only [go_sem,↓reduceIte]
  exact ⟨by simpa using ho,(Bel.push (Nat.le_refl _) _).trans hb⟩
def prErr (p:Bal) (l:List Vt) (b:Bal):Int:=if accErr p l≠0 then 5 else if ¬ ballotMay b then 2 else if below b p then 7 else 0
theorem accErr_five (p:Bal) (l:List Vt):accErr p l=0∨accErr p l=5:=by
 unfold accErr
 repeat' split
 all_goals simp
def PrRes (B:Nat) (h':Hp) (v':Value) (p:Bal) (l:List Vt) (b:Bal):Prop:=∃ w1 w2,v'=.tuple [.agg (accC (if prErr p l b=0 then b else ⟨0,0⟩) w1).toArray,w2,.int .i64 (prErr p l b)].toArray ∧
 Ots B 96 voteC 8 h' w1 (if prErr p l b=0 then l else [])∧Ots B 96 voteC 8 h' w2 (if prErr p l b=0 then l else [])
theorem promise_ok (T:World) (h:Hp) (p:Bal) (u:Value) (l:List Vt) (b:Bal) (s:Ts voteC 8 h u l) (hl:l.length≤2199023255552) :
  CallsH Tryz.prog T 72 #[.agg (accC p u).toArray,.agg (balC b).toArray] h fun v' h'=>PrRes h.size h' v' p l b∧Bel h.size h h':=by
 obtain ⟨pu,cu,rfl,hc1⟩:=votes_open s
 refine CallsH.of_code2 (args:=[_,_]) Tryz.func72 rfl rfl rfl rfl ?_
 unfold accC balC
 simp -implicitDefEqProofs (maxSteps:=2000000) only [go_sem,↓reduceIte]
 have hpush:Bel h.size h ((((h.push (.cells [.int .i64 p.r,.int .i64 p.n,.slice pu l.length cu].toArray 63)).push (.cells [.int .i64 b.r,.int .i64 b.n].toArray 60)).push (.cells [.int .i64 0,.int .i64 0,.slice none 0 0].toArray 63))):=by (repeat' (first | exact Bel.refl _ _ | assumption | refine Bel.add ?_ _ | refine Bel.addSet ?_ (by first | omega | (simp; omega)) _ | refine Bel.trans (by assumption) ?_))
 refine (paxosCheck_ok T _ p _ l (s.bel hpush) (by omega)).use ?_
 rintro _ g1 ⟨rfl,b1⟩
 have x0:g1[h.size]? = some (.cells (accC p (.slice pu l.length cu)).toArray 63):=b1.get (by simp only [Array.size_push]; omega) (by simp only [Array.getElem?_push,Array.size_push,IntWalk.iteOmega,↓reduceIte,accC])
 have x1:g1[h.size+1]? = some (.cells [.int .i64 b.r,.int .i64 b.n].toArray 60):=b1.get (by simp only [Array.size_push]; omega) (by simp only [Array.getElem?_push,Array.size_push,IntWalk.iteOmega,↓reduceIte])
 have x2:g1[h.size+2]? = some (.cells [.int .i64 0,.int .i64 0,.slice none 0 0].toArray 63):=b1.get (by simp only [Array.size_push]; omega) (by simp only [Array.getElem?_push,Array.size_push,IntWalk.iteOmega,↓reduceIte])
 have hB1:Bel h.size h g1:=hpush.trans (b1.mono (by simp; omega))
 have z1:=lt_of_get x2
 clear b1 hpush
 have fin:∀ (G:Hp) (w:List Value),w.length=3→w.all oneC=true→G[h.size+2]? = some (.cells [.int .i64 0,.int .i64 0,.slice none 0 0].toArray 63)→wr G ⟨h.size+1+1,0,none⟩ w=some (G.setIfInBounds (h.size+1+1) (.cells w.toArray 63)):=by
  intro G w h3 h1 hx
  rw [wr_get (b:=h.size+1+1) hx 0 w,lput_full (by rw [h3]; rfl),if_pos ⟨by rw [h3]; simp,h1⟩]
 unfold PrRes
 rcases accErr_five p l with e0 | e0
 ·have r1:=rd_last x1 (n:=2) rfl
  simp -implicitDefEqProofs (maxSteps:=2000000) only [go_sem,↓reduceIte,e0,r1]
  refine (ballot_ok T _ b).use ?_
  rintro _ _ ⟨rfl,rfl⟩
  by_cases q1:ballotMay b
  ·have rp:rd g1 ⟨h.size,0,none⟩ 2=some [.int .i64 p.r,.int .i64 p.n]:=by rw [rd_part x0 (by simp [accC])]; rfl
   have z2:h.size<g1.size:=by omega
   have z3:h.size+1<g1.size:=by omega
   unfold balC
   simp -implicitDefEqProofs (maxSteps:=2000000) only [go_sem,↓reduceIte,q1,r1,rp,z2,z3]
   refine (compare_ok T _ b p).use ?_
   rintro _ g2 ⟨rfl,b2⟩
   have hg12:Bel g1.size g1 g2:=(Bel.push (Nat.le_refl _) _).trans (b2.mono (by simp))
   have x0':=hg12.get z2 x0
   have x1':=hg12.get z3 x1
   have x2':=hg12.get z1 x2
   have hB2:=hB1.trans (hg12.mono hB1.size)
   have z5:=lt_of_get x2'
   by_cases q2:below b p
   ·have e:prErr p l b=7:=by unfold prErr; rw [if_neg (by rw [e0]; decide),if_neg (fun h=>h q1),if_pos q2]
    have w2:=fin g2 [.int .i64 0,.int .i64 0,.slice none 0 0] rfl rfl x2'
    have c2':bcmp b p<0:=(bcmp_neg b p).2 q2
    simp -implicitDefEqProofs (maxSteps:=2000000) only [go_sem,↓reduceIte,c2',e,w2,z5]
    refine ⟨⟨_,_,rfl,Ots.nil _ _ _ _ _,Ots.nil _ _ _ _ _⟩,?_⟩
    exact hB2.addSet (by omega) _
   ·have e:prErr p l b=0:=by unfold prErr; rw [if_neg (by rw [e0]; decide),if_neg (fun h=>h q1),if_neg q2]
    have r1':=rd_last x1' (n:=2) rfl
    have rv:hc g2 ⟨h.size,2,none⟩=some (.slice pu l.length cu):=by rw [hc_last x0']; rfl
    have c2':¬ bcmp b p<0:=fun h=>q2 ((bcmp_neg b p).1 h)
    simp -implicitDefEqProofs (maxSteps:=2000000) only [go_sem,↓reduceIte,c2']
    refine VS.w (h.size+2) [] (.q 0 (.q 1 (.q 2 (.q 5 (.q 6 (.s 3 (.q 4 (.s 7 (.s 8 (.q 9 (.q 10 .nil))))))))))) mixed (by kernel_rfl) ?_
    have z6:h.size<h.size+2:=by omega
    have z7:h.size+1<h.size+2:=by omega
    simp -implicitDefEqProofs (maxSteps:=2000000) only [go_sem,↓reduceIte,r1',rv,z6,z7]
    refine (cloneVotes_ok T _ _ l (s.bel hB2) hl).use ?_
    rintro w1 g3 ⟨o1,b3⟩
    obtain ⟨p1,c1,rfl,_⟩:=o1.open
    have b3':Bel (h.size+2) g2 g3:=b3.mono (by omega)
    simp -implicitDefEqProofs (maxSteps:=2000000) only [go_sem,↓reduceIte]
    refine ⟨b3',?_⟩
    refine (cloneVotes_ok T _ _ l ((s.bel hB2).bel b3) hl).use ?_
    rintro w2 g4 ⟨o2,b4⟩
    have b3s:=b3.size
    have b4s:=b4.size
    have b4':Bel (h.size+2) g2 g4:=b3'.trans (b4.mono (by omega))
    have x2'':g4[h.size+2]? = some (.cells [.int .i64 0,.int .i64 0,.slice none 0 0].toArray 63):=b4.get (by omega) (b3.get z5 x2')
    have z8:=lt_of_get x2''
    have wf:=fin g4 [.int .i64 b.r,.int .i64 b.n,.slice p1 l.length c1] rfl rfl x2''
    have hB4:=hB2.trans ((b3.trans (b4.mono b3s)).mono hB2.size)
    simp -implicitDefEqProofs (maxSteps:=2000000) only [go_sem,↓reduceIte,e,wf,z8]
    refine ⟨b4',b4'.addSet (by omega) _,⟨_,_,rfl,?_,?_⟩,?_⟩
    ·exact (((o1.bel b4 (Nat.le_refl _)).mono (B':=h.size+1+1+1) (by omega)).setLow (by omega) _).mono (by omega)
    ·exact ((o2.mono (B':=h.size+1+1+1) (by omega)).setLow (by omega) _).mono (by omega)
    ·exact hB4.addSet (by omega) _
  ·have e:prErr p l b=2:=by unfold prErr; rw [if_neg (by rw [e0]; decide),if_pos q1]
   have w2:=fin g1 [.int .i64 0,.int .i64 0,.slice none 0 0] rfl rfl x2
   simp -implicitDefEqProofs (maxSteps:=2000000) only [go_sem,↓reduceIte,q1,e,w2,z1]
   exact ⟨⟨_,_,rfl,Ots.nil _ _ _ _ _,Ots.nil _ _ _ _ _⟩,(hB1.addSet (by omega) _).addP (by simp; omega) _⟩
 ·have e:prErr p l b=5:=by unfold prErr; rw [if_pos (by rw [e0]; decide)]
  have w2:=fin g1 [.int .i64 0,.int .i64 0,.slice none 0 0] rfl rfl x2
  simp -implicitDefEqProofs (maxSteps:=2000000) only [go_sem,↓reduceIte,e0,e,w2,z1]
  exact ⟨⟨_,_,rfl,Ots.nil _ _ _ _ _,Ots.nil _ _ _ _ _⟩,hB1.addSet (by omega) _⟩
def Srt (l:List Vt):Prop:=∀ i j (hi:i<l.length) (hj:j<l.length),i<j→l[i].slot<l[j].slot
theorem accErr_parts {p:Bal} {l:List Vt} (h:accErr p l=0):∀ j,j<l.length→good p l j=true:=by
 intro j hj
 unfold accErr at h
 split at h
 ·cases h
 ·split at h
  ·rename_i hall
   exact List.all_eq_true.1 hall j (List.mem_range.2 hj)
  ·cases h
theorem accErr_srt {p:Bal} {l:List Vt} (h:accErr p l=0):Srt l:=by
 have hg:=accErr_parts h
 intro i j
 induction j with
 | zero=>intro _ _ h; omega
 | succ j ih=>
  intro hi hj hij
  have h1:=(good_iff hj).1 (hg _ hj)
  have h2:slotAt l j<l[j+1].slot:=by
   rcases h1.2.2 with h | h
   ·omega
   ·simpa using h
  rw [slotAt_of (by omega)] at h2
  by_cases e:i=j
  ·subst e; exact h2
  ·exact Int.lt_trans (ih hi (by omega) (by omega)) h2
theorem accErr_may {p:Bal} {l:List Vt} (h:accErr p l=0):∀ x∈l,voteMay x:=by
 intro x hx
 obtain ⟨j,hj,rfl⟩:=List.mem_iff_getElem.1 hx
 exact ((good_iff hj).1 (accErr_parts h j hj)).1
def insV (l:List Vt) (v:Vt):List Vt:=l.filter (fun x=>decide (x.slot<v.slot))++v :: l.filter (fun x=>decide (v.slot<x.slot))
theorem filter_take {α:Type} (q:α→Bool) (l:List α) (i:Nat) (h1:∀ j (hj:j<l.length),j<i→q l[j]=true) (h2:∀ j (hj:j<l.length),i≤j→q l[j]=false):l.filter q=l.take i:=by
 conv=>lhs; rw [← List.take_append_drop i l]
 rw [List.filter_append,List.filter_eq_self.2,List.filter_eq_nil_iff.2,List.append_nil]
 ·intro x hx
  obtain ⟨j,hj,rfl⟩:=List.mem_iff_getElem.1 hx
  rw [List.getElem_drop]
  rw [h2 _ (by rw [List.length_drop] at hj; omega) (by omega)]
  decide
 ·intro x hx
  obtain ⟨j,hj,rfl⟩:=List.mem_iff_getElem.1 hx
  rw [List.length_take] at hj
  rw [List.getElem_take]
  exact h1 _ (by omega) (by omega)
theorem filter_drop {α:Type} (q:α→Bool) (l:List α) (i:Nat) (h1:∀ j (hj:j<l.length),j<i→q l[j]=false) (h2:∀ j (hj:j<l.length),i≤j→q l[j]=true):l.filter q=l.drop i:=by
 conv=>lhs; rw [← List.take_append_drop i l]
 rw [List.filter_append,List.filter_eq_nil_iff.2,List.filter_eq_self.2,List.nil_append]
 ·intro x hx
  obtain ⟨j,hj,rfl⟩:=List.mem_iff_getElem.1 hx
  rw [List.getElem_drop]
  exact h2 _ (by rw [List.length_drop] at hj; omega) (by omega)
 ·intro x hx
  obtain ⟨j,hj,rfl⟩:=List.mem_iff_getElem.1 hx
  rw [List.length_take] at hj
  rw [List.getElem_take,h1 _ (by omega) (by omega)]
  decide
theorem insV_old {l:List Vt} (hs:Srt l) {v:Vt} {i:Nat} (hi:i<l.length) (he:l[i].slot=v.slot):insV l v=l.set i v:=by
 have a1:l.filter (fun x=>decide (x.slot<v.slot))=l.take i:=filter_take _ _ _
  (fun j hj hji=>decide_eq_true (by have:=hs j i hj hi hji; omega))
  (fun j hj hij=>decide_eq_false (by
    by_cases e:i=j
    ·subst e; omega
    ·have:=hs i j hi hj (by omega); omega))
 have a2:l.filter (fun x=>decide (v.slot<x.slot))=l.drop (i+1):=filter_drop _ _ _
  (fun j hj hji=>decide_eq_false (by
    by_cases e:j=i
    ·subst e; omega
    ·have:=hs j i hj hi (by omega); omega))
  (fun j hj hij=>decide_eq_true (by have:=hs i j hi hj (by omega); omega))
 rw [insV,a1,a2,List.set_eq_take_append_cons_drop,if_pos hi]
theorem insV_new {l:List Vt} (hs:Srt l) {v:Vt} {i:Nat} (hi:i≤l.length) (h1:∀ j (hj:j<l.length),j<i→l[j].slot<v.slot) (h2:∀ j (hj:j<l.length),i≤j→v.slot<l[j].slot):insV l v=l.take i++v :: l.drop i:=by
 have a1:l.filter (fun x=>decide (x.slot<v.slot))=l.take i:=filter_take _ _ _ (fun j hj hji=>decide_eq_true (h1 j hj hji)) (fun j hj hij=>decide_eq_false (by have:=h2 j hj hij; omega))
 have a2:l.filter (fun x=>decide (v.slot<x.slot))=l.drop i:=filter_drop _ _ _ (fun j hj hji=>decide_eq_false (by have:=h1 j hj hji; omega)) (fun j hj hij=>decide_eq_true (h2 j hj hij))
 rw [insV,a1,a2]
def valD:List Nat→Nat
 | []=>0
 | x :: l=>x+256*valD l
def Dg (l:List Nat):Prop:=∀ x∈l,x<256
theorem Dg.getD {l:List Nat} (w:Dg l) (i:Nat):l.getD i 0<256:=getD_byte w i
theorem Dg.set {l:List Nat} {x:Nat} (w:Dg l) (i:Nat) (hx:x<256):Dg (l.set i x):=by
 intro y hy
 rcases List.mem_or_eq_of_mem_set hy with h | h
 ·exact w y h
 ·rw [h]; exact hx
theorem valD_lt {l:List Nat} (w:Dg l):valD l<256 ^ l.length:=by
 induction l with
 | nil=>simp [valD]
 | cons x l ih=>
  have h1:=ih fun y hy=>w y (List.mem_cons_of_mem _ hy)
  have h2:=w x List.mem_cons_self
  simp only [valD,List.length_cons,Nat.pow_succ]
  omega
theorem valD_digit {l:List Nat} (w:Dg l) (i:Nat):l.getD i 0=valD l / 256 ^ i % 256:=by
 induction l generalizing i with
 | nil=>simp [valD]
 | cons x l ih=>
  have hx:=w x List.mem_cons_self
  cases i with
  | zero=>simp only [List.getD_cons_zero,valD,Nat.pow_zero,Nat.div_one]; omega
  | succ i=>
   rw [List.getD_cons_succ,ih (fun y hy=>w y (List.mem_cons_of_mem _ hy)) i,valD,Nat.pow_succ,Nat.mul_comm (256 ^ i) 256,← Nat.div_div_eq_div_mul]
   congr 2
   omega
theorem getD_none {l:List Nat} {i:Nat} (hi:¬ i<l.length):l.getD i 0=0:=by
 rw [List.getD_eq_getElem?_getD,List.getElem?_eq_none (by omega)]; rfl
def uv (x:Nat):Value:=.int .u64 (x:Nat)
def numL (n top:Nat):List Nat:=[n % 67108864,n / 67108864 % 67108864,n / 4503599627370496 % 67108864,n / 302231454903657293676544 % 67108864,n / 20282409603651670423947251286016+top*16777216]
theorem shl_u64 (x n:Nat) (hn:n≤64):shlOp .u64 (x:Int) (n:Int)=((x*2 ^ n % 18446744073709551616:Nat):Int):=by
 rw [shl_nat .u64 x n (by show n≤64; omega),wrap_u64_mod]; rfl
theorem shr_u64 (x n:Nat) (hn:n≤64):shrOp .u64 (x:Int) (n:Int)=((x / 2 ^ n:Nat):Int):=by
 rw [shr_nat .u64 x n (by show n≤64; omega),Nat.shiftRight_eq_div_pow]
theorem mask26 (x:Nat) (hx:x<18446744073709551616):bitOp .and .u64 (x:Int) 67108863=((x % 67108864:Nat):Int):=by
 have h:=and_u64 x 67108863 hx (by decide)
 have e:x &&& 67108863=x % 67108864:=Nat.and_two_pow_sub_one_eq_mod x 26
 rw [e] at h
 exact h
theorem byte_in (L b:Nat) (hL:L<72057594037927936) (hb:b<256):bitOp .or .u64 ((L*256:Nat):Int) (b:Int)=((L*256+b:Nat):Int):=by
 rw [or_u64 _ _ (by omega) (by omega),or_add (k:=8) (by omega) (by omega)]
theorem shl8 (L:Nat) (hL:L<72057594037927936):shlOp .u64 (L:Int) 8=((L*256:Nat):Int):=by
 have h:=shl_u64 L 8 (by decide)
 rw [show L*2 ^ 8 % 18446744073709551616=L*256 by omega] at h
 exact h
theorem drop_val {l:List Nat} {m:Nat} (hm:m<l.length):valD (l.drop m)=l.getD m 0+256*valD (l.drop (m+1)):=by
 rw [List.drop_eq_getElem_cons hm]
 have e:l.getD m 0=l[m]:=by rw [List.getD_eq_getElem?_getD,List.getElem?_eq_getElem hm]; rfl
 rw [e]; rfl
theorem Dg.drop {l:List Nat} (w:Dg l) (i:Nat):Dg (l.drop i):=fun x hx=>w x (List.mem_of_mem_drop hx)
theorem valD_lt_of {l:List Nat} (w:Dg l) {n:Nat} (hn:l.length≤n):valD l<256 ^ n:=Nat.lt_of_lt_of_le (valD_lt w) (Nat.pow_le_pow_right (by omega) hn)
set_option maxHeartbeats 1000000 in
theorem number_ok (T:World) (h:Hp) (v:Value) (l:List Nat) (top:Nat) (s:Bs h v l) (hl:l.length=16) (ht:top≤1) :
  CallsH Tryz.prog T 144 #[v,.int .u64 top] h fun v' h'=>v'=.agg ((numL (valD l) top).map uv).toArray∧Bel h.size h h':=by
 have wb:=s.byte
 obtain ⟨p,c,rfl,hc⟩:=s.opend
 obtain ⟨bb,oo,rfl,hbb,hc⟩:=hc (by intro e; subst e; simp at hl)
 obtain ⟨lo,hi,rfl,hlo,hhi⟩:∃ lo hi:List Nat,l=lo++hi∧lo.length=8∧hi.length=8:=⟨l.take 8,l.drop 8,(List.take_append_drop 8 l).symm,by rw [List.length_take]; omega,by rw [List.length_drop]; omega⟩
 have wlo:Dg lo:=fun x hx=>wb x (List.mem_append_left _ hx)
 have whi:Dg hi:=fun x hx=>wb x (List.mem_append_right _ hx)
 refine CallsH.of_code' (args:=[_,_]) Tryz.func144 rfl rfl rfl rfl ?_
 simp -implicitDefEqProofs (maxSteps:=2000000) only [go_sem,↓reduceIte]
 obtain ⟨Z,hZ⟩:∃ Z:Obj,Z=.cells #[.int .u64 0,.int .u64 0,.int .u64 0,.int .u64 0,.int .u64 0] 236:=⟨_,rfl⟩
 refine VS.loop' (fun F g=>g=h.push (.cells #[.int .u64 0,.int .u64 0,.int .u64 0,.int .u64 0,.int .u64 0] 236)∧F 0=.slice (some ⟨bb,oo,none⟩) (lo++hi).length c∧F 1=.int .u64 top∧F 4=.pointer (some ⟨h.size,0,none⟩)∧∃ j:Nat,j≤8∧F 7=.int .i64 ((j:Int) - 1)∧F 5=.int .u64 (valD (lo.drop j):Nat)∧F 6=.int .u64 (valD (hi.drop j):Nat))
  (fun F _=>(vi (F 7)+1).toNat) rfl ⟨rfl,rfl,rfl,rfl,8,by omega,rfl,by rw [List.drop_of_length_le (by omega)]; rfl,by rw [List.drop_of_length_le (by omega)]; rfl⟩ ?_
 rintro F g ⟨rfl,f0,f1,f4,j,hj,f7,f5,f6⟩
 by_cases hlt:0<j
 ·obtain ⟨m,rfl⟩:∃ m,j=m+1:=⟨j - 1,by omega⟩
  have e1:((m+1:Nat):Int) - 1=(m:Nat):=by omega
  rw [e1] at f7
  have g1:=hc m (by omega)
  have g2:=hc (8+m) (by omega)
  have d1:(lo++hi).getD m 0=lo.getD m 0:=by rw [List.getD_eq_getElem?_getD,List.getElem?_append_left (by omega),List.getD_eq_getElem?_getD]
  have d2:(lo++hi).getD (8+m) 0=hi.getD m 0:=by rw [List.getD_eq_getElem?_getD,List.getElem?_append_right (by omega),hlo,Nat.add_sub_cancel_left,List.getD_eq_getElem?_getD]
  rw [d1] at g1
  rw [d2] at g2
  have x1:=wlo.getD m
  have x2:=whi.getD m
  have n1:valD (lo.drop m)=valD (lo.drop (m+1))*256+lo.getD m 0:=by rw [drop_val (l:=lo) (by omega)]; omega
  have n2:valD (hi.drop m)=valD (hi.drop (m+1))*256+hi.getD m 0:=by rw [drop_val (l:=hi) (by omega)]; omega
  have b1:=valD_lt_of (wlo.drop (m+1)) (n:=7) (by rw [List.length_drop]; omega)
  have b2:=valD_lt_of (whi.drop (m+1)) (n:=7) (by rw [List.length_drop]; omega)
  rw [show 256 ^ 7=72057594037927936 from rfl] at b1 b2
  have s1:=shl8 _ b1
  have s2:=shl8 _ b2
  have o1:=byte_in _ _ b1 x1
  have o2:=byte_in _ _ b2 x2
  have em:(8:Int)+(m:Int)=((8+m:Nat):Int):=by omega
  have k1:(m:Int)<(lo++hi).length:=by omega
  have k2:((8+m:Nat):Int)<(lo++hi).length:=by omega
  have k0:(0:Int)≤m:=by omega
  have hbb':bb<h.size:=hbb
  have m1:((lo.getD m 0:Nat):Int) % 18446744073709551616=(lo.getD m 0:Nat):=by omega
  have m2:((hi.getD m 0:Nat):Int) % 18446744073709551616=(hi.getD m 0:Nat):=by omega
  simp -implicitDefEqProofs (maxSteps:=2000000) only [go_sem,↓reduceIte,f0,f1,f4,f5,f6,f7,m1,m2,k0,k1,k2,em,Int.toNat_natCast,hbb',g1,g2,s1,s2,o1,o2]
  refine ⟨⟨rfl,f0,f1,f4,m,by omega,rfl,?_,?_⟩,?_⟩
  ·rw [n1]; rfl
  ·rw [n2]; rfl
  ·simp only [vi,updo_some,↓reduceIte,f7]; omega
 ·obtain rfl:j=0:=by omega
  rw [List.drop_zero] at f5 f6
  have k0:¬ (0:Int)≤((0:Nat):Int) - 1:=by omega
  have b1:=valD_lt_of wlo (n:=8) (by omega)
  have b2:=valD_lt_of whi (n:=8) (by omega)
  rw [show 256 ^ 8=18446744073709551616 from rfl] at b1 b2
  have hval:valD (lo++hi)=valD lo+18446744073709551616*valD hi:=by
   have:∀ a b:List Nat,valD (a++b)=valD a+256 ^ a.length*valD b:=by
    intro a b
    induction a with
    | nil=>simp [valD]
    | cons x a ih=>simp only [List.cons_append,valD,ih,List.length_cons,Nat.pow_succ,Nat.mul_add,Nat.add_assoc]; congr 2; rw [← Nat.mul_assoc,Nat.mul_comm 256]
   rw [this,hlo]
  rw [hval]
  generalize valD lo=L at *
  generalize valD hi=M at *
  have q1:=mask26 L b1
  have q2:shrOp .u64 (L:Int) 26=((L / 2 ^ 26:Nat):Int):=shr_u64 L 26 (by decide)
  have q3:=mask26 (L / 2 ^ 26) (by omega)
  have q4:shrOp .u64 (L:Int) 52=((L / 2 ^ 52:Nat):Int):=shr_u64 L 52 (by decide)
  have q5:shlOp .u64 (M:Int) 12=((M*2 ^ 12 % 18446744073709551616:Nat):Int):=shl_u64 M 12 (by decide)
  have q6:=or_u64 (L / 2 ^ 52) (M*2 ^ 12 % 18446744073709551616) (by omega) (by omega)
  rw [Nat.or_comm,or_add (k:=12) (by omega) (by omega)] at q6
  have q7:=mask26 (M*2 ^ 12 % 18446744073709551616+L / 2 ^ 52) (by omega)
  have q8:shrOp .u64 (M:Int) 14=((M / 2 ^ 14:Nat):Int):=shr_u64 M 14 (by decide)
  have q9:=mask26 (M / 2 ^ 14) (by omega)
  have q10:shrOp .u64 (M:Int) 40=((M / 2 ^ 40:Nat):Int):=shr_u64 M 40 (by decide)
  have q11:shlOp .u64 (top:Int) 24=((top*2 ^ 24 % 18446744073709551616:Nat):Int):=shl_u64 top 24 (by decide)
  have q12:=or_u64 (M / 2 ^ 40) (top*2 ^ 24 % 18446744073709551616) (by omega) (by omega)
  rw [Nat.or_comm,or_add (k:=24) (by omega) (by omega)] at q12
  simp -implicitDefEqProofs (maxSteps:=2000000) only [go_sem,↓reduceIte,f0,f1,f4,f5,f6,f7,k0,q1,q2,q3,q4,q5,q6,q7,q8,q9,q10,q11,q12]
  have w1:L % 67108864=(L+18446744073709551616*M) % 67108864:=by omega
  have w2:L / 2 ^ 26 % 67108864=(L+18446744073709551616*M) / 67108864 % 67108864:=by omega
  have w3:(M*2 ^ 12 % 18446744073709551616+L / 2 ^ 52) % 67108864=(L+18446744073709551616*M) / 4503599627370496 % 67108864:=by omega
  have w4:M / 2 ^ 14 % 67108864=(L+18446744073709551616*M) / 302231454903657293676544 % 67108864:=by omega
  have w5:top*2 ^ 24 % 18446744073709551616+M / 2 ^ 40=(L+18446744073709551616*M) / 20282409603651670423947251286016+top*16777216:=by omega
  rw [w1,w2,w3,w4,w5]
  rfl
def carry1 (l:List Nat) (i:Nat):List Nat:=
 if i<4 then (l.set i (l.getD i 0 % 67108864)).set (i+1) ((l.set i (l.getD i 0 % 67108864)).getD (i+1) 0+l.getD i 0 / 67108864)
 else (l.set i (l.getD i 0 % 67108864)).set 0 ((l.set i (l.getD i 0 % 67108864)).getD 0 0+5*(l.getD i 0 / 67108864))
def carryN (l:List Nat):Nat→List Nat
 | 0=>l
 | i+1=>carry1 (carryN l i) i
def LtAll (K:Nat) (l:List Nat):Prop:=∀ x∈l,x<K
theorem LtAll.getD {K:Nat} {l:List Nat} (w:LtAll K l) (hK:0<K) (i:Nat):l.getD i 0<K:=by
 by_cases hi:i<l.length
 ·have e:l.getD i 0=l[i]:=by rw [List.getD_eq_getElem?_getD,List.getElem?_eq_getElem hi]; rfl
  rw [e]; exact w _ (List.getElem_mem hi)
 ·rw [getD_none hi]; exact hK
theorem LtAll.set {K:Nat} {l:List Nat} (w:LtAll K l) (i x:Nat) (hx:x<K):LtAll K (l.set i x):=by
 intro y hy
 rcases List.mem_or_eq_of_mem_set hy with h | h
 ·exact w y h
 ·rw [h]; exact hx
theorem LtAll.mono {K K':Nat} {l:List Nat} (w:LtAll K l) (h:K≤K'):LtAll K' l:=fun x hx=>Nat.lt_of_lt_of_le (w x hx) h
theorem carry1_length (l:List Nat) (i:Nat):(carry1 l i).length=l.length:=by
 unfold carry1; split <;> simp
theorem carryN_length (l:List Nat):∀ i,(carryN l i).length=l.length
 | 0=>rfl
 | i+1=>by rw [carryN,carry1_length,carryN_length l i]
theorem carry1_lt {K:Nat} {l:List Nat} {i:Nat} (w:LtAll K l) (h0:67108864≤K) (hK:K≤2 ^ 62):LtAll (K+2 ^ 39) (carry1 l i):=by
 have hx:=w.getD (by omega) i
 have w1:LtAll K (l.set i (l.getD i 0 % 67108864)):=w.set i _ (by omega)
 have hy:=w1.getD (by omega) (i+1)
 have hz:=w1.getD (by omega) 0
 unfold carry1
 split
 ·exact (w1.mono (by omega)).set _ _ (by omega)
 ·exact (w1.mono (by omega)).set _ _ (by omega)
theorem carryN_lt {K:Nat} {l:List Nat} (w:LtAll K l) (h0:67108864≤K) (hK:K≤2 ^ 61):∀ i,i≤5→LtAll (K+i*2 ^ 39) (carryN l i)
 | 0,_=>by rw [Nat.zero_mul,Nat.add_zero]; exact w
 | i+1,hi=>by
  have:=carry1_lt (i:=i) (carryN_lt w h0 hK i (by omega)) (by omega) (by omega)
  rw [carryN]
  exact this.mono (by omega)
theorem getD_set_ne' {l:List Nat} {i j x:Nat} (h:i≠j):(l.set i x).getD j 0=l.getD j 0:=by
 rw [List.getD_eq_getElem?_getD,List.getD_eq_getElem?_getD,List.getElem?_set_ne h]
def limC (l:List Nat):Obj:=.cells (l.map uv++[]).toArray 236
theorem shr26 (x:Nat):shrOp .u64 (x:Int) 26=((x / 67108864:Nat):Int):=shr_u64 x 26 (by decide)
set_option maxHeartbeats 1000000 in
theorem carry_loop (T:World) (h:Hp) (bk:Nat) (l:List Nat) (hl:l.length=5) (w:LtAll (2 ^ 61) l) (hb:h[bk]? = some (limC l)) :
  CallsH Tryz.prog T 148 #[.pointer (some ⟨bk,0,none⟩)] h fun v' h'=>∃ a,a=carryN l 5∧h'=h.setIfInBounds bk (limC ((a.set 1 (a.getD 1 0+a.getD 0 0 / 67108864)).set 0 (a.getD 0 0 % 67108864))):=by
 refine CallsH.of_code' (args:=[_]) Tryz.func148 rfl rfl rfl rfl ?_
 simp -implicitDefEqProofs (maxSteps:=2000000) only [go_sem,↓reduceIte]
 refine VS.loop' (fun F g=>F 0=.pointer (some ⟨bk,0,none⟩)∧∃ i:Nat,i≤5∧F 4=.int .i64 i∧g=h.setIfInBounds bk (limC (carryN l i)))
  (fun F _=>5 - (vi (F 4)).toNat) rfl ⟨rfl,0,by omega,rfl,(set_same hb).symm⟩ ?_
 rintro F g ⟨f0,i,hi,f4,rfl⟩
 have hx:=cells_new (o:=limC (carryN l i)) hb
 have hw:=carryN_lt w (by decide) (by decide) i hi
 have hw2:=hw.getD (by omega) i
 have hln:(carryN l i).length=5:=by rw [carryN_length,hl]
 by_cases hlt:i<5
 ·have hlt':(i:Int)<5:=by omega
  have hnext:carryN l (i+1)=carry1 (carryN l i) i:=rfl
  obtain ⟨a,ha⟩:∃ a,a=carryN l i:=⟨_,rfl⟩
  rw [← ha] at hx hw hw2 hln hnext ⊢
  obtain ⟨G,hG⟩:∃ G,G=h.setIfInBounds bk (limC a):=⟨_,rfl⟩
  rw [← hG] at hx ⊢
  have g1:=cells_get hx (i:=i) (by omega)
  unfold uv at g1
  obtain ⟨x,hxx⟩:∃ x,x=a.getD i 0:=⟨_,rfl⟩
  rw [← hxx] at g1 hw2
  have e1:=shr26 x
  have e2:=mask26 x (by omega)
  simp -implicitDefEqProofs (maxSteps:=2000000) only [go_sem,↓reduceIte,f0,f4,hlt',Int.toNat_natCast,Nat.zero_add,g1,e1]
  refine VS.w (bk+1) [8] (.q 0 (.q 1 (.q 2 (.q 3 (.q 4 (.q 5 (.q 6 (.q 7 (.w 8 .nil))))))))) mixed (by kernel_rfl) ?_
  have c1:wr1 _ ⟨bk,i,none⟩ (.int .u64 (x % 67108864:Nat))=_:=cells_set (f:=uv) hx (i:=i) (by omega) (x % 67108864) rfl
  have hx1:=cells_new (o:=.cells ((a.set i (x % 67108864)).map uv++[]).toArray 236) hx
  have hw1:=hw.set i (x % 67108864) (by omega)
  have hc1:carry1 a i=if i<4 then (a.set i (x % 67108864)).set (i+1) ((a.set i (x % 67108864)).getD (i+1) 0+x / 67108864) else (a.set i (x % 67108864)).set 0 ((a.set i (x % 67108864)).getD 0 0+5*(x / 67108864)):=by rw [hxx]; rfl
  have hl1:(a.set i (x % 67108864)).length=5:=by rw [List.length_set,hln]
  obtain ⟨a1,ha1⟩:∃ a1,a1=a.set i (x % 67108864):=⟨_,rfl⟩
  rw [← ha1] at hx1 hw1 hc1 hl1 c1
  obtain ⟨G1,hG1⟩:∃ G1,G1=G.setIfInBounds bk (.cells (a1.map uv++[]).toArray 236):=⟨_,rfl⟩
  rw [← hG1] at hx1 c1
  by_cases h4:i<4
  ·have h4':(i:Int)<4:=by omega
   rw [if_pos h4] at hc1
   simp -implicitDefEqProofs (maxSteps:=2000000) only [go_sem,↓reduceIte,f0,f4,hlt',Int.toNat_natCast,Nat.zero_add,g1,e1,e2,c1,h4']
   refine VS.w (bk+1) [10] (.q 0 (.q 1 (.q 2 (.q 3 (.q 4 (.q 5 (.q 6 (.q 7 (.q 8 (.q 9 (.w 10 .nil))))))))))) mixed (by kernel_rfl) ?_
   have g2:=cells_get hx1 (i:=i+1) (by omega)
   unfold uv at g2
   have hy:=hw1.getD (by omega) (i+1)
   obtain ⟨y,hyy⟩:∃ y,y=a1.getD (i+1) 0:=⟨_,rfl⟩
   rw [← hyy] at g2 hy hc1
   have e3:(y:Int)+((x / 67108864:Nat):Int)=((y+x / 67108864:Nat):Int):=by omega
   have e4:((y+x / 67108864:Nat):Int) % 18446744073709551616=((y+x / 67108864:Nat):Int):=by omega
   have ei:(i:Int)+1=((i+1:Nat):Int):=rfl
   have hi1:((i+1:Nat):Int)<5:=by omega
   have c2:wr1 G1 ⟨bk,i+1,none⟩ (.int .u64 (y+x / 67108864:Nat))=_:=cells_set (f:=uv) hx1 (i:=i+1) (by omega) (y+x / 67108864) rfl
   simp -implicitDefEqProofs (maxSteps:=2000000) only [go_sem,↓reduceIte,f0,f4,hlt',ei,hi1,Int.toNat_natCast,Nat.zero_add,g2,e3,e4,c2]
   refine ⟨⟨f0,i+1,hlt,rfl,?_⟩,?_⟩
   ·rw [hG1,set_set,hG,set_set,hnext,hc1]; rfl
   ·simp only [vi,updo_some,↓reduceIte,f4]; omega
  ·have h4':¬ (i:Int)<4:=by omega
   rw [if_neg h4] at hc1
   simp -implicitDefEqProofs (maxSteps:=2000000) only [go_sem,↓reduceIte,f0,f4,hlt',Int.toNat_natCast,Nat.zero_add,g1,e1,e2,c1,h4']
   refine VS.w (bk+1) [9] (.q 0 (.q 1 (.q 2 (.q 3 (.q 4 (.q 5 (.q 6 (.q 7 (.q 8 (.w 9 .nil)))))))))) mixed (by kernel_rfl) ?_
   have g2:=cells_get hx1 (i:=0) (by omega)
   unfold uv at g2
   have hy:=hw1.getD (by omega) 0
   obtain ⟨y,hyy⟩:∃ y,y=a1.getD 0 0:=⟨_,rfl⟩
   rw [← hyy] at g2 hy hc1
   have e5:(5:Int)*((x / 67108864:Nat):Int)=((5*(x / 67108864):Nat):Int):=by omega
   have e6:((5*(x / 67108864):Nat):Int) % 18446744073709551616=((5*(x / 67108864):Nat):Int):=by omega
   have e3:(y:Int)+((5*(x / 67108864):Nat):Int)=((y+5*(x / 67108864):Nat):Int):=by omega
   have e4:((y+5*(x / 67108864):Nat):Int) % 18446744073709551616=((y+5*(x / 67108864):Nat):Int):=by omega
   have c2:wr1 G1 ⟨bk,0,none⟩ (.int .u64 (y+5*(x / 67108864):Nat))=_:=cells_set (f:=uv) hx1 (i:=0) (by omega) (y+5*(x / 67108864)) rfl
   simp -implicitDefEqProofs (maxSteps:=2000000) only [go_sem,↓reduceIte,f0,f4,hlt',Int.toNat_natCast,Nat.zero_add,g2,e3,e4,e5,e6,c2]
   refine ⟨⟨f0,i+1,hlt,rfl,?_⟩,?_⟩
   ·rw [hG1,set_set,hG,set_set,hnext,hc1]; rfl
   ·simp only [vi,updo_some,↓reduceIte,f4]; omega
 ·have hge:¬ (i:Int)<5:=by omega
  obtain rfl:i=5:=by omega
  obtain ⟨a,ha⟩:∃ a,a=carryN l 5:=⟨_,rfl⟩
  rw [← ha] at hx hw hw2 hln ⊢
  obtain ⟨G,hG⟩:∃ G,G=h.setIfInBounds bk (limC a):=⟨_,rfl⟩
  rw [← hG] at hx ⊢
  have g0:=cells_get hx (i:=0) (by omega)
  have g1:=cells_get hx (i:=1) (by omega)
  have y0:=hw.getD (by omega) 0
  have y1:=hw.getD (by omega) 1
  unfold uv at g0 g1
  obtain ⟨x,hxx⟩:∃ x,x=a.getD 0 0:=⟨_,rfl⟩
  obtain ⟨y,hyy⟩:∃ y,y=a.getD 1 0:=⟨_,rfl⟩
  rw [← hxx] at g0 y0
  rw [← hyy] at g1 y1
  have e1:=shr26 x
  have e2:=mask26 x (by omega)
  have e3:(y:Int)+((x / 67108864:Nat):Int)=((y+x / 67108864:Nat):Int):=by omega
  have e4:((y+x / 67108864:Nat):Int) % 18446744073709551616=((y+x / 67108864:Nat):Int):=by omega
  have c5:((5:Nat):Int)=5:=rfl
  rw [c5] at f4 hge
  simp -implicitDefEqProofs (maxSteps:=2000000) only [go_sem,↓reduceIte,f0,f4,hge]
  refine VS.w (bk+1) [12] (.q 0 (.q 1 (.q 2 (.q 3 (.q 4 (.q 5 (.q 6 (.q 7 (.q 8 (.q 9 (.q 10 (.q 11 (.w 12 .nil))))))))))))) mixed (by kernel_rfl) ?_
  have c1:wr1 G ⟨bk,1,none⟩ (.int .u64 (y+x / 67108864:Nat))=_:=cells_set (f:=uv) hx (i:=1) (by omega) (y+x / 67108864) rfl
  have hx1:=cells_new (o:=.cells ((a.set 1 (y+x / 67108864)).map uv++[]).toArray 236) hx
  have hl1:(a.set 1 (y+x / 67108864)).length=5:=by rw [List.length_set,hln]
  obtain ⟨a1,ha1⟩:∃ a1,a1=a.set 1 (y+x / 67108864):=⟨_,rfl⟩
  rw [← ha1] at hx1 hl1 c1
  obtain ⟨G1,hG1⟩:∃ G1,G1=G.setIfInBounds bk (.cells (a1.map uv++[]).toArray 236):=⟨_,rfl⟩
  rw [← hG1] at hx1 c1
  have g2:=cells_get hx1 (i:=0) (by omega)
  unfold uv at g2
  have g2e:a1.getD 0 0=x:=by rw [ha1,getD_set_ne' (by decide),← hxx]
  rw [g2e] at g2
  simp -implicitDefEqProofs (maxSteps:=2000000) only [go_sem,↓reduceIte,f0,Nat.zero_add,g0,g1,e1,e3,e4,c1]
  refine VS.w (bk+1) [7] (.q 0 (.q 1 (.q 2 (.q 3 (.q 4 (.q 5 (.q 6 (.w 7 .nil)))))))) mixed (by kernel_rfl) ?_
  have c2:wr1 G1 ⟨bk,0,none⟩ (.int .u64 (x % 67108864:Nat))=_:=cells_set (f:=uv) hx1 (i:=0) (by omega) (x % 67108864) rfl
  simp -implicitDefEqProofs (maxSteps:=2000000) only [go_sem,↓reduceIte,f0,Nat.zero_add,g2,e2,c2]
  rw [hG1,set_set,hG,set_set,ha1]
  exact ⟨a,rfl,by rw [← hxx,← hyy]; rfl⟩
theorem getD_set_ne {l:List Nat} {i j x:Nat} (h:i≠j):(l.set i x).getD j 0=l.getD j 0:=by
 rw [List.getD_eq_getElem?_getD,List.getD_eq_getElem?_getD,List.getElem?_set_ne h]
def H16:Nat:=256 ^ 16
def P130:Nat:=4*256 ^ 16 - 5
def val26:List Nat→Nat
 | []=>0
 | x :: l=>x+67108864*val26 l
theorem P130_eq:P130=1361129467683753853853498429727072845819:=rfl
theorem carry_five {a b c d e:Nat}:∃ q r0 r1 r2 r3 r4:Nat,carryN [a,b,c,d,e] 5=[r0,r1,r2,r3,r4]∧val26 [a,b,c,d,e]=val26 [r0,r1,r2,r3,r4]+P130*q∧r1<67108864∧r2<67108864∧r3<67108864∧r4<67108864∧r0≤67108863+5*q∧q≤(e+(d+(c+(b+a / 67108864) / 67108864) / 67108864) / 67108864) / 67108864:=by
 refine ⟨(e+(d+(c+(b+a / 67108864) / 67108864) / 67108864) / 67108864) / 67108864,a % 67108864+5*((e+(d+(c+(b+a / 67108864) / 67108864) / 67108864) / 67108864) / 67108864),(b+a / 67108864) % 67108864,(c+(b+a / 67108864) / 67108864) % 67108864,(d+(c+(b+a / 67108864) / 67108864) / 67108864) % 67108864,(e+(d+(c+(b+a / 67108864) / 67108864) / 67108864) / 67108864) % 67108864,?_,?_,Nat.mod_lt _ (by decide),Nat.mod_lt _ (by decide),Nat.mod_lt _ (by decide),Nat.mod_lt _ (by decide),by omega,Nat.le_refl _⟩
 ·rfl
 ·simp only [val26,P130_eq]
  omega
theorem five {l:List Nat} (h:l.length=5):∃ a b c d e,l=[a,b,c,d,e]:=by
 match l,h with
 | [a,b,c,d,e],_=>exact ⟨a,b,c,d,e,rfl⟩
def carryL (l:List Nat):List Nat:=((carryN l 5).set 1 ((carryN l 5).getD 1 0+(carryN l 5).getD 0 0 / 67108864)).set 0 ((carryN l 5).getD 0 0 % 67108864)
theorem LtAll.five {K a b c d e:Nat} (ha:a<K) (hb:b<K) (hc:c<K) (hd:d<K) (he:e<K):LtAll K [a,b,c,d,e]:=by
 intro x hx
 simp only [List.mem_cons,List.not_mem_nil,or_false] at hx
 rcases hx with rfl | rfl | rfl | rfl | rfl <;> assumption
theorem LtAll.all5 {K a b c d e:Nat} (w:LtAll K [a,b,c,d,e]):a<K∧b<K∧c<K∧d<K∧e<K:=
 ⟨w a (by simp),w b (by simp),w c (by simp),w d (by simp),w e (by simp)⟩
theorem carry_law {l:List Nat} (hl:l.length=5) (w:LtAll (2 ^ 61) l):(carryL l).length=5∧LtAll 134217728 (carryL l)∧val26 (carryL l) % P130=val26 l % P130∧val26 (carryL l)<4*H16+2 ^ 44:=by
 obtain ⟨a,b,c,d,e,rfl⟩:=five hl
 obtain ⟨wa,wb,wc,wd,we⟩:=w.all5
 obtain ⟨q,r0,r1,r2,r3,r4,hc,hv,h1,h2,h3,h4,h0,hq⟩:=@carry_five a b c d e
 have hL:carryL [a,b,c,d,e]=[r0 % 67108864,r1+r0 / 67108864,r2,r3,r4]:=by unfold carryL; rw [hc]; rfl
 have hq':q<2 ^ 36:=by omega
 have hr:r0 / 67108864<8192:=by omega
 have hval:val26 [r0 % 67108864,r1+r0 / 67108864,r2,r3,r4]=val26 [r0,r1,r2,r3,r4]:=by simp only [val26]; omega
 rw [hL]
 refine ⟨rfl,LtAll.five (by omega) (by omega) (by omega) (by omega) (by omega),?_,?_⟩
 ·rw [hval,hv,Nat.add_mul_mod_self_left]
 ·rw [hval]
  have e16:H16=340282366920938463463374607431768211456:=rfl
  rw [e16]
  have h0':r0<549755813888:=by omega
  clear hv hc hq hq' hL hval h0
  simp only [val26]
  omega
def tstep (a b:Nat) (out:List Nat) (i k:Nat):List Nat:=if i+k<5 then out.set (i+k) (out.getD (i+k) 0+a*b) else out.set (i+k - 5) (out.getD (i+k - 5) 0+5*a*b)
def trow (a:Nat) (bs out:List Nat) (i:Nat):Nat→List Nat
 | 0=>out
 | k+1=>tstep a (bs.getD k 0) (trow a bs out i k) i k
def tmat (xs bs:List Nat):Nat→List Nat
 | 0=>[0,0,0,0,0]
 | i+1=>trow (xs.getD i 0) bs (tmat xs bs i) i 5
theorem tstep_length (a b:Nat) (out:List Nat) (i k:Nat):(tstep a b out i k).length=out.length:=by unfold tstep; split <;> simp
theorem trow_length (a:Nat) (bs out:List Nat) (i:Nat):∀ k,(trow a bs out i k).length=out.length
 | 0=>rfl
 | k+1=>by rw [trow,tstep_length,trow_length a bs out i k]
theorem tmat_length (xs bs:List Nat):∀ i,(tmat xs bs i).length=5
 | 0=>rfl
 | i+1=>by rw [tmat,trow_length,tmat_length xs bs i]
theorem mul_bound {a b:Nat} (ha:a<268435456) (hb:b<67108864):a*b<18014398509481984:=
 Nat.lt_of_le_of_lt (Nat.mul_le_mul (Nat.le_of_lt_succ (show a<268435455+1 from ha)) (Nat.le_of_lt_succ (show b<67108863+1 from hb))) (by decide)
theorem mul_bound5 {a b:Nat} (ha:a<268435456) (hb:b<67108864):5*a*b<90071992547409920:=by
 have:=mul_bound ha hb
 rw [Nat.mul_assoc]; omega
theorem tstep_lt {K a b:Nat} {out:List Nat} {i k:Nat} (w:LtAll K out) (hK:0<K) (ha:a<268435456) (hb:b<67108864):LtAll (K+90071992547409920) (tstep a b out i k):=by
 have h1:=mul_bound ha hb
 have h2:=mul_bound5 ha hb
 have q1:=w.getD hK (i+k)
 have q2:=w.getD hK (i+k - 5)
 unfold tstep
 split
 ·exact (w.mono (by omega)).set _ _ (by omega)
 ·exact (w.mono (by omega)).set _ _ (by omega)
theorem trow_lt {K a:Nat} {bs out:List Nat} {i:Nat} (w:LtAll K out) (hK:0<K) (ha:a<268435456) (hb:LtAll 67108864 bs):∀ k,LtAll (K+k*90071992547409920) (trow a bs out i k)
 | 0=>by rw [Nat.zero_mul]; exact w
 | k+1=>by
  rw [trow,Nat.add_mul,Nat.one_mul,← Nat.add_assoc]
  exact tstep_lt (trow_lt w hK ha hb k) (by omega) ha (hb.getD (by omega) k)
theorem tmat_lt {xs bs:List Nat} (ha:LtAll 268435456 xs) (hb:LtAll 67108864 bs):∀ i,LtAll (1+i*450359962737049600) (tmat xs bs i)
 | 0=>LtAll.five (by omega) (by omega) (by omega) (by omega) (by omega)
 | i+1=>by
  rw [tmat]
  exact (trow_lt (tmat_lt ha hb i) (by omega) (ha.getD (by omega) i) hb 5).mono (by omega)
theorem val26_set:∀ {l:List Nat} {i x:Nat},i<l.length→val26 (l.set i (l.getD i 0+x))=val26 l+x*67108864 ^ i
 | y :: l,0,x,_=>by simp only [List.set_cons_zero,List.getD_cons_zero,val26,Nat.pow_zero,Nat.mul_one]; omega
 | y :: l,i+1,x,h=>by
  simp only [List.set_cons_succ,List.getD_cons_succ,val26]
  rw [val26_set (l:=l) (i:=i) (x:=x) (by simpa using h),Nat.pow_succ,← Nat.mul_assoc]
  omega
theorem X5:67108864 ^ 5=P130+5:=rfl
theorem turn5 (v a b y P:Nat):(v+5*a*b*y) % P=(v+a*b*(y*(P+5))) % P:=by
 have e:a*b*(y*(P+5))=5*a*b*y+P*(a*b*y):=by
  rw [Nat.mul_add,Nat.mul_add,Nat.add_comm]
  congr 1
  ·rw [Nat.mul_comm y 5,← Nat.mul_assoc,Nat.mul_comm (a*b) 5,← Nat.mul_assoc 5 a b]
  ·rw [Nat.mul_comm y P,← Nat.mul_assoc,Nat.mul_comm (a*b) P,Nat.mul_assoc]
 rw [e,← Nat.add_assoc,Nat.add_mul_mod_self_left]
theorem tstep_val {a b:Nat} {out:List Nat} {i k:Nat} (hl:out.length=5) (hi:i<5) (hk:k<5):val26 (tstep a b out i k) % P130=(val26 out+a*b*67108864 ^ (i+k)) % P130:=by
 unfold tstep
 split
 ·rename_i h
  rw [val26_set (by omega)]
 ·rename_i h
  rw [val26_set (by omega)]
  obtain ⟨j,hj⟩:∃ j,i+k=j+5:=⟨i+k - 5,by omega⟩
  rw [hj,Nat.add_sub_cancel,Nat.pow_add,X5]
  exact turn5 _ _ _ _ _
def pvn (bs:List Nat):Nat→Nat
 | 0=>0
 | k+1=>pvn bs k+bs.getD k 0*67108864 ^ k
theorem pvn_five {bs:List Nat} (h:bs.length=5):pvn bs 5=val26 bs:=by
 obtain ⟨a,b,c,d,e,rfl⟩:=five h
 simp only [pvn,val26,List.getD_cons_zero,List.getD_cons_succ]
 omega
theorem trow_val {a:Nat} {bs out:List Nat} {i:Nat} (hl:out.length=5) (hi:i<5):∀ k,k≤5→val26 (trow a bs out i k) % P130=(val26 out+a*67108864 ^ i*pvn bs k) % P130
 | 0,_=>by rw [trow,pvn,Nat.mul_zero,Nat.add_zero]
 | k+1,hk=>by
  rw [trow,tstep_val (by rw [trow_length,hl]) hi (by omega),Nat.add_mod,trow_val hl hi k (by omega),← Nat.add_mod,pvn,Nat.mul_add,← Nat.add_assoc,Nat.pow_add]
  congr 2
  rw [Nat.mul_assoc,Nat.mul_assoc a]
  congr 1
  rw [← Nat.mul_assoc,Nat.mul_comm (bs.getD k 0),Nat.mul_assoc]
theorem tmat_val {xs bs:List Nat} (hb:bs.length=5):∀ i,i≤5→val26 (tmat xs bs i) % P130=(pvn xs i*val26 bs) % P130
 | 0,_=>by rw [pvn,Nat.zero_mul]; rfl
 | i+1,hi=>by
  rw [tmat,trow_val (tmat_length xs bs i) (by omega) 5 (by omega),Nat.add_mod,tmat_val hb i (by omega),← Nat.add_mod,pvn_five hb,pvn,Nat.add_mul]
theorem times_law {xs bs:List Nat} (ha:xs.length=5) (hb:bs.length=5) (wa:LtAll 268435456 xs) (wb:LtAll 67108864 bs) :
  LtAll (2 ^ 61) (tmat xs bs 5)∧(tmat xs bs 5).length=5∧val26 (tmat xs bs 5) % P130=val26 xs*val26 bs % P130:=
 ⟨(tmat_lt wa wb 5).mono (by decide),tmat_length xs bs 5,by rw [tmat_val hb 5 (by omega),pvn_five ha]⟩
def ywh (m:List Nat):Nat→List Nat
 | 0=>m.set 0 (m.getD 0 0+5)
 | i+1=>((ywh m i).set (i+1) ((ywh m i).getD (i+1) 0+(ywh m i).getD i 0 / 67108864)).set i ((ywh m i).getD i 0 % 67108864)
theorem ywh_length (m:List Nat):∀ i,(ywh m i).length=m.length
 | 0=>by simp [ywh]
 | i+1=>by rw [ywh,List.length_set,List.length_set,ywh_length m i]
theorem ywh_lt {m:List Nat} (w:LtAll 134217728 m):∀ i,i≤10→LtAll (134217728+6+i*8) (ywh m i)
 | 0,_=>(w.mono (by omega)).set _ _ (by have:=w.getD (by omega) 0; omega)
 | i+1,hi=>by
  have h:=ywh_lt w i (by omega)
  have q1:=h.getD (by omega) (i+1)
  have q2:=h.getD (by omega) i
  rw [ywh]
  exact ((h.mono (by omega)).set _ _ (by omega)).set _ _ (by omega)
def wholeL (m:List Nat):List Nat:=if (ywh m 4).getD 4 0 / 67108864=0 then m else (ywh m 4).set 4 ((ywh m 4).getD 4 0 % 67108864)
theorem wl_a {A B C P:Nat} (h1:A+5=B) (h2:B=C) (h3:C<P+5):A<P:=by omega
theorem wl_b {A B C q:Nat} (h1:A+5=B) (h2:B=C+1361129467683753853853498429727072845824*q) (hv:A<1361129467683753853853498429727072845824+2 ^ 44) (h0:¬ q=0):q=1:=by omega
theorem wl_c {A B C P:Nat} (h1:A+5=B) (h2:B=C+(P+5)) (hv:A<P+5+2 ^ 44) (hP:2 ^ 45<P):A=C+P*1∧C<P:=by omega
theorem whole_law {m:List Nat} (hl:m.length=5) (w:LtAll 134217728 m) (hv:val26 m<4*H16+2 ^ 44):(wholeL m).length=5∧LtAll 134217728 (wholeL m)∧val26 (wholeL m)=val26 m % P130:=by
 obtain ⟨a,b,c,d,e,rfl⟩:=five hl
 obtain ⟨wa,wb,wc,wd,we⟩:=w.all5
 obtain ⟨t0,ht0⟩:∃ t,t=a+5:=⟨_,rfl⟩
 obtain ⟨t1,ht1⟩:∃ t,t=b+t0 / 67108864:=⟨_,rfl⟩
 obtain ⟨t2,ht2⟩:∃ t,t=c+t1 / 67108864:=⟨_,rfl⟩
 obtain ⟨t3,ht3⟩:∃ t,t=d+t2 / 67108864:=⟨_,rfl⟩
 obtain ⟨t4,ht4⟩:∃ t,t=e+t3 / 67108864:=⟨_,rfl⟩
 have hY:ywh [a,b,c,d,e] 4=[t0 % 67108864,t1 % 67108864,t2 % 67108864,t3 % 67108864,t4]:=by rw [ht4,ht3,ht2,ht1,ht0]; rfl
 have hW:wholeL [a,b,c,d,e]=if t4 / 67108864=0 then [a,b,c,d,e] else [t0 % 67108864,t1 % 67108864,t2 % 67108864,t3 % 67108864,t4 % 67108864]:=by unfold wholeL; rw [hY]; rfl
 have e16:H16=340282366920938463463374607431768211456:=rfl
 rw [hW]
 have hs:val26 [a,b,c,d,e]+5=val26 [t0 % 67108864,t1 % 67108864,t2 % 67108864,t3 % 67108864,t4]:=by simp only [val26]; omega
 have hx:val26 [t0 % 67108864,t1 % 67108864,t2 % 67108864,t3 % 67108864,t4]=val26 [t0 % 67108864,t1 % 67108864,t2 % 67108864,t3 % 67108864,t4 % 67108864]+(P130+5)*(t4 / 67108864):=by rw [P130_eq]; simp only [val26]; omega
 have hb4:val26 [t0 % 67108864,t1 % 67108864,t2 % 67108864,t3 % 67108864,t4 % 67108864]<P130+5:=by rw [P130_eq]; simp only [val26]; omega
 have hH:4*H16=P130+5:=rfl
 rw [hH] at hv
 split
 ·rename_i h0
  refine ⟨rfl,w,?_⟩
  rw [h0,Nat.mul_zero,Nat.add_zero] at hx
  rw [Nat.mod_eq_of_lt (wl_a hs hx hb4)]
 ·rename_i h0
  refine ⟨rfl,LtAll.five (by omega) (by omega) (by omega) (by omega) (by omega),?_⟩
  have h1:t4 / 67108864=1:=by
   rw [P130_eq] at hx hv
   exact wl_b hs hx hv h0
  rw [h1,Nat.mul_one] at hx
  obtain ⟨hk,hC⟩:=wl_c hs hx hv (by rw [P130_eq]; decide)
  rw [hk,Nat.add_mul_mod_self_left,Nat.mod_eq_of_lt hC]
theorem carry_ok (T:World) (h:Hp) (bk:Nat) (l:List Nat) (hl:l.length=5) (w:LtAll (2 ^ 61) l) (hb:h[bk]? = some (limC l)) :
  CallsH Tryz.prog T 148 #[.pointer (some ⟨bk,0,none⟩)] h fun v' h'=>h'=h.setIfInBounds bk (limC (carryL l)):=
 (carry_loop T h bk l hl w hb).mono fun v' h' ⟨a,ha,hh⟩=>by subst ha; exact hh
theorem nth_uv {l:List Nat} {i:Nat} (hi:i<l.length):nth (l.map uv) i=some (.int .u64 (l.getD i 0:Nat)):=by
 rw [nth_eq,List.getElem?_map,List.getElem?_eq_getElem hi,List.getD_eq_getElem?_getD,List.getElem?_eq_getElem hi]; rfl
theorem rd_lim {g:Hp} {b:Nat} {l:List Nat} (hl:l.length=5) (hx:g[b]? = some (limC l)):rd g ⟨b,0,none⟩ 5=some (l.map uv):=by
 unfold limC at hx
 rw [List.append_nil] at hx
 exact rd_last hx (by simpa using hl)
set_option maxHeartbeats 1000000 in
theorem limTimes_ok (T:World) (h:Hp) (xs bs:List Nat) (ha:xs.length=5) (hb:bs.length=5) (wa:LtAll 268435456 xs) (wb:LtAll 67108864 bs) :
  CallsH Tryz.prog T 145 #[.agg (xs.map uv).toArray,.agg (bs.map uv).toArray] h fun v' h'=>v'=.agg ((carryL (tmat xs bs 5)).map uv).toArray∧Bel h.size h h':=by
 have la:(xs.map uv).length=5:=by simpa using ha
 have lb:(bs.map uv).length=5:=by simpa using hb
 have ta:(xs.map uv).take 5=xs.map uv:=List.take_of_length_le (by omega)
 refine CallsH.of_code' (args:=[_,_]) Tryz.func145 rfl rfl rfl rfl ?_
 simp -implicitDefEqProofs (maxSteps:=2000000) only [go_sem,↓reduceIte,la,lb,ta]
 obtain ⟨H,hH⟩:∃ H:Hp,H=((((h.push (.cells (xs.map uv).toArray 236)).push (.cells (bs.map uv).toArray 236)).push (.cells #[.int .u64 0,.int .u64 0,.int .u64 0,.int .u64 0,.int .u64 0] 236)).push (.cells #[.int .u64 0,.int .u64 0,.int .u64 0,.int .u64 0,.int .u64 0] 236)):=⟨_,rfl⟩
 have HB:Bel h.size h H:=by rw [hH]; exact (((Bel.push (Nat.le_refl _) _).addP (by simp) _).addP (by simp; omega) _).addP (by simp; omega) _
 have Hs:H.size=h.size+1+1+1+1:=by rw [hH]; simp
 have H1:H[h.size+1]? = some (limC bs):=by
  rw [hH,get_push_ne (by simp),get_push_ne (by simp)]
  have:=get_push_last (h:=h.push (.cells (xs.map uv).toArray 236)) (o:=.cells (bs.map uv).toArray 236)
  rw [Array.size_push] at this
  rw [this]; unfold limC; rw [List.append_nil]
 have H3:H[h.size+1+1+1]? = some (limC (tmat xs bs 0)):=by
  have:=get_push_last (h:=(((h.push (.cells (xs.map uv).toArray 236)).push (.cells (bs.map uv).toArray 236)).push (.cells #[.int .u64 0,.int .u64 0,.int .u64 0,.int .u64 0,.int .u64 0] 236))) (o:=.cells #[.int .u64 0,.int .u64 0,.int .u64 0,.int .u64 0,.int .u64 0] 236)
  rw [Array.size_push,Array.size_push,Array.size_push] at this
  rw [hH,this]; rfl
 have H2:H[h.size+1+1]? = some (limC [0,0,0,0,0]):=by
  have:=get_push_last (h:=((h.push (.cells (xs.map uv).toArray 236)).push (.cells (bs.map uv).toArray 236))) (o:=.cells #[.int .u64 0,.int .u64 0,.int .u64 0,.int .u64 0,.int .u64 0] 236)
  rw [Array.size_push,Array.size_push] at this
  rw [hH,get_push_ne (by simp),this]; rfl
 rw [← hH]
 clear hH
 obtain ⟨bo,hbo⟩:∃ bo,bo=h.size+1+1+1:=⟨_,rfl⟩
 obtain ⟨br,hbr⟩:∃ br,br=h.size+1+1:=⟨_,rfl⟩
 obtain ⟨bb,hbb⟩:∃ bb,bb=h.size+1:=⟨_,rfl⟩
 rw [← hbo] at H3 ⊢
 rw [← hbr] at H2 ⊢
 rw [← hbb] at H1 ⊢
 refine VS.loop' (fun F g=>F 3=.pointer (some ⟨bb,0,none⟩)∧F 4=.pointer (some ⟨br,0,none⟩)∧F 5=.pointer (some ⟨bo,0,none⟩)∧F 10=.agg (xs.map uv).toArray∧∃ i:Nat,i≤5∧F 11=.int .i64 i∧g=H.setIfInBounds bo (limC (tmat xs bs i)))
  (fun F _=>5 - (vi (F 11)).toNat) rfl ⟨rfl,rfl,rfl,rfl,0,by omega,rfl,(set_same H3).symm⟩ ?_
 rintro F g ⟨f3,f4,f5,f10,i,hi,f11,rfl⟩
 by_cases hlt:i<5
 ·have hlt':(i:Int)<5:=by omega
  have n1:=nth_uv (l:=xs) (i:=i) (by omega)
  have H1':(H.setIfInBounds bo (limC (tmat xs bs i)))[bb]? = some (limC bs):=by rw [Array.getElem?_setIfInBounds,if_neg (by omega)]; exact H1
  have r1:=rd_lim hb H1'
  have wA:=wa.getD (by omega) i
  have hrow:tmat xs bs (i+1)=trow (xs.getD i 0) bs (tmat xs bs i) i 5:=rfl
  obtain ⟨a,hax⟩:∃ a,a=xs.getD i 0:=⟨_,rfl⟩
  rw [← hax] at n1 wA hrow
  simp -implicitDefEqProofs (maxSteps:=2000000) only [go_sem,↓reduceIte,f3,f4,f5,f10,f11,hlt',Int.toNat_natCast,n1,r1]
  have wO:LtAll (1+i*450359962737049600) (tmat xs bs i):=tmat_lt wa wb i
  have lO:=tmat_length xs bs i
  obtain ⟨o,ho⟩:∃ o,o=tmat xs bs i:=⟨_,rfl⟩
  rw [← ho] at hrow wO lO ⊢
  refine VS.loop' (fun F g=>F 3=.pointer (some ⟨bb,0,none⟩)∧F 4=.pointer (some ⟨br,0,none⟩)∧F 5=.pointer (some ⟨bo,0,none⟩)∧F 10=.agg (xs.map uv).toArray∧F 11=.int .i64 i∧F 6=.int .i64 i∧F 7=.int .u64 a∧F 15=.agg (bs.map uv).toArray∧∃ k:Nat,k≤5∧F 16=.int .i64 k∧g=H.setIfInBounds bo (limC (trow a bs o i k)))
   (fun F _=>5 - (vi (F 16)).toNat) rfl ⟨f3,f4,f5,f10,f11,rfl,rfl,rfl,0,by omega,rfl,rfl⟩ ?_
  clear f3 f4 f5 f10 f11 F
  rintro F g ⟨f3,f4,f5,f10,f11,f6,f7,f15,k,hk,f16,rfl⟩
  by_cases hlk:k<5
  ·have hlk':(k:Int)<5:=by omega
   have n2:=nth_uv (l:=bs) (i:=k) (by omega)
   have wB:=wb.getD (by omega) k
   have hstep:trow a bs o i (k+1)=tstep a (bs.getD k 0) (trow a bs o i k) i k:=rfl
   obtain ⟨b,hbx⟩:∃ b,b=bs.getD k 0:=⟨_,rfl⟩
   rw [← hbx] at n2 wB hstep
   have wR:=trow_lt wO (by omega) wA wb (i:=i) k
   have lR:(trow a bs o i k).length=5:=by rw [trow_length,lO]
   have hx:(H.setIfInBounds bo (limC (trow a bs o i k)))[bo]? = some (limC (trow a bs o i k)):=cells_new H3
   have hp:=mul_bound wA wB
   have hp5:=mul_bound5 wA wB
   obtain ⟨r,hr⟩:∃ r,r=trow a bs o i k:=⟨_,rfl⟩
   rw [← hr] at hstep wR lR hx ⊢
   obtain ⟨G,hG⟩:∃ G,G=H.setIfInBounds bo (limC r):=⟨_,rfl⟩
   rw [← hG] at hx ⊢
   have eik:(i:Int)+(k:Int)=((i+k:Nat):Int):=rfl
   by_cases h5:i+k<5
   ·have h5':((i+k:Nat):Int)<5:=by omega
    have g1:=cells_get hx (i:=i+k) (by omega)
    have y1:=wR.getD (by omega) (i+k)
    unfold uv at g1
    have hs:tstep a b r i k=r.set (i+k) (r.getD (i+k) 0+a*b):=by unfold tstep; rw [if_pos h5]
    rw [hs] at hstep
    obtain ⟨y,hy⟩:∃ y,y=r.getD (i+k) 0:=⟨_,rfl⟩
    rw [← hy] at g1 y1 hstep
    have e1:(a:Int)*(b:Int)=((a*b:Nat):Int):=(Int.natCast_mul a b).symm
    have e2:((a*b:Nat):Int) % 18446744073709551616=((a*b:Nat):Int):=by omega
    obtain ⟨p,hp'⟩:∃ p,p=a*b:=⟨_,rfl⟩
    rw [← hp'] at e1 e2 hp hstep
    have e3:(y:Int)+(p:Int)=((y+p:Nat):Int):=rfl
    have e4:((y+p:Nat):Int) % 18446744073709551616=((y+p:Nat):Int):=by omega
    have c1:wr1 G ⟨bo,i+k,none⟩ (.int .u64 (y+p:Nat))=_:=cells_set (f:=uv) hx (i:=i+k) (by omega) (y+p) rfl
    simp -implicitDefEqProofs (maxSteps:=2000000) only [go_sem,↓reduceIte,f3,f4,f5,f6,f7,f10,f11,f15,f16,hlk',Int.toNat_natCast,n2,eik,h5',g1,e1,e2,e3,e4,c1]
    refine ⟨⟨f3,f4,f5,f10,f11,f6,f7,f15,k+1,hlk,rfl,?_⟩,?_⟩
    ·rw [hG,set_set,hstep]; rfl
    ·simp only [vi,updo_some,↓reduceIte,f16]; omega
   ·have h5':¬ ((i+k:Nat):Int)<5:=by omega
    have g1:=cells_get hx (i:=i+k - 5) (by omega)
    have y1:=wR.getD (by omega) (i+k - 5)
    unfold uv at g1
    have hs:tstep a b r i k=r.set (i+k - 5) (r.getD (i+k - 5) 0+5*a*b):=by unfold tstep; rw [if_neg h5]
    rw [hs] at hstep
    obtain ⟨y,hy⟩:∃ y,y=r.getD (i+k - 5) 0:=⟨_,rfl⟩
    rw [← hy] at g1 y1 hstep
    have e0:(5:Int)*(a:Int)=((5*a:Nat):Int):=rfl
    have e0':((5*a:Nat):Int) % 18446744073709551616=((5*a:Nat):Int):=by omega
    have e1:((5*a:Nat):Int)*(b:Int)=((5*a*b:Nat):Int):=(Int.natCast_mul (5*a) b).symm
    have e2:((5*a*b:Nat):Int) % 18446744073709551616=((5*a*b:Nat):Int):=by omega
    obtain ⟨p,hp'⟩:∃ p,p=5*a*b:=⟨_,rfl⟩
    rw [← hp'] at e1 e2 hp5 hstep
    have e3:(y:Int)+(p:Int)=((y+p:Nat):Int):=rfl
    have e4:((y+p:Nat):Int) % 18446744073709551616=((y+p:Nat):Int):=by omega
    have e5:((i+k:Nat):Int) - 5=((i+k - 5:Nat):Int):=by omega
    have e6:((i+k - 5:Nat):Int)<5:=by omega
    have c1:wr1 G ⟨bo,i+k - 5,none⟩ (.int .u64 (y+p:Nat))=_:=cells_set (f:=uv) hx (i:=i+k - 5) (by omega) (y+p) rfl
    simp -implicitDefEqProofs (maxSteps:=2000000) only [go_sem,↓reduceIte,f3,f4,f5,f6,f7,f10,f11,f15,f16,hlk',Int.toNat_natCast,n2,eik,h5',g1,e0,e0',e1,e2,e3,e4,e5,e6,c1]
    refine ⟨⟨f3,f4,f5,f10,f11,f6,f7,f15,k+1,hlk,rfl,?_⟩,?_⟩
    ·rw [hG,set_set,hstep]; rfl
    ·simp only [vi,updo_some,↓reduceIte,f16]; omega
  ·have hge:¬ (k:Int)<5:=by omega
   obtain rfl:k=5:=by omega
   have c5:((5:Nat):Int)=5:=rfl
   rw [c5] at f16 hge
   simp -implicitDefEqProofs (maxSteps:=2000000) only [go_sem,↓reduceIte,f3,f4,f5,f10,f11,f16,hge]
   refine ⟨⟨f3,f4,f5,f10,i+1,hlt,rfl,?_⟩,?_⟩
   ·rw [hrow]
   ·simp only [vi,updo_some,↓reduceIte,f11]; omega
 ·have hge:¬ (i:Int)<5:=by omega
  obtain rfl:i=5:=by omega
  have c5:((5:Nat):Int)=5:=rfl
  rw [c5] at f11 hge
  have hx:(H.setIfInBounds bo (limC (tmat xs bs 5)))[bo]? = some (limC (tmat xs bs 5)):=cells_new H3
  have hx2:(H.setIfInBounds bo (limC (tmat xs bs 5)))[br]? = some (limC [0,0,0,0,0]):=by rw [Array.getElem?_setIfInBounds,if_neg (by omega)]; exact H2
  have HB2:Bel h.size h (H.setIfInBounds bo (limC (tmat xs bs 5))):=HB.addSet (by omega) _
  obtain ⟨w1,w2,w3⟩:=times_law ha hb wa wb
  obtain ⟨o,ho⟩:∃ o,o=tmat xs bs 5:=⟨_,rfl⟩
  rw [← ho] at hx hx2 HB2 w1 w2 ⊢
  generalize H.setIfInBounds bo (limC o)=G at *
  simp -implicitDefEqProofs (maxSteps:=2000000) only [go_sem,↓reduceIte,f3,f4,f5,f10,f11,hge]
  refine (carry_ok T G bo o w2 w1 hx).use ?_
  rintro _ _ rfl
  obtain ⟨m1,m2,m3⟩:=carry_law w2 w1
  have hx3:(G.setIfInBounds bo (limC (carryL o)))[bo]? = some (limC (carryL o)):=cells_new hx
  have hx4:(G.setIfInBounds bo (limC (carryL o)))[br]? = some (limC [0,0,0,0,0]):=by rw [Array.getElem?_setIfInBounds,if_neg (by omega)]; exact hx2
  have HB3:Bel h.size h (G.setIfInBounds bo (limC (carryL o))):=HB2.addSet (by omega) _
  generalize G.setIfInBounds bo (limC (carryL o))=G2 at *
  have r3:=rd_lim m1 hx3
  have lc:((carryL o).map uv).length=5:=by simpa using m1
  have w4:=wr_get (h:=G2) (b:=br) (l:=([0,0,0,0,0].map uv)) (by unfold limC at hx4; rw [List.append_nil] at hx4; exact hx4) 0 ((carryL o).map uv)
  have ho4:((carryL o).map uv).all oneC=true:=by simp [uv,oneC]
  rw [if_pos ⟨by simp [lc],ho4⟩,lput_full (by simp [lc])] at w4
  have tc:((carryL o).map uv).take 5=(carryL o).map uv:=List.take_of_length_le (by omega)
  have hlr:=lt_of_get hx4
  simp -implicitDefEqProofs (maxSteps:=2000000) only [go_sem,↓reduceIte,f3,f4,f5,r3,w4,lc,tc,hlr]
  exact HB3.addSet (by omega) _
theorem limWhole_ok (T:World) (h:Hp) (xs:List Nat) (ha:xs.length=5) (wa:LtAll 268435456 xs) :
  CallsH Tryz.prog T 146 #[.agg (xs.map uv).toArray] h fun v' h'=>v'=.agg ((wholeL (carryL xs)).map uv).toArray∧Bel h.size h h':=by
 have la:(xs.map uv).length=5:=by simpa using ha
 refine CallsH.of_code' (args:=[_]) Tryz.func146 rfl rfl rfl rfl ?_
 simp -implicitDefEqProofs (maxSteps:=2000000) only [go_sem,↓reduceIte,la]
 obtain ⟨H,hH⟩:∃ H:Hp,H=((h.push (.cells (xs.map uv).toArray 236)).push (.cells #[.int .u64 0,.int .u64 0,.int .u64 0,.int .u64 0,.int .u64 0] 236)):=⟨_,rfl⟩
 have HB:Bel h.size h H:=by rw [hH]; exact ((Bel.push (Nat.le_refl _) _).addP (by simp) _)
 have Hs:H.size=h.size+1+1:=by rw [hH]; simp
 have H0:H[h.size]? = some (limC xs):=by
  rw [hH,get_push_ne (by simp),get_push_last]; unfold limC; rw [List.append_nil]
 have H1:H[h.size+1]? = some (limC [0,0,0,0,0]):=by
  have:=get_push_last (h:=(h.push (.cells (xs.map uv).toArray 236))) (o:=.cells #[.int .u64 0,.int .u64 0,.int .u64 0,.int .u64 0,.int .u64 0] 236)
  rw [Array.size_push] at this
  rw [hH,this]; rfl
 rw [← hH]
 clear hH
 refine (carry_ok T H h.size xs ha (wa.mono (by decide)) H0).use ?_
 rintro _ _ rfl
 obtain ⟨m1,m2,m3,m4⟩:=carry_law ha (wa.mono (by decide))
 have hx0:(H.setIfInBounds h.size (limC (carryL xs)))[h.size]? = some (limC (carryL xs)):=cells_new H0
 have hx1:(H.setIfInBounds h.size (limC (carryL xs)))[h.size+1]? = some (limC [0,0,0,0,0]):=by rw [Array.getElem?_setIfInBounds,if_neg (by omega)]; exact H1
 have HB2:Bel h.size h (H.setIfInBounds h.size (limC (carryL xs))):=HB.addSet (Nat.le_refl _) _
 have Hs2:(H.setIfInBounds h.size (limC (carryL xs))).size=h.size+1+1:=by rw [Array.size_setIfInBounds]; exact Hs
 obtain ⟨m,hm⟩:∃ m,m=carryL xs:=⟨_,rfl⟩
 rw [← hm] at hx0 hx1 HB2 Hs2 m1 m2 m3 m4 ⊢
 generalize H.setIfInBounds h.size (limC m)=G at *
 have r0:=rd_lim m1 hx0
 have lm:(m.map uv).length=5:=by simpa using m1
 have hom:(m.map uv).all oneC=true:=by simp [uv,oneC]
 have lp:lput [Value.int .u64 0,.int .u64 0,.int .u64 0,.int .u64 0,.int .u64 0] 0 (m.map uv)=m.map uv:=lput_full lm
 have n0:=nth_uv (l:=m) (i:=0) (by omega)
 have y0:=m2.getD (by omega) 0
 have hw0:ywh m 0=m.set 0 (m.getD 0 0+5):=rfl
 obtain ⟨y,hy⟩:∃ y,y=m.getD 0 0:=⟨_,rfl⟩
 rw [← hy] at n0 y0 hw0
 have e1:(y:Int)+5=((y+5:Nat):Int):=rfl
 have e2:((y+5:Nat):Int) % 18446744073709551616=((y+5:Nat):Int):=by omega
 simp -implicitDefEqProofs (maxSteps:=2000000) only [go_sem,↓reduceIte,r0,lm,hom,Hs2,lp,n0,e1,e2]
 have hms:(m.map uv).set 0 (.int .u64 (y+5:Nat))=(m.set 0 (y+5)).map uv:=by rw [List.map_set]; rfl
 rw [hms,← hw0]
 obtain ⟨J,hJ⟩:∃ J,J=G.push (.cells ((ywh m 0).map uv).toArray 236):=⟨_,rfl⟩
 have J3:J[h.size+1+1]? = some (limC (ywh m 0)):=by
  rw [hJ,← Hs2,get_push_last]; unfold limC; rw [List.append_nil]
 have J0:J[h.size]? = some (limC m):=by rw [hJ,get_push_ne (by omega)]; exact hx0
 have J1:J[h.size+1]? = some (limC [0,0,0,0,0]):=by rw [hJ,get_push_ne (by omega)]; exact hx1
 have JB:Bel h.size h J:=by rw [hJ]; exact HB2.addP (by omega) _
 rw [← hJ]
 clear hJ
 obtain ⟨b3,hb3⟩:∃ b,b=h.size+1+1:=⟨_,rfl⟩
 obtain ⟨b2,hb2⟩:∃ b,b=h.size+1:=⟨_,rfl⟩
 rw [← hb3] at J3 ⊢
 rw [← hb2] at J1 ⊢
 refine VS.loop' (fun F g=>F 1=.pointer (some ⟨h.size,0,none⟩)∧F 2=.pointer (some ⟨b2,0,none⟩)∧F 3=.pointer (some ⟨b3,0,none⟩)∧∃ i:Nat,i≤4∧F 11=.int .i64 i∧g=J.setIfInBounds b3 (limC (ywh m i)))
  (fun F _=>4 - (vi (F 11)).toNat) rfl ⟨rfl,rfl,rfl,0,by omega,rfl,(set_same J3).symm⟩ ?_
 rintro F g ⟨f1,f2,f3,i,hi,f11,rfl⟩
 have hx:(J.setIfInBounds b3 (limC (ywh m i)))[b3]? = some (limC (ywh m i)):=cells_new J3
 have wY:=ywh_lt m2 i (by omega)
 have lY:(ywh m i).length=5:=by rw [ywh_length,m1]
 by_cases hlt:i<4
 ·have hlt':(i:Int)<4:=by omega
  have hnext:ywh m (i+1)=((ywh m i).set (i+1) ((ywh m i).getD (i+1) 0+(ywh m i).getD i 0 / 67108864)).set i ((ywh m i).getD i 0 % 67108864):=rfl
  obtain ⟨r,hr⟩:∃ r,r=ywh m i:=⟨_,rfl⟩
  rw [← hr] at hx wY lY hnext ⊢
  obtain ⟨G1,hG1⟩:∃ G1,G1=J.setIfInBounds b3 (limC r):=⟨_,rfl⟩
  rw [← hG1] at hx ⊢
  have g1:=cells_get hx (i:=i+1) (by omega)
  have g0:=cells_get hx (i:=i) (by omega)
  have q1:=wY.getD (by omega) (i+1)
  have q0:=wY.getD (by omega) i
  unfold uv at g0 g1
  obtain ⟨a,hax⟩:∃ a,a=r.getD i 0:=⟨_,rfl⟩
  obtain ⟨b,hbx⟩:∃ b,b=r.getD (i+1) 0:=⟨_,rfl⟩
  rw [← hax] at g0 q0 hnext
  rw [← hbx] at g1 q1 hnext
  have s1:=shr26 a
  have s2:=mask26 a (by omega)
  have t1:(b:Int)+((a / 67108864:Nat):Int)=((b+a / 67108864:Nat):Int):=rfl
  have t2:((b+a / 67108864:Nat):Int) % 18446744073709551616=((b+a / 67108864:Nat):Int):=by omega
  have ei:(i:Int)+1=((i+1:Nat):Int):=rfl
  have hi5:((i+1:Nat):Int)<5:=by omega
  have hi5':(i:Int)<5:=by omega
  have c1:wr1 G1 ⟨b3,i+1,none⟩ (.int .u64 (b+a / 67108864:Nat))=_:=cells_set (f:=uv) hx (i:=i+1) (by omega) (b+a / 67108864) rfl
  have hy1:=cells_new (o:=.cells ((r.set (i+1) (b+a / 67108864)).map uv++[]).toArray 236) hx
  have l1:(r.set (i+1) (b+a / 67108864)).length=5:=by rw [List.length_set,lY]
  have v1:(r.set (i+1) (b+a / 67108864)).getD i 0=a:=by rw [getD_set_ne' (by omega),← hax]
  obtain ⟨r1,hr1⟩:∃ r1,r1=r.set (i+1) (b+a / 67108864):=⟨_,rfl⟩
  rw [← hr1] at c1 hy1 l1 v1 hnext
  obtain ⟨G2,hG2⟩:∃ G2,G2=G1.setIfInBounds b3 (.cells (r1.map uv++[]).toArray 236):=⟨_,rfl⟩
  rw [← hG2] at c1 hy1
  have g2:=cells_get hy1 (i:=i) (by omega)
  unfold uv at g2
  rw [v1] at g2
  have c2:wr1 G2 ⟨b3,i,none⟩ (.int .u64 (a % 67108864:Nat))=_:=cells_set (f:=uv) hy1 (i:=i) (by omega) (a % 67108864) rfl
  simp -implicitDefEqProofs (maxSteps:=2000000) only [go_sem,↓reduceIte,f1,f2,f3,f11,hlt']
  refine VS.w (b3+1) [10] (.q 0 (.q 1 (.q 2 (.q 3 (.q 4 (.q 5 (.q 6 (.q 7 (.q 8 (.q 9 (.w 10 .nil))))))))))) mixed (by kernel_rfl) ?_
  simp -implicitDefEqProofs (maxSteps:=2000000) only [go_sem,↓reduceIte,f1,f2,f3,f11,ei,hi5,hi5',Int.toNat_natCast,Nat.zero_add,g0,g1,s1,t1,t2,c1,g2,s2,c2]
  refine ⟨⟨f1,f2,f3,i+1,hlt,rfl,?_⟩,?_⟩
  ·rw [hG2,set_set,hG1,set_set,hnext]; rfl
  ·simp only [vi,updo_some,↓reduceIte,f11]; omega
 ·have hge:¬ (i:Int)<4:=by omega
  obtain rfl:i=4:=by omega
  have c4:((4:Nat):Int)=4:=rfl
  rw [c4] at f11 hge
  have hW:wholeL m=if (ywh m 4).getD 4 0 / 67108864=0 then m else (ywh m 4).set 4 ((ywh m 4).getD 4 0 % 67108864):=rfl
  have hy0:(J.setIfInBounds b3 (limC (ywh m 4)))[h.size]? = some (limC m):=by rw [Array.getElem?_setIfInBounds,if_neg (by omega)]; exact J0
  have hy1:(J.setIfInBounds b3 (limC (ywh m 4)))[b2]? = some (limC [0,0,0,0,0]):=by rw [Array.getElem?_setIfInBounds,if_neg (by omega)]; exact J1
  have HB3:Bel h.size h (J.setIfInBounds b3 (limC (ywh m 4))):=JB.addSet (by omega) _
  obtain ⟨r,hr⟩:∃ r,r=ywh m 4:=⟨_,rfl⟩
  rw [← hr] at hx wY lY hy0 hy1 HB3 hW ⊢
  generalize J.setIfInBounds b3 (limC r)=G1 at *
  have g4:=cells_get hx (i:=4) (by omega)
  have q4:=wY.getD (by omega) 4
  unfold uv at g4
  obtain ⟨a,hax⟩:∃ a,a=r.getD 4 0:=⟨_,rfl⟩
  rw [← hax] at g4 q4 hW
  have s1:=shr26 a
  have s2:=mask26 a (by omega)
  have w4:=fun (k:List Nat) (hk:k.length=5)=>wr_get (h:=G1) (b:=b2) (l:=([0,0,0,0,0].map uv)) (by unfold limC at hy1; rw [List.append_nil] at hy1; exact hy1) 0 (k.map uv)
  have h2s:=lt_of_get hy1
  by_cases h0:a / 67108864=0
  ·have h0':((a / 67108864:Nat):Int)=0:=by omega
   rw [if_pos h0] at hW
   have w5:=w4 m m1
   rw [if_pos ⟨by simp [lm],hom⟩,lput_full (by simp [lm])] at w5
   have r1:=rd_lim m1 hy0
   have tm:(m.map uv).take 5=m.map uv:=List.take_of_length_le (by omega)
   simp -implicitDefEqProofs (maxSteps:=2000000) only [go_sem,↓reduceIte,f1,f2,f3,f11,hge,g4,s1,h0',r1,w5,lm,tm,h2s]
   exact ⟨by rw [hW],HB3.addSet (by omega) _⟩
  ·have h0':¬ ((a / 67108864:Nat):Int)=0:=by omega
   rw [if_neg h0] at hW
   have c1:wr1 G1 ⟨b3,4,none⟩ (.int .u64 (a % 67108864:Nat))=_:=cells_set (f:=uv) hx (i:=4) (by omega) (a % 67108864) rfl
   have hz:=cells_new (o:=.cells ((r.set 4 (a % 67108864)).map uv++[]).toArray 236) hx
   have l1:(r.set 4 (a % 67108864)).length=5:=by rw [List.length_set,lY]
   have HB4:Bel h.size h (G1.setIfInBounds b3 (.cells ((r.set 4 (a % 67108864)).map uv++[]).toArray 236)):=HB3.addSet (by omega) _
   have hz2:(G1.setIfInBounds b3 (.cells ((r.set 4 (a % 67108864)).map uv++[]).toArray 236))[b2]? = some (limC [0,0,0,0,0]):=by rw [Array.getElem?_setIfInBounds,if_neg (by omega)]; exact hy1
   rw [hW]
   obtain ⟨r1,hr1⟩:∃ r1,r1=r.set 4 (a % 67108864):=⟨_,rfl⟩
   rw [← hr1] at c1 hz l1 HB4 hz2 ⊢
   generalize G1.setIfInBounds b3 (.cells (r1.map uv++[]).toArray 236)=G2 at *
   have r4:=rd_lim l1 hz
   have lr:(r1.map uv).length=5:=by simpa using l1
   have hor:(r1.map uv).all oneC=true:=by simp [uv,oneC]
   have w5:=wr_get (h:=G2) (b:=b2) (l:=([0,0,0,0,0].map uv)) (by unfold limC at hz2; rw [List.append_nil] at hz2; exact hz2) 0 (r1.map uv)
   rw [if_pos ⟨by simp [lr],hor⟩,lput_full (by simp [lr])] at w5
   have tm:(r1.map uv).take 5=r1.map uv:=List.take_of_length_le (by omega)
   have h2s':=lt_of_get hz2
   simp -implicitDefEqProofs (maxSteps:=2000000) only [go_sem,↓reduceIte,f1,f2,f3,f11,hge,g4,s1,s2,h0',Nat.zero_add,c1,r4,w5,lr,tm,h2s']
   exact HB4.addSet (by omega) _
def clampD (key:List Nat) (i:Nat):Nat:=if i % 4=3 then key.getD i 0 % 16 else if i % 4=0∧0<i then key.getD i 0 / 4*4 else key.getD i 0
def clampL (key:List Nat):List Nat:=(List.range 16).map (clampD key)
def blkD (data:List Nat) (k:Nat):List Nat:=(data.drop (16*k)).take 16++[1]
def accN (r:Nat) (data:List Nat):Nat→Nat
 | 0=>0
 | k+1=>(accN r data k+valD (blkD data k))*r % P130
def tagN (key data:List Nat):Nat:=accN (valD (clampL key)) data ((data.length+15) / 16)+valD ((key.drop 16).take 16)
def tagL (key data:List Nat):List Nat:=(List.range 16).map fun i=>tagN key data / 256 ^ i % 256
theorem clampL_length (key:List Nat):(clampL key).length=16:=by simp [clampL]
theorem tagL_length (key data:List Nat):(tagL key data).length=16:=by simp [tagL]
theorem Bs_take {h:Hp} {p:Option Addr} {c n:Nat} {l:List Nat} (s:Bs h (.slice p n c) l) {m:Nat} (hm:m≤l.length) (c':Nat):Bs h (.slice p m c') (l.take m):=by
 refine ⟨?_,fun x hx=>s.byte x (List.mem_of_mem_take hx)⟩
 obtain ⟨p',cap,hv,hl,hc⟩:=s.sl
 simp only [Value.slice.injEq] at hv
 obtain ⟨rfl,_,rfl⟩:=hv
 refine ⟨_,c',by rw [List.length_take,Nat.min_eq_left hm],by simp,fun hne=>?_⟩
 obtain ⟨b,o,rfl,hcs⟩:=hc (by intro e; simp at e; subst e; simp at hne)
 refine ⟨b,o,rfl,fun i hi=>?_⟩
 have hi':i<m∧i<l.length:=by rw [List.length_map,List.length_take] at hi; omega
 rw [hcs i (by simp; omega)]
 simp
theorem Bs_mid {h:Hp} {p:Option Addr} {c n:Nat} {l:List Nat} (s:Bs h (.slice p n c) l) (hn:l.length=n) {k m:Nat} (hk:k+m≤n) (hcap:n≤c) (c':Nat):Bs h (.slice (subA p 1 c k) m c') ((l.drop k).take m):=
 Bs_take (Bs_back s hn (k:=k) (by omega) hcap c') (by rw [List.length_drop]; omega) c'
def tagErr (key data:List Nat):Int:=if key.length≠32∨4000<data.length then 1 else 0
def TagRes (B:Nat) (h:Hp) (v:Value) (key data:List Nat):Prop:=∃ w,v=.tuple #[w,.int .i64 (tagErr key data)]∧OBs B 5 h w (if tagErr key data=0 then tagL key data else [])
def storeK:List (Option IntKind):=rep 32 [some .i64]++rep 8 [none]
theorem fitK_set:∀ {ks:List (Option IntKind)} {vs:List Value} (i:Nat) (v:Value),fitK ks vs=true→(∀ k,ks[i]? = some k→cellOk k v=true)→fitK ks (vs.set i v)=true:=by
 intro ks
 induction ks with
 | nil=>intro vs i v h _; cases vs <;> simp [fitK] at h ⊢
 | cons k ks ih=>
  intro vs i v h hk
  cases vs with
  | nil=>simp [fitK] at h
  | cons x vs=>
   simp only [fitK,Bool.and_eq_true] at h
   cases i with
   | zero=>simp only [List.set_cons_zero,fitK,Bool.and_eq_true]; exact ⟨hk k rfl,h.2⟩
   | succ i=>simp only [List.set_cons_succ,fitK,Bool.and_eq_true]; exact ⟨h.1,ih i v h.2 (fun k' hk'=>hk k' (by simpa using hk'))⟩
theorem storeK_int {i:Nat} (hi:i<32) (n:Int):∀ k,storeK[i]? = some k→cellOk k (.int .i64 n)=true:=by
 intro k hk
 have:∀ i<32,storeK[i]? = some (some .i64):=by decide
 rw [this i hi] at hk
 obtain rfl:=Option.some.inj hk
 rfl
theorem storeK_bool {i:Nat} (h1:32≤i) (b:Bool):∀ k,storeK[i]? = some k→cellOk k (.bool b)=true:=by
 intro k hk
 have:∀ j<8,storeK[32+j]? = some none:=by decide
 by_cases h2:i<40
 ·have:=this (i - 32) (by omega)
  rw [show 32+(i - 32)=i by omega] at this
  rw [this] at hk
  obtain rfl:=Option.some.inj hk
  rfl
 ·rw [List.getElem?_eq_none (by show 40≤i; omega)] at hk; cases hk
theorem set_back {g:Hp} {b:Nat} {o:Obj} (hx:g[b]? = some o):g.setIfInBounds b o=g:=by
 apply Array.ext_getElem?
 intro i
 rw [Array.getElem?_setIfInBounds]
 by_cases hb:b=i
 ·subst hb; rw [if_pos rfl,if_pos (lt_of_get hx),hx]
 ·rw [if_neg hb]
structure Done where
 cells:List Value
 code:Int
 val:Int
def actS (cs:List Value) (k c n v:Nat):List Value × Int:=
 if k=1 then (cs.set n (.int .i64 v),v) else if k=2 then (cs,ci cs n) else (cs.set (32+n) (.bool true),0)
def doneS (cs:List Value) (k c s n v:Nat):Done:=
 if k=0 then ⟨cs,0,0⟩ else
 if (s:Int)+1=ci cs (8+c) then ⟨cs,ci cs (16+c*2),ci cs (16+c*2+1)⟩ else
 if (s:Int)<ci cs (8+c) then ⟨cs,7,0⟩ else
 if cb cs (32+c)=true then ⟨cs,11,0⟩ else
 ⟨((((actS cs k c n v).1.set (8+c) (.int .i64 ((s:Int)+1))).set (16+c*2) (.int .i64 0)).set (16+c*2+1) (.int .i64 (actS cs k c n v).2)),0,(actS cs k c n v).2⟩
def doErr (cs:List Value) (k c s n v:Int):Int:=if storeBad cs=true then 5 else cmdErr k c s n v
def storeZ:List Value:=rep 32 [Value.int .i64 0]++rep 8 [Value.bool false]
def doL (cs:List Value) (k c s n v:Int):List Value:=
 if doErr cs k c s n v=0 then [.agg (doneS cs k.toNat c.toNat s.toNat n.toNat v.toNat).cells.toArray,.agg [.int .i64 (doneS cs k.toNat c.toNat s.toNat n.toNat v.toNat).code,.int .i64 (doneS cs k.toNat c.toNat s.toNat n.toNat v.toNat).val].toArray,.int .i64 0]
  else [.agg storeZ.toArray,.agg [.int .i64 0,.int .i64 0].toArray,.int .i64 (doErr cs k c s n v)]
def DoRes (v':Value) (cs:List Value) (k c s n v:Int):Prop:=v'=.tuple (doL cs k c s n v).toArray
theorem cmdErr_small {k c s n v:Int} (h:cmdErr k c s n v=0):∃ k' c' s' n' v':Nat,k=k'∧c=c'∧s=s'∧n=n'∧v=v'∧k'≤3∧c'≤7∧s'≤1048576∧n'≤7∧v'≤1073741824:=by
 have:0≤k∧k≤3∧0≤c∧c≤7∧0≤s∧s≤1048576∧0≤n∧n≤7∧0≤v∧v≤1073741824:=by
  unfold cmdErr at h
  repeat' split at h
  all_goals omega
 exact ⟨k.toNat,c.toNat,s.toNat,n.toNat,v.toNat,by omega,by omega,by omega,by omega,by omega,by omega,by omega,by omega,by omega,by omega⟩
theorem ci_set_ne {cs:List Value} {i j:Nat} {x:Value} (h:i≠j):ci (cs.set i x) j=ci cs j:=by
 unfold ci
 rw [nth_eq,nth_eq,List.getElem?_set_ne h]
theorem ints_set {cs:List Value} {j:Nat} (hj:j<cs.length) (x:Int) (hi:∀ i,i<32→nth cs i=some (.int .i64 (ci cs i))):∀ i,i<32→nth (cs.set j (.int .i64 x)) i=some (.int .i64 (ci (cs.set j (.int .i64 x)) i)):=by
 intro i h32
 by_cases e:j=i
 ·subst e
  have:nth (cs.set j (.int .i64 x)) j=some (.int .i64 x):=by rw [nth_eq,List.getElem?_set_self hj]
  unfold ci
  rw [this]
 ·rw [ci_set_ne e,nth_eq,List.getElem?_set_ne e,← nth_eq]; exact hi i h32
theorem actS_last (cs:List Value) (k c n v:Nat) (x:Value) (hn:n≤7) (hc:c≤7):actS (cs.set (8+c) x) k c n v=((actS cs k c n v).1.set (8+c) x,(actS cs k c n v).2):=by
 unfold actS
 by_cases k1:k=1
 ·rw [if_pos k1,if_pos k1,List.set_comm _ _ (by omega)]
 ·rw [if_neg k1,if_neg k1]
  by_cases k2:k=2
  ·rw [if_pos k2,if_pos k2,ci_set_ne (by omega)]
  ·rw [if_neg k2,if_neg k2,List.set_comm _ _ (by omega)]
theorem actS_fit {cs:List Value} (hf:fitK storeK cs=true) (k c n v:Nat) (hn:n≤7):fitK storeK (actS cs k c n v).1=true:=by
 unfold actS
 by_cases k1:k=1
 ·rw [if_pos k1]; exact fitK_set n _ hf (storeK_int (by omega) _)
 ·rw [if_neg k1]
  by_cases k2:k=2
  ·rw [if_pos k2]; exact hf
  ·rw [if_neg k2]; exact fitK_set (32+n) _ hf (storeK_bool (by omega) _)
theorem doneS_fit {cs:List Value} (hf:fitK storeK cs=true) (k c s n v:Nat) (hn:n≤7) (hc:c≤7):fitK storeK (doneS cs k c s n v).cells=true:=by
 unfold doneS
 repeat' split
 all_goals first | exact hf | skip
 exact fitK_set _ _ (fitK_set _ _ (fitK_set _ _ (actS_fit hf k c n v hn) (storeK_int (by omega) _)) (storeK_int (by omega) _)) (storeK_int (by omega) _)
theorem vaultAct_ok (T:World) (h:Hp) (b:Nat) (cs:List Value) (k c s n v:Nat) (hl:cs.length=40) (hi:∀ i,i<32→nth cs i=some (.int .i64 (ci cs i))) (hn:n≤7) (hk:1≤k) (hk3:k≤3) (hx:h[b]? = some (.cells cs.toArray 72)) :
  CallsH Tryz.prog T 60 #[.pointer (some ⟨b,0,none⟩),.agg (cmdC k c s n v).toArray] h fun v' h'=>v'=.agg [.int .i64 0,.int .i64 (actS cs k c n v).2].toArray∧Bel h.size (h.setIfInBounds b (.cells (actS cs k c n v).1.toArray 72)) h':=by
 refine CallsH.of_code' (args:=[_,_]) Tryz.func60 rfl rfl rfl rfl ?_
 have hb:=lt_of_get hx
 have hn8:(n:Int)<8:=by omega
 unfold cmdC actS
 by_cases k1:k=1
 ·subst k1
  simp +contextual -implicitDefEqProofs (maxSteps:=2000000) only [go_sem,↓reduceIte]
  refine VS.w (h.size+2) [8] (.q 0 (.q 1 (.q 2 (.q 3 (.q 4 (.q 5 (.q 6 (.q 7 (.w 8 .nil))))))))) mixed (by kernel_rfl) ?_
  have w1:=wr1_get hx n (.int .i64 v)
  rw [if_pos ⟨by omega,rfl⟩] at w1
  have nn:nth (cs.set n (.int .i64 (v:Int))) n=some (.int .i64 v):=by rw [nth_eq,List.getElem?_set_self (by omega)]
  simp +contextual -implicitDefEqProofs (maxSteps:=2000000) only [go_sem,↓reduceIte,hn8,w1,hb]
  refine VS.w (h.size+2) [8] (.q 0 (.q 1 (.q 2 (.q 3 (.q 4 (.q 5 (.q 6 (.q 7 (.w 8 .nil))))))))) mixed (by kernel_rfl) ?_
  simp +contextual -implicitDefEqProofs (maxSteps:=2000000) only [go_sem,↓reduceIte,hn8,hb,nn]
  try exact ((Bel.push (by simp) _).addP (by simp) _)
 ·by_cases k2:k=2
  ·subst k2
   have nn:=hi n (by omega)
   have x1:hc h ⟨b,n,none⟩=some (.int .i64 (ci cs n)):=by rw [hc_last hx]; exact nn
   have hsb:=set_back hx
   simp +contextual -implicitDefEqProofs (maxSteps:=2000000) only [go_sem,↓reduceIte,hsb]
   refine VS.w (h.size+2) [8] (.q 0 (.q 1 (.q 2 (.q 3 (.q 4 (.q 5 (.q 6 (.q 7 (.w 8 .nil))))))))) mixed (by kernel_rfl) ?_
   simp +contextual -implicitDefEqProofs (maxSteps:=2000000) only [go_sem,↓reduceIte,hn8,hb,x1]
  ·have k3:k=3:=by omega
   subst k3
   have w1:=wr1_get hx (32+n) (.bool true)
   rw [if_pos ⟨by omega,rfl⟩] at w1
   simp +contextual -implicitDefEqProofs (maxSteps:=2000000) only [go_sem,↓reduceIte]
   refine VS.w (h.size+2) [6] (.q 0 (.q 1 (.q 2 (.q 3 (.q 4 (.q 5 (.w 6 .nil))))))) mixed (by kernel_rfl) ?_
   simp +contextual -implicitDefEqProofs (maxSteps:=2000000) only [go_sem,↓reduceIte,hn8,w1,hb]
   try exact ((Bel.push (by simp) _).addP (by simp) _)
theorem vaultDo_ok (T:World) (h:Hp) (cs:List Value) (k c s n v:Int) (hf:fitK storeK cs=true) (hi:∀ i,i<32→nth cs i=some (.int .i64 (ci cs i))) (hb:∀ i,32≤i→i<40→nth cs i=some (.bool (cb cs i))) :
  CallsH Tryz.prog T 37 #[.agg cs.toArray,.agg (cmdC k c s n v).toArray] h fun v' h'=>DoRes v' cs k c s n v∧Bel h.size h h':=by
 have hl:cs.length=40:=fitK_length hf
 have tk:=take_len hl
 have hone:=fitK_one hf
 refine CallsH.of_code2 (args:=[_,_]) Tryz.func37 rfl rfl rfl rfl ?_
 unfold cmdC
 simp +contextual -implicitDefEqProofs (maxSteps:=2000000) only [go_sem,↓reduceIte,hl,tk]
 refine (vcheck_ok T _ cs hl hi).use ?_
 rintro _ _ ⟨rfl,rfl⟩
 unfold DoRes doL doErr
 by_cases e1:storeBad cs=true
 ·simp +contextual -implicitDefEqProofs (maxSteps:=2000000) only [go_sem,↓reduceIte,e1]
  refine ⟨rfl,?_⟩
  (repeat' (first | exact Bel.refl _ _ | assumption | refine Bel.add ?_ _ | refine Bel.addSet ?_ (by first | omega | (simp; omega)) _ | refine Bel.trans (by assumption) ?_))
 ·have e1:storeBad cs=false:=by simpa using e1
  simp +contextual -implicitDefEqProofs (maxSteps:=2000000) only [go_sem,↓reduceIte,e1]
  refine (orderCheck_ok T _ k c s n v).use ?_
  rintro _ _ ⟨rfl,rfl⟩
  unfold cmdC
  by_cases e2:cmdErr k c s n v=0
  ·obtain ⟨k,c,s,n,v,rfl,rfl,rfl,rfl,rfl,y1,y2,y3,y4,y5⟩:=cmdErr_small e2
   simp only [Int.toNat_natCast]
   have hcl:storeZ=[.int .i64 0,.int .i64 0,.int .i64 0,.int .i64 0,.int .i64 0,.int .i64 0,.int .i64 0,.int .i64 0,.int .i64 0,.int .i64 0,.int .i64 0,.int .i64 0,.int .i64 0,.int .i64 0,.int .i64 0,.int .i64 0,.int .i64 0,.int .i64 0,.int .i64 0,.int .i64 0,.int .i64 0,.int .i64 0,.int .i64 0,.int .i64 0,.int .i64 0,.int .i64 0,.int .i64 0,.int .i64 0,.int .i64 0,.int .i64 0,.int .i64 0,.int .i64 0,.bool false,.bool false,.bool false,.bool false,.bool false,.bool false,.bool false,.bool false]:=rfl
   obtain ⟨H,hH⟩:∃ H:Hp,H=((((((h.push (.cells cs.toArray 72)).push (.cells [.int .i64 k,.int .i64 c,.int .i64 s,.int .i64 n,.int .i64 v].toArray 77)).push (.cells [.int .i64 0,.int .i64 0,.int .i64 0,.int .i64 0,.int .i64 0,.int .i64 0,.int .i64 0,.int .i64 0,.int .i64 0,.int .i64 0,.int .i64 0,.int .i64 0,.int .i64 0,.int .i64 0,.int .i64 0,.int .i64 0,.int .i64 0,.int .i64 0,.int .i64 0,.int .i64 0,.int .i64 0,.int .i64 0,.int .i64 0,.int .i64 0,.int .i64 0,.int .i64 0,.int .i64 0,.int .i64 0,.int .i64 0,.int .i64 0,.int .i64 0,.int .i64 0,.bool false,.bool false,.bool false,.bool false,.bool false,.bool false,.bool false,.bool false].toArray 72)).push (.cells [.int .i64 0,.int .i64 0].toArray 68)).push (.cells cs.toArray 72)).push (.cells [.int .i64 k,.int .i64 c,.int .i64 s,.int .i64 n,.int .i64 v].toArray 77)):=⟨_,rfl⟩
   have x0:H[h.size]? = some (.cells cs.toArray 72):=by rw [hH]; simp only [Array.getElem?_push,Array.size_push,IntWalk.iteOmega,↓reduceIte]
   have x1:H[h.size+1]? = some (.cells [.int .i64 k,.int .i64 c,.int .i64 s,.int .i64 n,.int .i64 v].toArray 77):=by rw [hH]; simp only [Array.getElem?_push,Array.size_push,IntWalk.iteOmega,↓reduceIte]
   have x2:H[h.size+2]? = some (.cells storeZ.toArray 72):=by rw [hH,hcl]; simp only [Array.getElem?_push,Array.size_push,IntWalk.iteOmega,↓reduceIte]
   have x3:H[h.size+3]? = some (.cells [.int .i64 0,.int .i64 0].toArray 68):=by rw [hH]; simp only [Array.getElem?_push,Array.size_push,IntWalk.iteOmega,↓reduceIte]
   have hHs:H.size=h.size+6:=by rw [hH]; simp
   have hHb:Bel h.size h H:=by rw [hH]; (repeat' (first | exact Bel.refl _ _ | assumption | refine Bel.add ?_ _ | refine Bel.addSet ?_ (by first | omega | (simp; omega)) _ | refine Bel.trans (by assumption) ?_))
   rw [← hH]
   clear hH hcl
   have c1:hc H ⟨h.size+1,0,none⟩=some (.int .i64 k):=by rw [hc_last x1]; rfl
   have c2:hc H ⟨h.size+1,1,none⟩=some (.int .i64 c):=by rw [hc_last x1]; rfl
   have c3:hc H ⟨h.size+1,2,none⟩=some (.int .i64 s):=by rw [hc_last x1]; rfl
   have cc:(c:Int)<8:=by omega
   have lastc:=hi (8+c) (by omega)
   have lx:hc H ⟨h.size,8+c,none⟩=some (.int .i64 (ci cs (8+c))):=by rw [hc_last x0]; exact lastc
   have fin:∀ (G:Hp) (D:List Value) (a b:Int),D.length=40→D.all oneC=true→G[h.size+2]? = some (.cells storeZ.toArray 72)→G[h.size+3]? = some (.cells [.int .i64 0,.int .i64 0].toArray 68) →
     wr G ⟨h.size+1+1,0,none⟩ D=some (G.setIfInBounds (h.size+1+1) (.cells D.toArray 72)) ∧
     wr (G.setIfInBounds (h.size+1+1) (.cells D.toArray 72)) ⟨h.size+1+1+1,0,none⟩ [.int .i64 a,.int .i64 b]=some ((G.setIfInBounds (h.size+1+1) (.cells D.toArray 72)).setIfInBounds (h.size+1+1+1) (.cells [.int .i64 a,.int .i64 b].toArray 68)):=by
    intro G D a b d1 d2 g2 g3
    refine ⟨?_,?_⟩
    ·rw [wr_get (b:=h.size+1+1) g2 0 D,lput_full (by rw [d1]; rfl),if_pos ⟨by rw [d1]; exact Nat.le_refl _,d2⟩]
    ·rw [wr_get (b:=h.size+1+1+1) (l:=[.int .i64 0,.int .i64 0]) (t:=68) (by rw [Array.getElem?_setIfInBounds,if_neg (by omega)]; exact g3),if_pos ⟨by simp,rfl⟩]
     rfl
   have r0:=rd_last x0 hl
   have bel2:∀ (G:Hp) (o o':Obj),Bel h.size h G→Bel h.size h ((G.setIfInBounds (h.size+1+1) o).setIfInBounds (h.size+1+1+1) o'):=fun G o o' hG=>(hG.addSet (by omega) _).addSet (by omega) _
   by_cases k0:k=0
   ·subst k0
    have ed:doneS cs 0 c s n v=⟨cs,0,0⟩:=rfl
    obtain ⟨w2,w3⟩:=fin H cs 0 0 hl hone x2 x3
    simp -implicitDefEqProofs (maxSteps:=2000000) only [go_sem,↓reduceIte,e2,c1,c2,cc,ed,r0,w2,w3,hl,hHs,tk,hHb]
    exact bel2 H _ _ hHb
   ·have k0':¬ (k:Int)=0:=by omega
    simp -implicitDefEqProofs (maxSteps:=2000000) only [go_sem,↓reduceIte,e2,c1,c2,cc,k0']
    refine VS.q mixed (by kernel_rfl) ?_
    by_cases q1:(s:Int)+1=ci cs (8+c)
    ·have ed:doneS cs k c s n v=⟨cs,ci cs (16+c*2),ci cs (16+c*2+1)⟩:=by unfold doneS; rw [if_neg k0,if_pos q1]
     obtain ⟨w2,w3⟩:=fin H cs (ci cs (16+c*2)) (ci cs (16+c*2+1)) hl hone x2 x3
     have ra:rd H ⟨h.size,16+c*2,none⟩ 2=some [.int .i64 (ci cs (16+c*2)),.int .i64 (ci cs (16+c*2+1))]:=by
      rw [rd_part x0 (by omega),take_two (hi _ (by omega)) (hi _ (by omega))]
     simp -implicitDefEqProofs (maxSteps:=2000000) only [go_sem,↓reduceIte,c3,lx,q1]
     refine VS.w (h.size+1+1) [] (.q 0 (.q 1 (.q 2 (.q 3 (.q 4 (.q 5 (.s 6 (.s 7 (.q 8 .nil))))))))) mixed (by kernel_rfl) ?_
     simp -implicitDefEqProofs (maxSteps:=2000000) only [go_sem,↓reduceIte,e2,c2,cc,ed,r0,ra,w2,w3,hl,hHs,tk,hHb]
     exact bel2 H _ _ hHb
    ·simp -implicitDefEqProofs (maxSteps:=2000000) only [go_sem,↓reduceIte,c3,lx,q1]
     refine VS.q mixed (by kernel_rfl) ?_
     by_cases q2:(s:Int)<ci cs (8+c)
     ·have ed:doneS cs k c s n v=⟨cs,7,0⟩:=by unfold doneS; rw [if_neg k0,if_neg q1,if_pos q2]
      obtain ⟨w2,w3⟩:=fin H cs 7 0 hl hone x2 x3
      simp -implicitDefEqProofs (maxSteps:=2000000) only [go_sem,↓reduceIte,c3,lx,q2,e2,ed,r0,w2,w3,hl,hHs,tk,hHb]
      exact bel2 H _ _ hHb
     ·have rv:hc H ⟨h.size,32+c,none⟩=some (.bool (cb cs (32+c))):=by rw [hc_last x0]; exact hb _ (by omega) (by omega)
      by_cases q3:cb cs (32+c)=true
      ·have ed:doneS cs k c s n v=⟨cs,11,0⟩:=by unfold doneS; rw [if_neg k0,if_neg q1,if_neg q2,if_pos q3]
       obtain ⟨w2,w3⟩:=fin H cs 11 0 hl hone x2 x3
       rw [q3] at rv
       simp -implicitDefEqProofs (maxSteps:=2000000) only [go_sem,↓reduceIte,c3,lx,q2,c2,cc,rv,e2,ed,r0,w2,w3,hl,hHs,tk,hHb]
       exact bel2 H _ _ hHb
      ·have q3':cb cs (32+c)=false:=by simpa using q3
       rw [q3'] at rv
       have w1:=wr1_get x0 (8+c) (.int .i64 ((s:Int)+1))
       rw [if_pos ⟨by omega,rfl⟩] at w1
       have rc:=rd_last x1 (n:=5) rfl
       have x1':(H.setIfInBounds h.size (.cells (cs.set (8+c) (.int .i64 ((s:Int)+1))).toArray 72))[h.size+1]? = some (.cells [.int .i64 k,.int .i64 c,.int .i64 s,.int .i64 n,.int .i64 v].toArray 77):=by rw [Array.getElem?_setIfInBounds,if_neg (by omega)]; exact x1
       have rc':=rd_last x1' (n:=5) rfl
       simp -implicitDefEqProofs (maxSteps:=2000000) only [go_sem,↓reduceIte,c3,lx,q2,c2,cc,rv,w1,rc']
       have x0':(H.setIfInBounds h.size (.cells (cs.set (8+c) (.int .i64 ((s:Int)+1))).toArray 72))[h.size]? = some (.cells (cs.set (8+c) (.int .i64 ((s:Int)+1))).toArray 72):=by rw [Array.getElem?_setIfInBounds,if_pos rfl,if_pos (by omega)]
       have hB1:Bel h.size h (H.setIfInBounds h.size (.cells (cs.set (8+c) (.int .i64 ((s:Int)+1))).toArray 72)):=hHb.addSet (Nat.le_refl _) _
       have x2':(H.setIfInBounds h.size (.cells (cs.set (8+c) (.int .i64 ((s:Int)+1))).toArray 72))[h.size+2]? = some (.cells storeZ.toArray 72):=by rw [Array.getElem?_setIfInBounds,if_neg (by omega)]; exact x2
       have x3':(H.setIfInBounds h.size (.cells (cs.set (8+c) (.int .i64 ((s:Int)+1))).toArray 72))[h.size+3]? = some (.cells [.int .i64 0,.int .i64 0].toArray 68):=by rw [Array.getElem?_setIfInBounds,if_neg (by omega)]; exact x3
       have hGs:(H.setIfInBounds h.size (.cells (cs.set (8+c) (.int .i64 ((s:Int)+1))).toArray 72)).size=h.size+6:=by rw [Array.size_setIfInBounds]; exact hHs
       refine (vaultAct_ok T _ h.size (cs.set (8+c) (.int .i64 ((s:Int)+1))) k c s n v (by rw [List.length_set]; exact hl) (ints_set (by omega) _ hi) (by omega) (by omega) (by omega) x0').use ?_
       rintro _ g1 ⟨rfl,b1⟩
       rw [actS_last cs k c n v _ (by omega) (by omega)] at b1 ⊢
       have hfA:=actS_fit hf k c n v (by omega)
       have ed:doneS cs k c s n v=⟨((((actS cs k c n v).1.set (8+c) (.int .i64 ((s:Int)+1))).set (16+c*2) (.int .i64 0)).set (16+c*2+1) (.int .i64 (actS cs k c n v).2)),0,(actS cs k c n v).2⟩:=by unfold doneS; rw [if_neg k0,if_neg q1,if_neg q2,if_neg q3]
       obtain ⟨A,hA⟩:∃ A,A=(actS cs k c n v).1.set (8+c) (.int .i64 ((s:Int)+1)):=⟨_,rfl⟩
       obtain ⟨a,ha⟩:∃ a,a=(actS cs k c n v).2:=⟨_,rfl⟩
       rw [← hA,← ha] at ed
       simp only [← hA,← ha] at b1 ⊢
       have hfA':fitK storeK A=true:=by rw [hA]; exact fitK_set _ _ hfA (storeK_int (by omega) _)
       have hA40:A.length=40:=fitK_length hfA'
       obtain ⟨G,hG⟩:∃ G:Hp,G=H.setIfInBounds h.size (.cells (cs.set (8+c) (.int .i64 ((s:Int)+1))).toArray 72):=⟨_,rfl⟩
       rw [← hG] at b1 x1' x2' x3' hB1 hGs
       clear x0' rc' hG
       rw [hGs] at b1
       have g0:g1[h.size]? = some (.cells A.toArray 72):=b1.get (by omega) (by rw [Array.getElem?_setIfInBounds,if_pos rfl,if_pos (by omega)])
       have g1c:=b1.get (k:=h.size+1) (by omega) (by rw [Array.getElem?_setIfInBounds,if_neg (by omega)]; exact x1')
       have g2:=b1.get (k:=h.size+2) (by omega) (by rw [Array.getElem?_setIfInBounds,if_neg (by omega)]; exact x2')
       have g3:=b1.get (k:=h.size+3) (by omega) (by rw [Array.getElem?_setIfInBounds,if_neg (by omega)]; exact x3')
       have gs:h.size+6≤g1.size:=by have:=b1.size; rw [Array.size_setIfInBounds,hGs] at this; exact this
       have gB:Bel h.size h g1:=(hB1.addSet (Nat.le_refl _) _).trans (b1.mono (by omega))
       clear b1 hB1 x1' x2' x3' hGs
       have gc:hc g1 ⟨h.size+1,1,none⟩=some (.int .i64 c):=by rw [hc_last g1c]; rfl
       have wa:=wr_get g0 (16+c*2) [.int .i64 0,.int .i64 a]
       rw [if_pos ⟨by simp only [List.length_cons,List.length_nil]; omega,rfl⟩,lput_set,lput_set] at wa
       have wa:wr g1 ⟨h.size,16+c*2,none⟩ [.int .i64 0,.int .i64 a]=some (g1.setIfInBounds h.size (.cells ((A.set (16+c*2) (.int .i64 0)).set (16+c*2+1) (.int .i64 a)).toArray 72)):=by rw [wa]; simp [lput]
       simp -implicitDefEqProofs (maxSteps:=2000000) only [go_sem,↓reduceIte,gc,cc,wa]
       obtain ⟨D,hD⟩:∃ D,D=(A.set (16+c*2) (.int .i64 0)).set (16+c*2+1) (.int .i64 a):=⟨_,rfl⟩
       have hfD:fitK storeK D=true:=by rw [hD]; exact fitK_set _ _ (fitK_set _ _ hfA' (storeK_int (by omega) _)) (storeK_int (by omega) _)
       have hD40:D.length=40:=fitK_length hfD
       have hDone:=fitK_one hfD
       have tkD:=take_len hD40
       rw [← hD] at ed ⊢
       obtain ⟨G,hG⟩:∃ G:Hp,G=(g1.setIfInBounds h.size (.cells D.toArray 72)).push (.cells [.int .i64 0,.int .i64 a].toArray 68):=⟨_,rfl⟩
       have n0:G[h.size]? = some (.cells D.toArray 72):=by rw [hG]; simp only [Array.getElem?_push,Array.size_setIfInBounds,Array.getElem?_setIfInBounds,IntWalk.iteOmega,↓reduceIte]
       have n2:G[h.size+2]? = some (.cells storeZ.toArray 72):=by rw [hG]; simp only [Array.getElem?_push,Array.size_setIfInBounds,Array.getElem?_setIfInBounds,IntWalk.iteOmega,↓reduceIte]; exact g2
       have n3:G[h.size+3]? = some (.cells [.int .i64 0,.int .i64 0].toArray 68):=by rw [hG]; simp only [Array.getElem?_push,Array.size_setIfInBounds,Array.getElem?_setIfInBounds,IntWalk.iteOmega,↓reduceIte]; exact g3
       have n6:G[g1.size]? = some (.cells [.int .i64 0,.int .i64 a].toArray 68):=by rw [hG]; simp only [Array.getElem?_push,Array.size_setIfInBounds,IntWalk.iteOmega,↓reduceIte]
       have nB:Bel h.size h G:=by rw [hG]; exact (gB.addSet (Nat.le_refl _) _).addP (by simp; omega) _
       have nS:G.size=g1.size+1:=by rw [hG]; simp
       rw [← hG]
       have rA:=rd_last n0 hD40
       have rB:=rd_last n6 (n:=2) rfl
       obtain ⟨w2,w3⟩:=fin G D 0 a hD40 hDone n2 n3
       refine VS.w (h.size+1) [2,3,4] (.q 0 (.or 1 (.w 2 (.w 3 (.w 4 .nil))) (.s 2 (.s 1 (.w 3 (.w 4 .nil)))))) mixed (by kernel_rfl) ?_
       have z1:h.size<h.size+1:=by omega
       have z2:h.size+1+1<G.size:=by omega
       have z3:h.size+1+1+1<G.size:=by omega
       simp -implicitDefEqProofs (maxSteps:=2000000) only [go_sem,↓reduceIte,rA,rB,w2,w3,hD40,tkD,z1,z2,z3,ed]
       exact ⟨bel2 G _ _ nB,bel2 G _ _ nB⟩
  ·simp +contextual -implicitDefEqProofs (maxSteps:=2000000) only [go_sem,↓reduceIte,e2]
   refine ⟨rfl,?_⟩
   (repeat' (first | exact Bel.refl _ _ | assumption | refine Bel.add ?_ _ | refine Bel.addSet ?_ (by first | omega | (simp; omega)) _ | refine Bel.trans (by assumption) ?_))
theorem set_newP {g:Hp} {b:Nat} {o o':Obj} (hx:g[b]? = some o'):(g.setIfInBounds b o)[b]? = some o:=by rw [Array.getElem?_setIfInBounds,if_pos rfl,if_pos (lt_of_get hx)]
def vt0:Vt:=⟨0,⟨0,0⟩,0,0,0,0,0⟩
def cmdV (v:Vt):List Value:=[.int .i64 v.k,.int .i64 v.c,.int .i64 v.s,.int .i64 v.nm,.int .i64 v.v]
def pickB (slot:Int) (best v:Vt):Vt:=if v.slot=slot∧below best.b v.b then v else best
def bestOf (slot:Int) (l:List Vt):Vt:=l.foldl (pickB slot) vt0
def mayAll (l:List Vt):Bool:=l.all fun v=>decide (voteMay v)
def pickErr (slot:Int) (l:List Vt):Int:=if slot<0∨39<slot then 2 else if mayAll l=true then 0 else 5
def PickRes (v':Value) (slot:Int) (l:List Vt):Prop:=
 v'=.tuple [.agg (cmdV (if pickErr slot l=0 then bestOf slot l else vt0)).toArray,.bool (if pickErr slot l=0 then decide (0<(bestOf slot l).b.r) else false),.int .i64 (pickErr slot l)].toArray
def Vss (h:Hp) (v:Value) (LL:List (List Vt)):Prop:=∃ p c,v=.slice p LL.length c∧(LL≠[]→∃ b o,p=some ⟨b,o,none⟩∧b<h.size∧∀ i (hi:i<LL.length),∃ w,hc h ⟨b,o+i,none⟩=some w∧Ts voteC 8 h w LL[i]∧LL[i].length≤2199023255552)
theorem take_flat (LL:List (List Vt)) (i:Nat) (hi:i<LL.length):(LL.take (i+1)).flatten=(LL.take i).flatten++LL[i]:=by
 rw [take_snoc LL i hi,List.flatten_append,List.flatten_singleton]
theorem mayAll_app (a b:List Vt):mayAll (a++b)=(mayAll a && mayAll b):=by simp [mayAll]
theorem mayAll_false {l:List Vt} {v:Vt} (hv:v∈l) (hm:¬ voteMay v):mayAll l=false:=by
 rw [mayAll,List.all_eq_false]
 exact ⟨v,hv,by simpa using hm⟩
set_option maxHeartbeats 1000000 in
theorem pick_ok (T:World) (h:Hp) (u:Value) (LL:List (List Vt)) (slot:Int) (s:Vss h u LL) (hL:LL.length≤4611686018427387904) :
  CallsH Tryz.prog T 126 #[u,.int .i64 slot] h fun v' h'=>PickRes v' slot LL.flatten∧Bel h.size h h':=by
 have hpe:pickErr slot LL.flatten=if slot<0∨39<slot then 2 else if mayAll LL.flatten=true then 0 else 5:=rfl
 obtain ⟨p,c,rfl,hcs⟩:=s
 refine CallsH.of_code2 (args:=[_,_]) Tryz.func126 rfl rfl rfl rfl ?_
 unfold PickRes
 by_cases q1:slot<0
 ·rw [if_pos (.inl q1)] at hpe
  simp -implicitDefEqProofs (maxSteps:=2000000) only [go_sem,↓reduceIte,q1,hpe]
  rfl
 ·by_cases q2:39<slot
  ·rw [if_pos (.inr q2)] at hpe
   have q2':40≤slot:=by omega
   simp -implicitDefEqProofs (maxSteps:=2000000) only [go_sem,↓reduceIte,q1,q2',hpe]
   rfl
  ·rw [if_neg (by omega)] at hpe
   have q2':¬ 40≤slot:=by omega
   simp -implicitDefEqProofs (maxSteps:=2000000) only [go_sem,↓reduceIte,q1,q2']
   obtain ⟨H,hH⟩:∃ H:Hp,H=(h.push (.cells #[.int .i64 0,.int .i64 0,.int .i64 0,.int .i64 0,.int .i64 0] 77)).push (.cells #[.int .i64 0,.int .i64 0,.int .i64 0,.int .i64 0,.int .i64 0,.int .i64 0,.int .i64 0,.int .i64 0] 96):=⟨_,rfl⟩
   have HB:Bel h.size h H:=by rw [hH]; (repeat' (first | exact Bel.refl _ _ | assumption | refine Bel.add ?_ _ | refine Bel.addSet ?_ (by first | omega | (simp; omega)) _ | refine Bel.trans (by assumption) ?_))
   have HZ:H[h.size]? = some (.cells (cmdV vt0).toArray 77):=by rw [hH,get_push_ne (by simp),get_push_last]; rfl
   have HV:H[h.size+1]? = some (.cells (voteC vt0).toArray 96):=by
    have:=get_push_last (h:=h.push (.cells #[.int .i64 0,.int .i64 0,.int .i64 0,.int .i64 0,.int .i64 0] 77)) (o:=.cells #[.int .i64 0,.int .i64 0,.int .i64 0,.int .i64 0,.int .i64 0,.int .i64 0,.int .i64 0,.int .i64 0] 96)
    rw [Array.size_push] at this
    rw [hH,this]; rfl
   rw [← hH]
   clear hH
   have wz:∀ g:Hp,g[h.size]? = some (.cells (cmdV vt0).toArray 77)→∀ w:List Value,w.length=5→w.all oneC=true→wr g ⟨h.size,0,none⟩ w=some (g.setIfInBounds h.size (.cells w.toArray 77)):=by
    intro g hg w h5 h1
    rw [wr_get hg 0 w,lput_full (by rw [h5]; rfl),if_pos ⟨by rw [h5]; exact Nat.le_refl _,h1⟩]
   refine VS.loop' (fun F g=>F 1=.int .i64 slot∧F 4=.pointer (some ⟨h.size,0,none⟩)∧F 7=.pointer (some ⟨h.size+1,0,none⟩)∧F 19=.slice p LL.length c∧F 20=.int .i64 LL.length∧Bel h.size h g∧g[h.size]? = some (.cells (cmdV vt0).toArray 77)∧∃ i:Nat,i≤LL.length∧F 21=.int .i64 i∧g[h.size+1]? = some (.cells (voteC (bestOf slot (LL.take i).flatten)).toArray 96)∧mayAll (LL.take i).flatten=true)
    (fun F _=>LL.length - (vi (F 21)).toNat) rfl ⟨rfl,rfl,rfl,rfl,rfl,HB,HZ,0,by omega,rfl,HV,rfl⟩ ?_
   clear HB HZ HV H
   rintro F g ⟨f1,f4,f7,f19,f20,hg,gZ,i,hi,f21,gV,hall⟩
   have zV:=lt_of_get gV
   by_cases hlt:i<LL.length
   ·have hlt':(i:Int)<LL.length:=by omega
    obtain ⟨bb,oo,rfl,hbb,hcs⟩:=hcs (by intro e; rw [e] at hlt; simp at hlt)
    obtain ⟨w,hw,tw,hwl⟩:=hcs i hlt
    have hw':V.hc g ⟨bb,oo+i,none⟩=some w:=by rw [hg.hc (by exact hbb)]; exact hw
    have hflat:=take_flat LL i hlt
    have hmemLL:LL[i]∈LL:=List.getElem_mem hlt
    obtain ⟨L,hLi⟩:∃ L,L=LL[i]:=⟨_,rfl⟩
    rw [← hLi] at tw hwl hflat hmemLL
    obtain ⟨pw,cw,rfl,hwc⟩:=votes_open tw
    simp -implicitDefEqProofs (maxSteps:=2000000) only [go_sem,↓reduceIte,f1,f4,f7,f19,f20,f21,hlt',Int.toNat_natCast,hw']
    refine VS.loop' (fun F g=>F 1=.int .i64 slot∧F 4=.pointer (some ⟨h.size,0,none⟩)∧F 7=.pointer (some ⟨h.size+1,0,none⟩)∧F 19=.slice (some ⟨bb,oo,none⟩) LL.length c∧F 20=.int .i64 LL.length∧F 21=.int .i64 i∧F 25=.slice pw L.length cw∧F 26=.int .i64 L.length∧Bel h.size h g∧g[h.size]? = some (.cells (cmdV vt0).toArray 77)∧∃ j:Nat,j≤L.length∧F 27=.int .i64 j∧g[h.size+1]? = some (.cells (voteC (bestOf slot ((LL.take i).flatten++L.take j))).toArray 96)∧mayAll ((LL.take i).flatten++L.take j)=true)
     (fun F _=>L.length - (vi (F 27)).toNat) rfl ⟨f1,f4,f7,f19,f20,f21,rfl,rfl,hg,gZ,0,by omega,rfl,by rw [List.take_zero,List.append_nil]; exact gV,by rw [List.take_zero,List.append_nil]; exact hall⟩ ?_
    clear f1 f4 f7 f19 f20 f21 F hg gZ gV hall zV hw'
    rintro F g ⟨f1,f4,f7,f19,f20,f21,f25,f26,hg,gZ,j,hj,f27,gV,hall⟩
    have zV:=lt_of_get gV
    by_cases hlj:j<L.length
    ·have hlj':(j:Int)<L.length:=by omega
     obtain ⟨b2,o2,rfl,hb2,_,hwc⟩:=hwc (by intro e; rw [e] at hlj; simp at hlj)
     have r1:rd g ⟨b2,o2+j*8,none⟩ 8=some (voteC L[j]):=by rw [rd_bel hg (by exact hb2)]; exact hwc j hlj
     have hsn:(LL.take i).flatten++L.take (j+1)=((LL.take i).flatten++L.take j)++[L[j]]:=by rw [take_snoc L j hlj,List.append_assoc]
     have hmemV:L[j]∈LL.flatten:=List.mem_flatten.2 ⟨L,hmemLL,List.getElem_mem hlj⟩
     obtain ⟨v,hv⟩:∃ v,v=L[j]:=⟨_,rfl⟩
     rw [← hv] at r1 hsn hmemV
     have hb':bestOf slot ((LL.take i).flatten++L.take (j+1))=pickB slot (bestOf slot ((LL.take i).flatten++L.take j)) v:=by
      rw [hsn]; unfold bestOf; rw [List.foldl_append]; rfl
     have hm':mayAll ((LL.take i).flatten++L.take (j+1))=decide (voteMay v):=by rw [hsn,mayAll_app,hall,Bool.true_and]; simp [mayAll]
     obtain ⟨B,hB⟩:∃ B,B=bestOf slot ((LL.take i).flatten++L.take j):=⟨_,rfl⟩
     rw [← hB] at gV hb'
     unfold voteC at r1
     simp -implicitDefEqProofs (maxSteps:=2000000) only [go_sem,↓reduceIte,f1,f4,f7,f19,f20,f21,f25,f26,f27,hlj',Int.toNat_natCast,r1]
     refine (vote_ok T _ v).use ?_
     rintro _ g1 ⟨rfl,b1⟩
     have hgp:Bel g.size g g1:=(Bel.push (Nat.le_refl _) _).trans (b1.mono (by simp))
     have y0:g1[g.size]? = some (.cells (voteC v).toArray 96):=b1.get (by simp) get_push_last
     have z1:=hgp.size
     have hg1:=hg.trans (hgp.mono hg.size)
     have gZ1:=hgp.get (lt_of_get gZ) gZ
     have gV1:=hgp.get zV gV
     have z0:=lt_of_get y0
     by_cases c1:voteMay v
     ·rw [decide_eq_true c1] at hm'
      have y1:V.hc g1 ⟨g.size,0,none⟩=some (.int .i64 v.slot):=by rw [hc_last y0]; rfl
      have y2:rd g1 ⟨g.size,1,none⟩ 2=some (balC v.b):=by rw [rd_part y0 (by simp [voteC])]; rfl
      have y3:rd g1 ⟨h.size+1,1,none⟩ 2=some (balC B.b):=by rw [rd_part gV1 (by simp [voteC])]; rfl
      by_cases c2:v.slot=slot
      ·simp -implicitDefEqProofs (maxSteps:=2000000) only [go_sem,↓reduceIte,f1,f4,f7,f19,f20,f21,f25,f26,f27,c1,y1,c2,y2,y3]
       refine (compare_ok T _ v.b B.b).use ?_
       rintro _ g2 ⟨rfl,b2'⟩
       have z2:=b2'.size
       have hg2:=hg1.trans (b2'.mono hg1.size)
       have gZ2:=b2'.get (lt_of_get gZ1) gZ1
       have gV2:=b2'.get (lt_of_get gV1) gV1
       have y02:=b2'.get z0 y0
       by_cases c3:below B.b v.b
       ·have c3':=(bcmp_pos v.b B.b).2 c3
        have rV:=rd_last y02 (n:=8) rfl
        have wV:=wr_get gV2 0 (voteC v)
        rw [lput_full (by simp [voteC]),if_pos ⟨by simp [voteC],rfl⟩] at wV
        have hpk:pickB slot B v=v:=by unfold pickB; rw [if_pos ⟨c2,c3⟩]
        rw [hpk] at hb'
        unfold voteC at rV wV
        simp -implicitDefEqProofs (maxSteps:=2000000) only [go_sem,↓reduceIte,f1,f4,f7,f19,f20,f21,f25,f26,f27,c3',rV,wV]
        refine ⟨⟨f1,f4,f7,f19,f20,f21,f25,f26,hg2.addSet (by omega) _,?_,j+1,hlj,rfl,?_,hm'⟩,?_⟩
        ·rw [Array.getElem?_setIfInBounds,if_neg (by omega)]; exact gZ2
        ·rw [hb']; exact set_newP gV2
        ·simp only [vi,updo_some,↓reduceIte,f27]; omega
       ·have c3':¬ 0<bcmp v.b B.b:=fun h=>c3 ((bcmp_pos v.b B.b).1 h)
        have hpk:pickB slot B v=B:=by unfold pickB; rw [if_neg (fun h=>c3 h.2)]
        rw [hpk] at hb'
        simp -implicitDefEqProofs (maxSteps:=2000000) only [go_sem,↓reduceIte,f1,f4,f7,f19,f20,f21,f25,f26,f27,c3']
        refine ⟨⟨f1,f4,f7,f19,f20,f21,f25,f26,hg2,gZ2,j+1,hlj,rfl,?_,hm'⟩,?_⟩
        ·rw [hb']; exact gV2
        ·simp only [vi,updo_some,↓reduceIte,f27]; omega
      ·have hpk:pickB slot B v=B:=by unfold pickB; rw [if_neg (fun h=>c2 h.1)]
       rw [hpk] at hb'
       simp -implicitDefEqProofs (maxSteps:=2000000) only [go_sem,↓reduceIte,f1,f4,f7,f19,f20,f21,f25,f26,f27,c1,y1,c2]
       refine ⟨⟨f1,f4,f7,f19,f20,f21,f25,f26,hg1,gZ1,j+1,hlj,rfl,?_,hm'⟩,?_⟩
       ·rw [hb']; exact gV1
       ·simp only [vi,updo_some,↓reduceIte,f27]; omega
     ·have hf:=mayAll_false hmemV c1
      rw [hf,if_neg (by decide)] at hpe
      have wz1:=wz g1 gZ1 [.int .i64 0,.int .i64 0,.int .i64 0,.int .i64 0,.int .i64 0] rfl rfl
      have zl:=lt_of_get gZ1
      simp -implicitDefEqProofs (maxSteps:=2000000) only [go_sem,↓reduceIte,f1,f4,f7,c1,wz1,zl,hpe]
      exact ⟨rfl,hg1.addSet (Nat.le_refl _) _⟩
    ·have hgej:¬ (j:Int)<L.length:=by omega
     obtain rfl:j=L.length:=by omega
     rw [List.take_length,← hflat] at gV hall
     simp -implicitDefEqProofs (maxSteps:=2000000) only [go_sem,↓reduceIte,f1,f4,f7,f19,f20,f21,f25,f26,f27,hgej]
     refine ⟨⟨f1,f4,f7,f19,f20,hg,gZ,i+1,hlt,rfl,gV,hall⟩,?_⟩
     simp only [vi,updo_some,↓reduceIte,f21]; omega
   ·have hge:¬ (i:Int)<LL.length:=by omega
    obtain rfl:i=LL.length:=by omega
    rw [List.take_length] at gV hall
    rw [hall,if_pos rfl] at hpe
    rw [hpe,if_pos rfl,if_pos rfl]
    obtain ⟨B,hB⟩:∃ B,B=bestOf slot LL.flatten:=⟨_,rfl⟩
    rw [← hB] at gV ⊢
    have r1:rd g ⟨h.size+1,3,none⟩ 5=some (cmdV B):=by rw [rd_part gV (by simp [voteC])]; rfl
    have r2:V.hc g ⟨h.size+1,1,none⟩=some (.int .i64 B.b.r):=by rw [hc_last gV]; rfl
    have wB:=wz g gZ (cmdV B) rfl rfl
    have zl:=lt_of_get gZ
    unfold cmdV at r1 wB ⊢
    simp -implicitDefEqProofs (maxSteps:=2000000) only [go_sem,↓reduceIte,f1,f4,f7,f19,f20,f21,hge]
    refine VS.w (h.size) [] (.q 0 (.q 2 (.q 3 (.or 1 (.or 4 (.q 5 (.s 6 (.q 7 (.q 8 .nil)))) (.s 6 (.s 4 (.q 5 (.q 7 (.q 8 .nil)))))) (.s 4 (.q 5 (.s 1 (.s 6 (.q 7 (.q 8 .nil)))))))))) mixed (by kernel_rfl) ?_
    simp -implicitDefEqProofs (maxSteps:=2000000) only [go_sem,↓reduceIte,f4,f7,r1,r2,wB,zl]
    have hfin:=hg.addSet (Nat.le_refl _) (.cells #[.int .i64 B.k,.int .i64 B.c,.int .i64 B.s,.int .i64 B.nm,.int .i64 B.v] 77)
    exact ⟨⟨hfin,hfin⟩,hfin⟩
end Go.Proofs.YtnhbpmoeaodmnaaGreatDoor
