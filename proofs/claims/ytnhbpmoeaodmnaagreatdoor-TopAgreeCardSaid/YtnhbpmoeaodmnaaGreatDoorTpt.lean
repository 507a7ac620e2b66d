/- The outcome of a script, and logs compared: what the small functions compute; no condition but those in the statements. -/
import Derived.Test.YtnhbpmoeaodmnaaGreatDoorTpb
import Derived.Test.YtnhbpmoeaodmnaaGreatDoorMop
import Derived.Test.YtnhbpmoeaodmnaaGreatDoorTab
import Derived.LaidSub
namespace Go.Proofs.YtnhbpmoeaodmnaaGreatDoor
open Go Go.V
set_option linter.unusedSimpArgs false
set_option linter.unusedVariables false
set_option maxRecDepth 100000
def wOf (l:List Raw):Wd:=Za7 (l.map Raw.ac)
theorem ZlP {h:Hp} {v:Value} {l:List (Raw × Value)} (s:Ts Zac 5 h v l):∃p c,v=.slice p l.length c:=by
 obtain⟨p,c,h,_⟩:=ZiH s;exact⟨p,c,h⟩
theorem ZoY {α β:Type} {R:α→β→Prop} {l:List α} {k:List β} (h:Al2 R l k):l.length=k.length:=by
 induction h with
 | nil=>rfl
 | cons _ _ ih=>rw[List.length_cons,List.length_cons,ih]
set_option maxHeartbeats 4000000 in
theorem Zy3 (T:World) (h:Hp) (v:Value) (xs:List (Raw × Value)) (hv:Ts Zac 5 h v xs) (hx:∀x∈xs,ImB noO h x.2 x.1.data) (tb:Tbs noO h) (hxl:xs.length≤4611686018427387904) (hz:U6 (Xw xs)=0) :
  Zd Tryz.prog T 19 #[v] h fun v' h'=>(∃lv tv vs,v'=.tuple #[.agg (rsC (wOf (Xw xs)) lv tv).toArray,.bool true]∧QD (h.size+1) h' (rsC (wOf (Xw xs)) lv tv) (wOf (Xw xs)) lv tv vs)∧Zf h.size h h':=by
 obtain⟨p,c,hpv⟩:=ZlP hv
 subst hpv
 refine Zd.Zi (args:=[_]) Tryz.func19 rfl rfl rfl rfl ?_
 obtain⟨h0,XO⟩:=Zx (h.push (.cells rsZ.toArray 29):Hp)
 have e0:=XO.symm
 have b0:Zf h.size h h0:=by rw[XO];exact (Zf.refl _ _).add _
 have z0:h0[h.size]? = some (.cells rsZ.toArray 29):=by rw[XO];exact Zb
 have k0:Kp J9 noO h noO h0:=ZB (Zdg h) b0
 unfold rsZ at e0
 simp -implicitDefEqProofs only[go_sem,↓reduceIte,e0]
 refine (ZwD T h0 _ xs (hv.Z9 b0) (fun x hxm=>(hx x hxm).Zc k0) (tb.Zc k0) hxl).use ?_
 rintro v1 h1 ⟨b1,r1⟩
 have B1:=b0.trans (b1.mono b0.size)
 unfold ZiG at r1
 rw[if_pos hz]at r1
 obtain⟨R,lv,tv,vs,rfl,rf⟩:=r1
 have ra:=rf.at
 obtain⟨pl,cl,hl,_⟩:=ra.Zt8.open (n:=1) (enc:=fun v=>[v]) (fun _=>rfl) (show (1:Nat)≠0 by decide)
 have vl:vs.length=5:=ZoY ra.each
 subst hl
 rw[vl]at *
 have rc:=ra.cells
 subst rc
 obtain⟨R,hR⟩:=Zx (rsC (wOf (Xw xs)) (.slice pl 5 cl) tv)
 have hR':rsC (Za7 (List.map Raw.ac (Xw xs))) (.slice pl 5 cl) tv=R:=by rw[hR];rfl
 rw[hR']
 rw[hR']at ra rf
 obtain⟨pt,ct,ht,_⟩:=ra.told.open (n:=5) (enc:=ZgZ) (fun _=>rfl) (show (5:Nat)≠0 by decide)
 have hRl:R.length=13:=by rw[hR];rfl
 have hRo:R.all Z8=true:=by rw[hR,ht];rfl
 have hRp:Yq [Value.int .i64 0,.bool false,.bool false,.bool false,.bool false,.bool false,.slice none 0 0,.int .i64 0,.int .i64 0,.int .i64 0,.int .i64 0,.int .i64 0,.slice none 0 0] 0 R=R:=ZN (by rw[hRl];rfl)
 have ZwE:R.length≤13:=by omega
 have hR6:nth R 6=some (.slice pl 5 cl):=by rw[hR];rfl
 obtain⟨h2,hh2⟩:=Zx (h1.push (.cells R.toArray 29):Hp)
 have e2:=hh2.symm
 have b2:Zf h1.size h1 h2:=by rw[hh2];exact (Zf.refl _ _).add _
 have y2:h2[h1.size]? = some (.cells R.toArray 29):=by rw[hh2];exact Zb
 have z2:=b2.get (Za (b1.get (Za z0) z0)) (b1.get (Za z0) z0)
 have lz:=Za z2
 have ly:=Za y2
 have r2:rd h2 ⟨h1.size,0,none⟩ 13=some R:=Zo y2 hRl
 have r6:hc h2 ⟨h1.size,6,none⟩=some (.slice pl 5 cl):=by rw[Zg y2];exact hR6
 have w2:wr h2 ⟨h.size,0,none⟩ R=some (h2.setIfInBounds h.size (.cells R.toArray 29)):=by
  rw[ZQ z2 0 _,if_pos ⟨by rw[hRl];decide,hRo⟩]
  have:Yq rsZ 0 R=R:=ZN (by rw[hRl];rfl)
  rw[this]
 have z3:=Zu (o:=.cells R.toArray 29) z2
 have r3:=Zo z3 hRl
 simp -implicitDefEqProofs only[go_sem,↓reduceIte,hRl,hRo,hRp,ZwE,e2]
 refine VS.z (h.size) [0,5,9] (.p 1 (.p 2 (.p 3 (.p 4 (.or 0 (.or 5 (.p 6 (.p 7 (.p 8 (.w 9 (.p 10 .nil))))) (.s 9 (.w 5 (.p 6 (.p 7 (.p 8 (.p 10 .nil))))))) (.s 5 (.p 6 (.p 7 (.p 8 (.w 0 (.w 9 (.p 10 .nil)))))))))))) mixed (by kernel_rfl) ?_
 have s0:h0.size=h.size+1:=by rw[XO];simp
 have Ys:¬h1.size=h.size:=by have:=b1.size;omega
 have e5:decide (((5:Nat):Int)=5)=true:=rfl
 have et:R.take 13=R:=List.take_of_length_le (by omega)
 have bs:Zf h.size h (h2.setIfInBounds h.size (.cells R.toArray 29)):=(B1.trans (b2.mono B1.size)).Zj (Nat.le_refl _) _
 have rf2:QD (h.size+1) (h2.setIfInBounds h.size (.cells R.toArray 29)) R (Za7 (List.map Raw.ac (Xw xs))) (.slice pl 5 cl) tv vs:=by
  rw[s0]at rf
  exact (rf.Z9 b2).set (by omega) _
 have key:(∃lv tv vs,Value.tuple #[.agg R.toArray,.bool true]=.tuple #[.agg (rsC (wOf (Xw xs)) lv tv).toArray,.bool true]∧QD (h.size+1) (h2.setIfInBounds h.size (.cells R.toArray 29)) (rsC (wOf (Xw xs)) lv tv) (wOf (Xw xs)) lv tv vs)∧Zf h.size h (h2.setIfInBounds h.size (.cells R.toArray 29)):=
  ⟨⟨_,tv,vs,by rw[←hR],by rw[←hR];exact rf2⟩,bs⟩
 simp -implicitDefEqProofs only[go_sem,↓reduceIte,r2,r6,w2,hRl,hRo,ZwE,ly,lz,Ys,hR6,e5,et]
 exact⟨⟨key,key⟩,key⟩
def Zav (o:Ow) (h:Hp) (R:List Value) (w:Wd) (lv tv:Value) (vs:List Value):Prop:=∀G:Hp,(∀b,o b=none→b<h.size→G[b]? = h[b]?)→ZnW G R w lv tv vs
theorem QD.own {B:Nat} {h:Hp} {R:List Value} {w:Wd} {lv tv:Value} {vs:List Value} (s:QD B h R w lv tv vs) {o:Ow} (ho:∀b,B≤b→o b=none):Zav o h R w lv tv vs:=
 fun G hG=>s G fun b h1 h2=>hG b (ho b h1) h2
theorem Zav.at {o:Ow} {h:Hp} {R:List Value} {w:Wd} {lv tv:Value} {vs:List Value} (s:Zav o h R w lv tv vs):ZnW h R w lv tv vs:=s h fun _ _ _=>rfl
theorem Zav.Zc {S:Tg→Prop} {o o':Ow} {h h':Hp} {R:List Value} {w:Wd} {lv tv:Value} {vs:List Value} (s:Zav o h R w lv tv vs) (k:Kp S o h o' h'):Zav o' h' R w lv tv vs:=
 fun G hG=>s G fun b h1 h2=>by
  obtain⟨q1,q2⟩:=k.Zc b h2 (fun t ht=>by rw[h1]at ht;cases ht)
  rw[hG b (by rw[q2,h1]) (Nat.lt_of_lt_of_le h2 k.size),q1]
abbrev Row:=Wd × Value × Value
def Zn0 (r:Row):List Value:=rsC r.1 r.2.1 r.2.2
theorem Zue (r:Row):(Zn0 r).length=13:=rfl
set_option maxHeartbeats 4000000 in
theorem ZlQ (T:World) (h:Hp) (v:Value) (xs:List (Raw × Value)) (hv:Ts Zac 5 h v xs) (JO:Cap v) (hx:∀x∈xs,ImB noO h x.2 x.1.data) (tb:Tbs noO h) (hxl:xs.length≤100000) (hz:∀k,k≤xs.length→U6 ((Xw xs).take k)=0) :
  Zd Tryz.prog T 9 #[v] h fun v' h'=>Zf h.size h h'∧∃w rows,v'=.tuple #[w,.bool true]∧Ts Zn0 13 h' w rows∧rows.length=xs.length+1∧∀i (hi:i<rows.length),rows[i].1=wOf ((Xw xs).take i)∧∃vs,ZnW h' (Zn0 rows[i]) rows[i].1 rows[i].2.1 rows[i].2.2 vs:=by
 obtain⟨p,c,hpv⟩:=ZlP hv
 subst hpv
 have JO:xs.length≤c:=JO
 refine Zd.Zi (args:=[_]) Tryz.func9 rfl rfl rfl rfl ?_
 simp -implicitDefEqProofs only[go_sem,↓reduceIte]
 refine VS.ZW (fun F g=>F 0=.slice p xs.length c∧∃(j:Nat) (o:Ow) (rows:List Row),j≤xs.length+1∧F 5=.int .i64 j∧Kp (fun t=>t=.log 100) noO h o g∧rows.length=j∧YA o (.log 100) 29 13 g (F 4) j (Zz Zn0 rows)∧∀i (hi:i<rows.length),rows[i].1=wOf ((Xw xs).take i)∧∃vs,Zav o g (Zn0 rows[i]) rows[i].1 rows[i].2.1 rows[i].2.2 vs)
  (fun F _=>xs.length+1-(vi (F 5)).toNat) rfl ⟨rfl,0,noO,[],Nat.zero_le _,rfl,Kp.refl (Zdg h) _,rfl,YA.nil _ _ _ _ _,fun i hi=>by cases hi⟩ ?_
 rintro F2 g2 ⟨f0,j,o2,rows,hj,f5,K2,hrl,O2,I2⟩
 obtain⟨p3,c3,f4,_⟩:=O2.isSlice
 have b2:=Zdh K2
 by_cases ZD:j≤xs.length
 ·have ZL:(j:Int)≤xs.length:=by omega
  have k0:Kp J9 noO h noO g2:=ZB (Zdg h) b2
  have tv2:Ts Zac 5 g2 (.slice p j j) (xs.take j):=⟨by
   have:=(hv.sl.Z9 b2).Zso (m:=j) ZD j
   rw[List.length_take,Nat.min_eq_left ZD,←Zbb ZlL xs j ZD]
   exact this⟩
  have hxt:(xs.take j).length=j:=by rw[List.length_take];omega
  have hrt:Xw (xs.take j)=(Xw xs).take j:=by unfold Xw;rw[List.map_take]
  have cr:=Zy3 T g2 _ (xs.take j) tv2 (fun x hxm=>(hx x (List.mem_of_mem_take hxm)).Zc k0) (tb.Zc k0) (by omega) (by rw[hrt];exact hz j ZD)
  rw[hrt]at cr
  have hjc:(j:Int)≤c:=by omega
  simp -implicitDefEqProofs only[go_sem,↓reduceIte,f0,f4,f5,ZL,hjc]
  refine cr.use ?_
  rintro _ g3 ⟨⟨lv,tv,vs,rfl,rf⟩,b3⟩
  obtain⟨W,hW⟩:=Zx (wOf ((Xw xs).take j))
  rw[←hW]at rf ⊢
  have ra:=rf.at
  obtain⟨pl,cl,hl,_⟩:=ra.Zt8.open (n:=1) (enc:=fun v=>[v]) (fun _=>rfl) (show (1:Nat)≠0 by decide)
  obtain⟨pt,ct,ht,_⟩:=ra.told.open (n:=5) (enc:=ZgZ) (fun _=>rfl) (show (5:Nat)≠0 by decide)
  obtain⟨R,hR⟩:=Zx (rsC W lv tv)
  rw[←hR]
  have hRl:R.length=13:=by rw[hR];rfl
  have hRo:R.all Z8=true:=by rw[hR,hl,ht];rfl
  have hRp:Yq [Value.int .i64 0,.bool false,.bool false,.bool false,.bool false,.bool false,.slice none 0 0,.int .i64 0,.int .i64 0,.int .i64 0,.int .i64 0,.int .i64 0,.slice none 0 0] 0 R=R:=ZN (by rw[hRl];rfl)
  have ZwE:R.length≤13:=by omega
  have et:R.take 13=R:=List.take_of_length_le (by omega)
  have K3:Kp J9 o2 g2 o2 g3:=ZB K2.ZU b3
  obtain⟨g4,hg4⟩:=Zx (g3.push (.cells R.toArray 29):Hp)
  have e4:=hg4.symm
  have k4:Kp J9 o2 g3 o2 g4:=by rw[hg4];exact ZV K3.ZU _
  have y4:g4[g3.size]? = some (.cells R.toArray 29):=by rw[hg4];exact Zb
  have r4:rd g4 ⟨g3.size,0,none⟩ 13=some R:=Zo y4 hRl
  have l4:=Za y4
  obtain⟨g5,hg5⟩:=Zx (g4.push (.cells R.toArray 29):Hp)
  have e5:=hg5.symm
  have k5:Kp J9 o2 g4 o2 g5:=by rw[hg5];exact ZV k4.ZU _
  have x5:g5[g4.size]? = some (.cells R.toArray 29):=by rw[hg5];exact Zb
  have src:Sl 13 g5 (.slice (some ⟨g4.size,0,none⟩) 1 1) 1 R:=⟨_,1,rfl,by omega,fun _=>⟨g4.size,0,rfl,fun i hi=>by
   rw[Zg x5,Yl,Nat.zero_add];exact List.getElem?_eq_getElem hi⟩⟩
  have O5:=((O2.Zc K3 (fun q=>q)).Zc k4 (fun q=>q)).Zc k5 (fun q=>q)
  rw[f4]at O5
  have rfo:Zav o2 g3 R W lv tv vs:=by
   rw[hR]
   exact rf.own (fun b hb=>K2.ZU b (by omega))
  simp -implicitDefEqProofs only[go_sem,↓reduceIte,hRl,hRo,hRp,ZwE,e4,r4,et,l4,e5,f4]
  refine Ju (E:=29) (n:=13) (bytes:=104) (k:=1) ZAo Tryz.underlying37 ZDO ZDQ rfl ZDP O5 k5.ZU src hRo (by omega) (by omega) ?_
  intro v7 o7 g7 O7 k7 _
  have k7:Kp (fun u=>u=.log 100) o2 g5 o7 g7:=k7
  simp -implicitDefEqProofs only[go_sem,↓reduceIte,f5]
  unfold Xo
  refine⟨⟨f0,j+1,o7,rows++[(W,lv,tv)],by omega,rfl,(((K2.trans (ZC K3)).trans (ZC k4)).trans (ZC k5)).trans k7,by rw[List.length_append,hrl];rfl,?_,fun i hi=>?_⟩,?_⟩
  ·have e:Zz Zn0 (rows++[(W,lv,tv)])=Zz Zn0 rows++R:=by rw[Yh,Q9,hR];rfl
   rw[e]
   exact O7
  ·by_cases hi2:i<rows.length
   ·rw[List.getElem_append_left hi2]
    obtain⟨q1,vs',q2⟩:=I2 i hi2
    exact⟨q1,vs',(((q2.Zc K3).Zc k4).Zc k5).Zc k7⟩
   ·rw[List.length_append,List.length_singleton]at hi
    obtain rfl:i=rows.length:=by omega
    rw[List.getElem_concat_length rfl]
    refine⟨by rw[hrl];exact hW,vs,?_⟩
    have:=((rfo.Zc k4).Zc k5).Zc k7
    rw[hR]at this
    exact this
  ·simp only[vi,Zk,↓reduceIte,f5];omega
 have YK:¬(j:Int)≤xs.length:=by omega
 simp -implicitDefEqProofs only[go_sem,↓reduceIte,f0,f4,f5,YK]
 refine⟨b2,_,rows,rfl,⟨?_⟩,by omega,fun i hi=>?_⟩
 ·rw[hrl,←f4];exact O2.sl
 ·obtain⟨q1,vs,q2⟩:=I2 i hi
  exact⟨q1,vs,q2.at⟩
theorem QZ (a:Yw):¬below a a:=by unfold below;omega
theorem X9 {a b c:Yw} (h1:¬below b a) (h2:¬below c b):¬below c a:=by unfold below at *;omega
theorem Zxk {a b:Yw} (h:below a b):¬below b a:=by unfold below at *;omega
theorem Zn1 {a b:Yw} (h1:¬below a b) (h2:¬below b a):a=b:=by
 obtain⟨r,n⟩:=a
 obtain⟨s,m⟩:=b
 unfold below at h1 h2
 simp only at h1 h2
 rw[Yw.mk.injEq]
 omega
def ZwF (b:Yw):Nat:=(b.r*5+b.n).toNat
theorem ZoZ {a b:Yw} (ha:ZI a) (hb:ZI b) (h:below a b):ZwF a<ZwF b:=by
 unfold ZI at ha hb
 unfold below at h
 unfold ZwF
 omega
theorem Zuf {α:Type} [DecidableEq α]:∀{l C:List α},l.Nodup→(∀x∈l,x∈C)→l.length≤C.length:=by
 intro l
 induction l with
 | nil=>intro C _ _;simp
 | cons x l ih=>
  intro C hn h
  rw[List.nodup_cons]at hn
  have h1:=ih (C:=C.erase x) hn.2 (fun y hy=>(List.mem_erase_of_ne (fun e=>hn.1 (by rw[←e];exact hy))).2 (h y (by simp[hy])))
  have h2:x∈C:=h x (by simp)
  have h3:=List.length_erase_of_mem h2
  have h4:0<C.length:=List.length_pos_of_mem h2
  simp only[List.length_cons]
  omega
def Maj (Q:List Nat):Prop:=Q.Nodup∧(∀i∈Q,i<5)∧3≤Q.length
theorem Maj.meet {Q R:List Nat} (q:Maj Q) (r:Maj R):∃i,i∈Q∧i∈R:=by
 refine Classical.byContradiction fun h=>?_
 have hd:(Q++R).Nodup:=by
  rw[List.nodup_append]
  exact⟨q.1,r.1,fun a ha b hb e=>h ⟨a,ha,by rw[e];exact hb⟩⟩
 have:=Zuf (C:=List.range 5) hd (fun x hx=>by
  rw[List.mem_range]
  rcases List.mem_append.1 hx with hx|hx
  ·exact q.2.1 x hx
  ·exact r.2.1 x hx)
 have h1:=q.2.2
 have h2:=r.2.2
 simp only[List.length_append,List.length_range]at this
 omega
structure Gh where
 V:Nat→Yw→Int→Cm→Prop
 P:Yw→Int→Cm→Prop
def Zfn (g:Gh) (M:Nat→Yw) (b:Yw) (s:Int):Prop:=∃Q,Maj Q∧(∀i∈Q,¬below (M i) b)∧∀i∈Q,∀b' y,below b' b→¬g.V i b' s y
def Safe (g:Gh) (M:Nat→Yw) (b:Yw) (s:Int) (x:Cm):Prop:=
 ∃Q,Maj Q∧(∀i∈Q,¬below (M i) b)∧((∀i∈Q,∀b' y,below b' b→¬g.V i b' s y)∨∃b0 j,below b0 b∧g.V j b0 s x∧∀i∈Q,∀b' y,below b' b→g.V i b' s y→¬below b0 b')
theorem Zfn.safe {g:Gh} {M:Nat→Yw} {b:Yw} {s:Int} (h:Zfn g M b s) (x:Cm):Safe g M b s x:=by
 obtain⟨Q,q,h1,h2⟩:=h
 exact⟨Q,q,h1,.inl h2⟩
structure GI (S:Cm→Prop) (g:Gh) (M:Nat→Yw):Prop where
 vp:∀i b s x,g.V i b s x→g.P b s x
 one:∀b s x y,g.P b s x→g.P b s y→x=y
 top:∀i b s x,g.V i b s x→¬below (M i) b
 may:∀b s x,g.P b s x→ZI b
 safe:∀b s x,g.P b s x→Safe g M b s x
 own:∀b s x,g.P b s x→¬below (M b.n.toNat) b
 cmd:∀b s x,g.P b s x→x=cm0∨S x
def Qg (g:Gh) (s:Int) (x:Cm):Prop:=∃Q b,Maj Q∧∀i∈Q,g.V i b s x
theorem Zee {S:Cm→Prop} {g:Gh} {M:Nat→Yw} (G:GI S g M) {Q:List Nat} {b:Yw} {s:Int} {x:Cm} (hQ:Maj Q) (hv:∀i∈Q,g.V i b s x):∀n b' y,ZwF b'≤n→g.P b' s y→below b b'→y=x:=by
 have hb:g.P b s x:=by
  obtain⟨i,h1,_⟩:=hQ.meet hQ
  exact G.vp _ _ _ _ (hv i h1)
 intro n
 induction n with
 | zero=>
  intro b' y h1 h2 h3
  have:=ZoZ (G.may _ _ _ hb) (G.may _ _ _ h2) h3
  omega
 | succ n ih=>
  intro b' y h1 h2 h3
  obtain⟨R,hR,_,h5⟩:=G.safe _ _ _ h2
  obtain⟨i,i1,i2⟩:=hQ.meet hR
  rcases h5 with h5|⟨b0,j,h5,h6,h7⟩
  ·exact (h5 i i2 b x h3 (hv i i1)).elim
  ·have h8:=h7 i i2 b x h3 (hv i i1)
   have h9:=G.vp _ _ _ _ h6
   by_cases e:below b b0
   ·have:=ZoZ (G.may _ _ _ h9) (G.may _ _ _ h2) h5
    exact ih b0 y (by omega) h9 e
   ·have:=Zn1 e h8
    subst this
    exact G.one _ _ _ _ h9 hb
theorem Qg.one {S:Cm→Prop} {g:Gh} {M:Nat→Yw} (G:GI S g M) {s:Int} {x y:Cm} (hx:Qg g s x) (hy:Qg g s y):x=y:=by
 obtain⟨Q,b,q,h⟩:=hx
 obtain⟨R,c,r,k⟩:=hy
 have hb:g.P b s x:=by
  obtain⟨i,h1,_⟩:=q.meet q
  exact G.vp _ _ _ _ (h i h1)
 have hc:g.P c s y:=by
  obtain⟨i,h1,_⟩:=r.meet r
  exact G.vp _ _ _ _ (k i h1)
 by_cases e:below b c
 ·exact (Zee G q h _ c y (Nat.le_refl _) hc e).symm
 ·by_cases f:below c b
  ·exact Zee G r k _ b x (Nat.le_refl _) hb f
  ·have:=Zn1 e f
   subst this
   exact G.one _ _ _ _ hb hc
structure Ext (i:Nat) (g:Gh) (M:Nat→Yw) (g':Gh) (M':Nat→Yw):Prop where
 v:∀j b s x,g.V j b s x→g'.V j b s x
 p:∀b s x,g.P b s x→g'.P b s x
 m:∀j,¬below (M' j) (M j)
 fz:∀j b s x,g'.V j b s x→g.V j b s x∨¬below b (M j)
 oth:∀j,j≠i→M' j=M j∧∀b s x,g'.V j b s x→g.V j b s x
 own:∀b s x,g'.P b s x→g.P b s x∨b.n=i
theorem Ext.refl (i:Nat) (g:Gh) (M:Nat→Yw):Ext i g M g M:=⟨fun _ _ _ _ h=>h,fun _ _ _ h=>h,fun _=>QZ _,fun _ _ _ _ h=>.inl h,fun _ _=>⟨rfl,fun _ _ _ h=>h⟩,fun _ _ _ h=>.inl h⟩
structure PF (g:Gh) (M:Nat→Yw) (i:Nat) (b:Yw) (vs:List Vt):Prop where
 lt:i<5
 top:¬below (M i) b
 has:∀v∈vs,g.V i v.b v.slot v.cm∧¬below b v.b
 all:∀b' s x,below b' b→g.V i b' s x→∃v∈vs,v.slot=s∧¬below v.b b'
section
variable {i:Nat} {g g':Gh} {M M':Nat→Yw}
theorem Ext.frozen (E:Ext i g M g' M') {j:Nat} {b b':Yw} {s:Int} {x:Cm} (h:¬below (M j) b) (hb:below b' b) (hv:g'.V j b' s x):g.V j b' s x:=by
 rcases E.fz _ _ _ _ hv with q|q
 ·exact q
 ·exact (X9 h q hb).elim
theorem PF.ext (E:Ext i g M g' M') {j:Nat} {b:Yw} {vs:List Vt} (h:PF g M j b vs):PF g' M' j b vs:=
 ⟨h.lt,X9 h.top (E.m j),fun v hv=>⟨E.v _ _ _ _ (h.has v hv).1,(h.has v hv).2⟩,fun b' s x hb hv=>h.all b' s x hb (E.frozen h.top hb hv)⟩
theorem Qg.ext (E:Ext i g M g' M') {s:Int} {x:Cm} (h:Qg g s x):Qg g' s x:=by
 obtain⟨Q,b,q,h⟩:=h
 exact⟨Q,b,q,fun i hi=>E.v _ _ _ _ (h i hi)⟩
theorem Zfn.ext (E:Ext i g M g' M') {b:Yw} {s:Int} (h:Zfn g M b s):Zfn g' M' b s:=by
 obtain⟨Q,q,h1,h2⟩:=h
 exact⟨Q,q,fun i hi=>X9 (h1 i hi) (E.m i),fun i hi b' y hb hv=>h2 i hi b' y hb (E.frozen (h1 i hi) hb hv)⟩
theorem Safe.ext (E:Ext i g M g' M') {b:Yw} {s:Int} {x:Cm} (h:Safe g M b s x):Safe g' M' b s x:=by
 obtain⟨Q,q,h1,h2⟩:=h
 refine⟨Q,q,fun i hi=>X9 (h1 i hi) (E.m i),?_⟩
 rcases h2 with h2|⟨b0,j,h3,h4,h5⟩
 ·exact .inl fun i hi b' y hb hv=>h2 i hi b' y hb (E.frozen (h1 i hi) hb hv)
 ·exact .inr ⟨b0,j,h3,E.v _ _ _ _ h4,fun i hi b' y hb hv=>h5 i hi b' y hb (E.frozen (h1 i hi) hb hv)⟩
end
def ZcC (M:Nat→Yw) (i:Nat) (b:Yw):Nat→Yw:=fun j=>if j=i then b else M j
theorem raised {S:Cm→Prop} {i:Nat} {g:Gh} {M:Nat→Yw} (G:GI S g M) {b:Yw} (hb:¬below b (M i)):Ext i g M g (ZcC M i b)∧GI S g (ZcC M i b):=by
 have hm:∀j,¬below (ZcC M i b j) (M j):=fun j=>by
  unfold ZcC;split
  ·rename_i e;rw[e];exact hb
  ·exact QZ _
 have E:Ext i g M g (ZcC M i b):=⟨fun _ _ _ _ h=>h,fun _ _ _ h=>h,hm,fun _ _ _ _ h=>.inl h,fun j hj=>⟨by unfold ZcC;rw[if_neg hj],fun _ _ _ h=>h⟩,fun _ _ _ h=>.inl h⟩
 exact⟨E,G.vp,G.one,fun j c s x h=>X9 (G.top j c s x h) (hm j),G.may,fun c s x h=>(G.safe c s x h).ext E,fun c s x h=>X9 (G.own c s x h) (hm _),G.cmd⟩
def Zn2 (g:Gh) (i:Nat) (b:Yw) (s:Int) (x:Cm):Gh:=⟨fun j c t y=>g.V j c t y∨(j=i∧c=b∧t=s∧y=x),g.P⟩
theorem ZBM {S:Cm→Prop} {i:Nat} {g:Gh} {M:Nat→Yw} (G:GI S g M) {b:Yw} {s:Int} {x:Cm} (hp:g.P b s x) (hb:¬below b (M i)):Ext i g M (Zn2 g i b s x) (ZcC M i b)∧GI S (Zn2 g i b s x) (ZcC M i b):=by
 have hm:∀j,¬below (ZcC M i b j) (M j):=fun j=>by
  unfold ZcC;split
  ·rename_i e;rw[e];exact hb
  ·exact QZ _
 have E:Ext i g M (Zn2 g i b s x) (ZcC M i b):=by
  refine⟨fun _ _ _ _ h=>.inl h,fun _ _ _ h=>h,hm,fun j c t y h=>?_,fun j hj=>⟨by unfold ZcC;rw[if_neg hj],fun c t y h=>?_⟩,fun _ _ _ h=>.inl h⟩
  ·rcases h with h|⟨rfl,rfl,rfl,rfl⟩
   ·exact .inl h
   ·exact .inr hb
  ·rcases h with h|⟨rfl,_⟩
   ·exact h
   ·exact (hj rfl).elim
 refine⟨E,fun j c t y h=>?_,G.one,fun j c t y h=>?_,G.may,fun c t y h=>(G.safe c t y h).ext E,fun c t y h=>X9 (G.own c t y h) (hm _),G.cmd⟩
 ·rcases h with h|⟨rfl,rfl,rfl,rfl⟩
  ·exact G.vp _ _ _ _ h
  ·exact hp
 ·rcases h with h|⟨rfl,rfl,rfl,rfl⟩
  ·exact X9 (G.top _ _ _ _ h) (hm j)
  ·unfold ZcC;rw[if_pos rfl];exact QZ _
def Zo0 (g:Gh) (b:Yw) (l:List (Int × Cm)):Gh:=⟨g.V,fun c t y=>g.P c t y∨(c=b∧Yp l t=some y)⟩
theorem Zug {S:Cm→Prop} {i:Nat} {g:Gh} {M:Nat→Yw} (G:GI S g M) {b:Yw} {l:List (Int × Cm)} (hn:b.n=i) (hm:ZI b) (ht:¬below (M i) b) (h1:∀t y,g.P b t y→Yp l t=some y) (h2:∀t y,Yp l t=some y→Safe g M b t y) (h3:∀t y,Yp l t=some y→y=cm0∨S y) :
  Ext i g M (Zo0 g b l) M∧GI S (Zo0 g b l) M:=by
 have E:Ext i g M (Zo0 g b l) M:=by
  refine⟨fun _ _ _ _ h=>h,fun _ _ _ h=>.inl h,fun _=>QZ _,fun _ _ _ _ h=>.inl h,fun j hj=>⟨rfl,fun _ _ _ h=>h⟩,fun c t y h=>?_⟩
  rcases h with h|⟨rfl,_⟩
  ·exact .inl h
  ·exact .inr hn
 refine⟨E,fun j c t y h=>.inl (G.vp _ _ _ _ h),fun c t y z hy hz=>?_,G.top,fun c t y h=>?_,fun c t y h=>?_,fun c t y h=>?_,fun c t y h=>?_⟩
 ·rcases hy with hy|⟨rfl,hy⟩
  ·rcases hz with hz|⟨rfl,hz⟩
   ·exact G.one _ _ _ _ hy hz
   ·have:=h1 _ _ hy
    rw[hz]at this;exact (Option.some.inj this).symm
  ·rcases hz with hz|⟨_,hz⟩
   ·have:=h1 _ _ hz
    rw[hy]at this;exact Option.some.inj this
   ·rw[hy]at hz;exact Option.some.inj hz
 ·rcases h with h|⟨rfl,_⟩
  ·exact G.may _ _ _ h
  ·exact hm
 ·rcases h with h|⟨rfl,h⟩
  ·exact (G.safe _ _ _ h).ext E
  ·exact (h2 _ _ h).ext E
 ·rcases h with h|⟨rfl,h⟩
  ·exact G.own _ _ _ h
  ·rw[hn];exact ht
 ·rcases h with h|⟨rfl,h⟩
  ·exact G.cmd _ _ _ h
  ·exact h3 _ _ h
theorem ZeF {n:Nat} (h:n<4294967296):n/16777216%256*16777216+n/65536%256*65536+n/256%256*256+n%256=n:=by omega
theorem ZlR {a:Qt} {b:Yw} (h:Yo a.p a.l b=0):Xu a (XQ b)=some ⟨b,a.l⟩:=by
 have hb:=Zcu h
 obtain⟨r,m⟩:=b
 unfold ZI at hb
 simp only at hb
 have e1:Y3 (XQ ⟨r,m⟩) 1=r.toNat:=by
  have:Y3 (XQ ⟨r,m⟩) 1=r.toNat/16777216%256*16777216+r.toNat/65536%256*65536+r.toNat/256%256*256+r.toNat%256:=by simp[Y3,XQ,Zr,XI]
  rw[this];exact ZeF (by omega)
 have e2:Y3 (XQ ⟨r,m⟩) 5=m.toNat:=by
  have:Y3 (XQ ⟨r,m⟩) 5=m.toNat/16777216%256*16777216+m.toNat/65536%256*65536+m.toNat/256%256*256+m.toNat%256:=by simp[Y3,XQ,Zr,XI]
  rw[this];exact ZeF (by omega)
 have e3:(⟨((Y3 (XQ ⟨r,m⟩) 1:Nat):Int),((Y3 (XQ ⟨r,m⟩) 5:Nat):Int)⟩:Yw)=⟨r,m⟩:=by
  rw[e1,e2,Yw.mk.injEq];omega
 unfold Xu
 rw[if_pos ⟨rfl,rfl⟩,e3,if_pos h]
theorem Zuh {a:Qt} {v:Vt} (h:YG a.p a.l v=0):Xu a (Qs v)=some ⟨v.b,Js a.l v⟩:=by
 have hv:=ZeE h
 obtain⟨s,⟨r,m⟩,k,c,q,nm,x⟩:=v
 obtain⟨h1,h2,h3⟩:=hv
 unfold ZI at h2
 simp only at h1 h2 h3
 obtain⟨k',c',q',n',x',rfl,rfl,rfl,rfl,rfl,b1,b2,b3,b4,b5⟩:=Zbs h3
 have f:∀(i:Nat) (n:Nat),Y3 (Qs ⟨s,⟨r,m⟩,k',c',q',n',x'⟩) i=n/16777216%256*16777216+n/65536%256*65536+n/256%256*256+n%256→n<4294967296→Y3 (Qs ⟨s,⟨r,m⟩,k',c',q',n',x'⟩) i=n:=fun i n e hn=>by rw[e];exact ZeF hn
 have e1:=f 1 s.toNat (by simp[Y3,Qs,Zr,XI]) (by omega)
 have e2:=f 5 r.toNat (by simp[Y3,Qs,Zr,XI]) (by omega)
 have e3:=f 9 m.toNat (by simp[Y3,Qs,Zr,XI]) (by omega)
 have e4:=f 13 k' (by simp[Y3,Qs,Zr,XI]) (by omega)
 have e5:=f 17 c' (by simp[Y3,Qs,Zr,XI]) (by omega)
 have e6:=f 21 q' (by simp[Y3,Qs,Zr,XI]) (by omega)
 have e7:=f 25 n' (by simp[Y3,Qs,Zr,XI]) (by omega)
 have e8:=f 29 x' (by simp[Y3,Qs,Zr,XI]) (by omega)
 have hl:(Qs ⟨s,⟨r,m⟩,k',c',q',n',x'⟩).length=33:=rfl
 obtain⟨L,hL⟩:=Zx (Qs ⟨s,⟨r,m⟩,k',c',q',n',x'⟩)
 have h0:L.getD 0 0=2:=by rw[hL];rfl
 rw[←hL]at e1 e2 e3 e4 e5 e6 e7 e8 hl ⊢
 have d4:Qb (L.drop 13)=0:=by
  unfold Qb
  rw[if_pos (by rw[List.length_drop];omega),JD,JD,JD,JD,JD,e4,e5,e6,e7,e8]
  exact h3
 have d5:Zlh (L.drop 13) ⟨((Y3 L 1:Nat):Int),⟨((Y3 L 5:Nat):Int),((Y3 L 9:Nat):Int)⟩,0,0,0,0,0⟩=⟨s,⟨r,m⟩,k',c',q',n',x'⟩:=by
  unfold Zlh
  dsimp only
  rw[JD,JD,JD,JD,JD,e1,e2,e3,e4,e5,e6,e7,e8,Vt.mk.injEq,Yw.mk.injEq]
  refine⟨by omega,⟨by omega,by omega⟩,rfl,rfl,rfl,rfl,rfl⟩
 have d6:(⟨((Y3 L 5:Nat):Int),((Y3 L 9:Nat):Int)⟩:Yw)=⟨r,m⟩:=by rw[e2,e3,Yw.mk.injEq];omega
 unfold Xu
 rw[if_neg (by omega),if_pos ⟨hl,h0⟩,if_neg (by rw[d4];decide),d5,d6,if_pos h]
theorem ZiJ {d:List Nat} {a a':Qt} {k k':Nat} (h:Yk d a k=some (a',k')):k<k'∧k'≤d.length:=by
 unfold Yk at h
 split at h
 ·rename_i q
  rw[Option.map_eq_some_iff]at h
  obtain⟨x,_,e⟩:=h
  simp only[Prod.mk.injEq]at e
  omega
 ·cases h
theorem ZlS {d e:List Nat} {k:Nat} (h:k<d.length):(d++e).getD k 0=d.getD k 0:=by
 rw[List.getD_eq_getElem?_getD,List.getD_eq_getElem?_getD,List.getElem?_append_left h]
theorem ZfQ {d e:List Nat} {k n:Nat} (h:k+n≤d.length):((d++e).drop k).take n=(d.drop k).take n:=by
 rw[List.drop_append_of_le_length (by omega),List.take_append_of_le_length (by rw[List.length_drop];omega)]
theorem Zui {d:List Nat} {a a':Qt} {k k':Nat} (h:Yk d a k=some (a',k')) (e:List Nat):Yk (d++e) a k=some (a',k'):=by
 unfold Yk at h ⊢
 split at h
 ·rename_i q
  have q1:Ug (d++e) k=Ug d k:=by unfold Ug;rw[ZlS q.1]
  have h1:1≤Ug d k:=by unfold Ug;omega
  have q2:(U8 (((d++e).drop k).take (Ug d k))).take 4=((d++e).drop (k+Ug d k)).take 4:=by
   rw[ZfQ (by omega),ZfQ (by omega)];exact q.2.2
  rw[q1,if_pos ⟨by rw[List.length_append];omega,by rw[List.length_append];omega,q2⟩,ZfQ (by omega),h]
 ·cases h
theorem Zuj {d:List Nat} {a a':Qt} {k k':Nat} (h:Yk d a k=some (a',k')) {j:Nat} (hj:k'≤j):Yk (d.take j) a k=some (a',k'):=by
 unfold Yk at h ⊢
 split at h
 ·rename_i q
  rw[Option.map_eq_some_iff]at h
  obtain⟨x,hx,e⟩:=h
  simp only[Prod.mk.injEq]at e
  obtain⟨e1,e2⟩:=e
  have q0:d=d.take j++d.drop j:=(List.take_append_drop j d).symm
  have ql:(d.take j).length=min j d.length:=List.length_take
  have q1:Ug d k=Ug (d.take j) k:=by
   unfold Ug
   conv=>lhs;rw[q0]
   rw[ZlS (by omega)]
  have hN:1≤Ug d k:=by unfold Ug;omega
  have m1:∀a n,a+n≤j→a+n≤d.length→(d.drop a).take n=((d.take j).drop a).take n:=fun a n h1 h2=>by
   conv=>lhs;rw[q0]
   exact ZfQ (by omega)
  have q2:(U8 (((d.take j).drop k).take (Ug d k))).take 4=((d.take j).drop (k+Ug d k)).take 4:=by
   rw[←m1 _ _ (by omega) (by omega),←m1 _ _ (by omega) (by omega)];exact q.2.2
  rw[←q1,if_pos ⟨by omega,by omega,q2⟩,←m1 _ _ (by omega) (by omega),hx,←e1,←e2,Option.map_some]
 ·cases h
theorem Rec.fits {l:List Nat} {a r:Qt} {k j:Nat} (h:Rec l a k r j):k≤l.length→k≤j∧j≤l.length:=by
 induction h with
 | stop e=>intro h;omega
 | go e _ ih=>
  intro h
  have h1:=ZiJ e
  have h2:=ih h1.2
  omega
theorem Rec.app {l e:List Nat} {a r r':Qt} {k j j':Nat} (h:Rec l a k r j) (h2:Rec (l++e) r j r' j'):Rec (l++e) a k r' j':=by
 induction h with
 | stop _=>exact h2
 | go s _ ih=>exact .go (Zui s e) (ih h2)
theorem step_end (l:List Nat) (a:Qt):Yk l a l.length=none:=by
 unfold Yk
 rw[if_neg (by omega)]
theorem Rec.cut {l:List Nat} {a r:Qt} {k j:Nat} (h:Rec l a k r j):k≤l.length→Rec (l.take j) a k r j:=by
 induction h with
 | stop e=>
  intro h
  rename_i k
  have:=step_end (l.take k) ‹Qt›
  rw[List.length_take,Nat.min_eq_left h]at this
  exact .stop this
 | go s h2 ih=>
  intro h
  have h1:=ZiJ s
  have h3:=h2.fits h1.2
  exact .go (Zuj s h3.1) (ih h1.2)
def Whole (d:List Nat) (a:Qt):Prop:=Rec d XR 0 a d.length
theorem Whole.nil:Whole [] XR:=.stop (step_end [] XR)
theorem Whole.all {d:List Nat} {a:Qt} (h:Whole d a):U0 d=(a,d.length):=Zct h
theorem Zuk (d:List Nat) {a a':Qt} {f:List Nat} (hb:Xu a f=some a'):Yk (d++Yj f) a d.length=some (a',(d++Yj f).length):=by
 have hl:=Uf f
 have e0:Yj f=f.length :: (f++(U8 (Zd2 f)).take 4):=rfl
 have hN:Ug (d++Yj f) d.length=1+f.length:=by
  unfold Ug
  rw[List.getD_eq_getElem?_getD,List.getElem?_append_right (Nat.le_refl _),Nat.sub_self,e0]
  rfl
 have m1:((d++Yj f).drop d.length).take (1+f.length)=Zd2 f:=by
  rw[List.drop_left]
  unfold Yj
  rw[List.take_append_of_le_length (by rw[Qm];omega),List.take_of_length_le (by rw[Qm];omega)]
 have m2:((d++Yj f).drop (d.length+(1+f.length))).take 4=(U8 (Zd2 f)).take 4:=by
  rw[←List.drop_drop,List.drop_left]
  unfold Yj
  rw[List.drop_append_of_le_length (by rw[Qm];omega),List.drop_of_length_le (by rw[Qm];omega),List.nil_append,List.take_take]
  rfl
 have m3:((d++Yj f).drop (d.length+1)).take (1+f.length-1)=f:=by
  rw[←List.drop_drop,List.drop_left,e0,List.drop_succ_cons,List.drop_zero,Nat.add_sub_cancel_left,List.take_append_of_le_length (Nat.le_refl _),List.take_of_length_le (Nat.le_refl _)]
 unfold Yk
 rw[hN,if_pos ⟨by rw[List.length_append];omega,by rw[List.length_append];omega,by rw[m1,m2]⟩,m3,hb]
 simp only[Option.map_some,List.length_append,hl]
 congr 2
 omega
theorem Zq6 (d f:List Nat) (a:Qt) {m:Nat} (hm:m<(Yj f).length):Yk (d++(Yj f).take m) a d.length=none:=by
 have hl:=Uf f
 have e0:Yj f=f.length :: (f++(U8 (Zd2 f)).take 4):=rfl
 have ht:((Yj f).take m).length=m:=by rw[List.length_take];omega
 unfold Yk
 rw[if_neg]
 rintro⟨h1,h2,_⟩
 rw[List.length_append,ht]at h1 h2
 have hN:Ug (d++(Yj f).take m) d.length=1+f.length:=by
  unfold Ug
  rw[List.getD_eq_getElem?_getD,List.getElem?_append_right (Nat.le_refl _),Nat.sub_self,List.getElem?_take_of_lt (by omega),e0]
  rfl
 omega
theorem Whole.add {d f:List Nat} {a a':Qt} (h:Whole d a) (hb:Xu a f=some a'):Whole (d++Yj f) a':=
 Rec.app h (.go (Zuk d hb) (.stop (step_end _ _)))
theorem Whole.ZG8 {d f:List Nat} {a:Qt} (h:Whole d a) {m:Nat} (hm:m<(Yj f).length):Rec (d++(Yj f).take m) XR 0 a d.length:=
 Rec.app h (.stop (Zq6 d f a hm))
def Zhi:Pnd→Qt
 | .pro a _ _ _=>a
 | .vot a _ _=>a
 | .own a _ _=>a
structure TR (n:Nd):Prop where
 idle:n.up=true→n.Zy=none→Whole n.data n.own∧n.Y4=n.data.length
 busy:n.up=true→∀p,n.Zy=some p→∃d f,n.data=d++Yj f∧n.Y4=d.length∧Whole d n.own∧Xu n.own f=some (Zhi p)
 down:n.up=false→n.Zy=none∧n.Y4=n.data.length∧∃a j,Rec n.data XR 0 a j
 len:n.data.length≤100000
def QE (n:Nd):Qt:=if n.up=true then n.own else (U0 n.data).1
theorem Zul (i:Nat):TR (blank i true [] 0 XR):=by
 refine⟨fun _ _=>⟨Whole.nil,rfl⟩,fun _ p hp=>(by cases hp),fun h=>(by cases h),by simp[blank]⟩
theorem Zn3 {i:Nat} {n:Nd} (h:TR n) (hu:n.up=true) {Zc:Int} (hk:0≤Zc) :
  TR (crashed i n Zc)∧(crashed i n Zc).up=false∧(QE (crashed i n Zc)=n.own∨∃p,n.Zy=some p∧QE (crashed i n Zc)=Zhi p):=by
 have key:∀(d:List Nat) (z:Int) (a:Qt) (j:Nat),d.length≤100000→z=d.length→Rec d XR 0 a j→TR (blank i false d z XR)∧(blank i false d z XR).up=false∧QE (blank i false d z XR)=a:=fun d z a j h1 h2 h3=>by
  refine⟨⟨fun e=>(by cases e),fun e=>(by cases e),fun _=>⟨rfl,h2,a,j,h3⟩,h1⟩,rfl,?_⟩
  unfold QE
  rw[if_neg (by simp[blank])]
  show (U0 d).1=a
  rw[Zct h3]
 cases hp:n.Zy with
 | none=>
  obtain⟨h1,h2⟩:=h.idle hu hp
  have hl:=h.len
  have ec:(J8 n.data n.Y4 Zc).toNat=n.data.length:=by unfold J8;rw[h2];split<;>omega
  have ez:J8 n.data n.Y4 Zc=n.data.length:=by unfold J8;rw[h2];split<;>omega
  have e:crashed i n Zc=blank i false n.data (J8 n.data n.Y4 Zc) XR:=by
   unfold crashed
   rw[if_pos hu,if_pos ⟨⟨hl,by omega,by omega⟩,hk⟩,ec,List.take_of_length_le (Nat.le_refl _)]
  rw[e]
  obtain⟨k1,k2,k3⟩:=key n.data _ n.own _ hl ez h1
  exact⟨k1,k2,.inl k3⟩
 | some p=>
  obtain⟨d,f,h1,h2,h3,h4⟩:=h.busy hu p hp
  have hl:=h.len
  have hdl:n.data.length=d.length+(Yj f).length:=by rw[h1,List.length_append]
  have c1:(d.length:Int)≤J8 n.data n.Y4 Zc∧J8 n.data n.Y4 Zc≤n.data.length:=by unfold J8;rw[h2];split<;>omega
  obtain⟨C,hC⟩:∃C:Nat,J8 n.data n.Y4 Zc=C:=⟨(J8 n.data n.Y4 Zc).toNat,by omega⟩
  have e:crashed i n Zc=blank i false (n.data.take C) C XR:=by
   unfold crashed
   rw[if_pos hu,if_pos ⟨⟨hl,by omega,by omega⟩,hk⟩,hC]
   rfl
  have htl:(n.data.take C).length=C:=by rw[List.length_take];omega
  rw[e]
  by_cases hw:C=n.data.length
  ·have et:n.data.take C=n.data:=List.take_of_length_le (by omega)
   rw[et]
   have:=h3.add h4
   rw[←h1]at this
   obtain⟨k1,k2,k3⟩:=key n.data C (Zhi p) _ hl (by omega) this
   exact⟨k1,k2,.inr ⟨p,rfl,k3⟩⟩
  ·have et:n.data.take C=d++(Yj f).take (C-d.length):=by
    rw[h1,List.take_append,List.take_of_length_le (by omega)]
   have:=h3.ZG8 (f:=f) (m:=C-d.length) (by omega)
   rw[←et]at this
   obtain⟨k1,k2,k3⟩:=key (n.data.take C) C n.own _ (by omega) (by omega) this
   exact⟨k1,k2,.inl k3⟩
theorem Zn4 {i:Nat} {n:Nd} (h:TR n) (hu:n.up=false) :
  TR (started i n)∧(started i n).up=true∧(started i n).own=QE n:=by
 obtain⟨h1,h2,a,j,h3⟩:=h.down hu
 have hl:=h.len
 have hj:=h3.fits (Nat.zero_le _)
 have ea:=Zct h3
 have ZG9:=h3.cut (Nat.zero_le _)
 have XU:(n.data.take j).length=j:=by rw[List.length_take];omega
 have ok:YJ n.data n.Y4:=⟨hl,by omega,by omega⟩
 have eD:ZgX n.data n.Y4=n.data.take j:=by unfold ZgX;rw[if_pos ok,ea]
 have eN:ZnC n.data n.Y4=j:=by
  unfold ZnC;rw[if_pos ok,ea]
  simp only
  split<;>omega
 have ok2:YJ (n.data.take j) (j:Int):=⟨by omega,by omega,by omega⟩
 have hw:Whole (n.data.take j) a:=by unfold Whole;rw[XU];exact ZG9
 have eo:(if YJ (ZgX n.data n.Y4) (ZnC n.data n.Y4) then (U0 (ZgX n.data n.Y4)).1 else XR)=a:=by
  rw[eD,eN,if_pos ok2,hw.all]
 have e:started i n=blank i true (n.data.take j) j a:=by
  unfold started
  rw[if_neg (by rw[hu];decide),eo,eD,eN]
 rw[e]
 refine⟨⟨fun _ _=>⟨hw,by show (j:Int)=((n.data.take j).length:Nat);omega⟩,fun _ p hp=>(by cases hp),fun h=>(by cases h),by show (n.data.take j).length≤100000;omega⟩,rfl,?_⟩
 show a=QE n
 unfold QE
 rw[if_neg (by rw[hu];decide),ea]
theorem ZwG {β:Type}:∀{l:List (Int × β)} {k:Int},k∈l.map (·.1)→∃v,Yp l k=some v:=by
 intro l k h
 cases e:Yp l k with
 | some v=>exact⟨v,rfl⟩
 | none=>
  obtain⟨x,hx,rfl⟩:=List.mem_map.1 h
  exact (Zsq e x hx rfl).elim
theorem ZaM.maj {β:Type} {l:List (Int × β)} (h:ZaM 5 l) (hm:5<2*l.length):Maj (l.map fun x=>x.1.toNat):=by
 refine⟨?_,fun i hi=>?_,by rw[List.length_map];omega⟩
 ·have:(l.map fun x=>x.1.toNat)=(l.map (·.1)).map Int.toNat:=by rw[List.map_map];rfl
  rw[this]
  refine List.pairwise_map.2 ?_
  have h2:=h.2
  have h1:=h.1
  rw[List.nodup_iff_pairwise_ne]at h1
  refine List.Pairwise.imp_of_mem ?_ h1
  intro a b ha hb Ys he
  have:=h2 a ha
  have:=h2 b hb
  omega
 ·obtain⟨x,hx,rfl⟩:=List.mem_map.1 hi
  have:=h.2 x.1 (List.mem_map.2 ⟨x,hx,rfl⟩)
  omega
theorem ZaM.back {β:Type} {l:List (Int × β)} (h:ZaM 5 l) {i:Nat} (hi:i∈l.map fun x=>x.1.toNat):∃v,Yp l (i:Int)=some v:=by
 obtain⟨x,hx,rfl⟩:=List.mem_map.1 hi
 have:=h.2 x.1 (List.mem_map.2 ⟨x,hx,rfl⟩)
 have e:((x.1.toNat:Nat):Int)=x.1:=by omega
 rw[e]
 exact ZwG (List.mem_map.2 ⟨x,hx,rfl⟩)
structure AR (g:Gh) (i:Nat) (a:Qt):Prop where
 has:∀v∈a.l,g.V i v.b v.slot v.cm
 all:∀b s x,g.V i b s x→∃v∈a.l,v.slot=s∧¬below v.b b
theorem AR.pf {S:Cm→Prop} {g:Gh} {M:Nat→Yw} {i:Nat} {a:Qt} (G:GI S g M) (h:AR g i a) (hi:i<5) (hm:M i=a.p):PF g M i a.p a.l:=
 ⟨hi,by rw[hm];exact QZ _,fun v hv=>⟨h.has v hv,by rw[←hm];exact G.top _ _ _ _ (h.has v hv)⟩,fun b' s x _ hv=>h.all b' s x hv⟩
structure RR (g:Gh) (M:Nat→Yw) (i:Nat) (n:Nd) (r:Jg):Prop where
 node:r.b.n=i
 may:ZI r.b
 prom:∀j vs,Yp r.prom j=some vs→PF g M j.toNat r.b vs
 pn:r.begun=false→∀s x,¬g.P r.b s x
 pr:∀s x,g.P r.b s x→Yp r.prop s=some x
 safe:∀s x,Yp r.prop s=some x→g.P r.b s x
 free:r.begun=true→∀s:Int,(n.log.length:Int)≤s→Yp r.prop s=none→Yp n.known s=none→Zfn g M r.b s
 Xp:∀s K j,Yp r.Xp s=some K→Yp K j=some ()→∃x,g.V j.toNat r.b s x
def PR (g:Gh) (n:Nd):Pnd→Prop
 | .pro a to b vs=>a=⟨b,n.own.l⟩∧vs=n.own.l∧Yo n.own.p n.own.l b=0
 | .vot a to v=>a=⟨v.b,Js n.own.l v⟩∧YG n.own.p n.own.l v=0∧g.P v.b v.slot v.cm
 | .own a vs cur=>∃b,a=⟨b,n.own.l⟩∧vs=n.own.l∧Yo n.own.p n.own.l b=0∧(cur=true→∃r,n.Zh=some r∧r.b=b)
structure LR (S:Cm→Prop) (g:Gh) (M:Nat→Yw) (l:Y6):Prop where
 pro:l.kind=1→PF g M l.Jm.toNat l.b l.vs
 ask:l.kind=2→g.P l.v.b l.v.slot l.v.cm
 vot:l.kind=3→g.V l.Jm.toNat l.v.b l.v.slot l.v.cm
 fwd:l.kind=4→S l.v.cm
 cho:l.kind=6→Qg g l.v.slot l.v.cm
theorem LR.plain {S:Cm→Prop} {g:Gh} {M:Nat→Yw} {l:Y6} (h:l.kind=0∨l.kind=5∨l.kind=7):LR S g M l:=
 ⟨fun e=>by omega,fun e=>by omega,fun e=>by omega,fun e=>by omega,fun e=>by omega⟩
structure NR (S:Cm→Prop) (g:Gh) (M:Nat→Yw) (i:Nat) (n:Nd):Prop where
 acc:AR g i (QE n)
 m:M i=(QE n).p
 tape:TR n
 Zy:∀p,n.Zy=some p→PR g n p
 known:∀s x,Yp n.known s=some x→Qg g s x
 log:∀(k:Nat) x,n.log[k]? = some x→Qg g (k:Int) x
 que:∀x∈n.queue,S x
 Zh:∀r,n.Zh=some r→RR g M i n r
theorem J6 {n:Nd} (h:n.up=true):QE n=n.own:=by unfold QE;rw[if_pos h]
section
variable {i j:Nat} {g g':Gh} {M M':Nat→Yw} {S:Cm→Prop}
theorem LR.ext (E:Ext i g M g' M') {l:Y6} (h:LR S g M l):LR S g' M' l:=
 ⟨fun e=>(h.pro e).ext E,fun e=>E.p _ _ _ (h.ask e),fun e=>E.v _ _ _ _ (h.vot e),h.fwd,fun e=>(h.cho e).ext E⟩
theorem NR.ext (E:Ext i g M g' M') {n:Nd} (hj:j≠i) (h:NR S g M j n):NR S g' M' j n:=by
 have ho:=E.oth j hj
 refine⟨⟨fun v hv=>E.v _ _ _ _ (h.acc.has v hv),fun b s x hv=>h.acc.all b s x (ho.2 _ _ _ hv)⟩,by rw[ho.1];exact h.m,h.tape,fun p hp=>?_,fun s x e=>(h.known s x e).ext E,fun k x e=>(h.log k x e).ext E,h.que,fun r hr=>?_⟩
 ·have:=h.Zy p hp
  cases p with
  | pro a to b vs=>exact this
  | vot a to v=>exact⟨this.1,this.2.1,E.p _ _ _ this.2.2⟩
  | own a vs cur=>exact this
 ·have R:=h.Zh r hr
  have hP:∀s x,g'.P r.b s x→g.P r.b s x:=fun s x e=>by
   rcases E.own _ _ _ e with e|e
   ·exact e
   ·rw[R.node]at e;omega
  exact⟨R.node,R.may,fun k vs e=>(R.prom k vs e).ext E,fun e s x q=>R.pn e s x (hP s x q),fun s x q=>R.pr s x (hP s x q),fun s x q=>E.p _ _ _ (R.safe s x q),fun e s h1 h2 h3=>(R.free e s h1 h2 h3).ext E,fun s K k h1 h2=>by
   obtain⟨x,hx⟩:=R.Xp s K k h1 h2
   exact⟨x,E.v _ _ _ _ hx⟩⟩
end
structure HR (S:Cm→Prop) (g:Gh) (M:Nat→Yw) (i:Nat) (o:Out):Prop where
 n:NR S g M i o.n
 up:o.n.up=true
 ls:∀l∈o.ls,LR S g M l
section
variable {S:Cm→Prop} {g:Gh} {M:Nat→Yw} {i:Nat} {n:Nd}
theorem HR.same (N:NR S g M i n) (hu:n.up=true):HR S g M i ⟨n,[],[]⟩:=⟨N,hu,fun l hl=>by cases hl⟩
theorem HR.one (N:NR S g M i n) (hu:n.up=true) {l:Y6} (hl:LR S g M l):HR S g M i ⟨n,[l],[]⟩:=⟨N,hu,fun x hx=>by
 have:x=l:=by simpa using hx
 rw[this];exact hl⟩
theorem ZlT {p b:Yw} {l:List Vt} (h:Yo p l b=0):¬below b p:=by
 unfold Yo at h
 split at h
 ·omega
 ·split at h
  ·omega
  ·split at h
   ·omega
   ·assumption
theorem Zum {p:Yw} {l:List Vt} {v:Vt} (h:YG p l v=0):¬below v.b p:=by
 unfold YG at h
 split at h
 ·omega
 ·split at h
  ·omega
  ·split at h
   ·omega
   ·assumption
theorem NR.wait (N:NR S g M i n) (hu:n.up=true) (hp:n.Zy=none) {p:Pnd} {f:List Nat} (hb:Xu n.own f=some (Zhi p)) (hl:(n.data++Yj f).length≤100000) (hr:PR g n p):NR S g M i { n with data:=n.data++Yj f,Zy:=some p }:=by
 obtain⟨h1,h2⟩:=N.tape.idle hu hp
 have eA:QE { n with data:=n.data++Yj f,Zy:=some p } = QE n:=by rw[J6 hu,J6 (n:={ n with data:=n.data++Yj f,Zy:=some p }) hu]
 refine⟨by rw[eA];exact N.acc,by rw[eA];exact N.m,⟨fun _ e=>(by cases e),fun _ q hq=>?_,fun e=>?_,hl⟩,fun q hq=>?_,N.known,N.log,N.que,fun r hr=>?_⟩
 ·cases hq
  exact⟨n.data,f,rfl,h2,h1,hb⟩
 ·rw[show ({ n with data:=n.data++Yj f,Zy:=some p }:Nd).up=n.up from rfl,hu]at e
  cases e
 ·cases hq
  cases p<;>exact hr
 ·have R:=N.Zh r hr
  exact⟨R.node,R.may,R.prom,R.pn,R.pr,R.safe,R.free,R.Xp⟩
theorem Zn5 (hi:i<5) (G:GI S g M) (N:NR S g M i n) (hu:n.up=true) (hp:n.Zy=none) (hme:n.me=i) {l:Y6}:HR S g M i (YW n l):=by
 have eA:=J6 hu
 have JR:=N.acc
 have hM:=N.m
 rw[eA]at JR hM
 unfold YW
 split
 ·exact .one N hu (.plain (.inr (.inr rfl)))
 ·rename_i c1
  split
  ·rename_i c2
   refine .one N hu ⟨fun _=>?_,fun e=>(by cases e),fun e=>(by cases e),fun e=>(by cases e),fun e=>(by cases e)⟩
   have:=JR.pf G hi hM
   rw[c2]at this
   show PF g M (((n.me:Nat):Int)).toNat l.b n.own.l
   rw[Int.toNat_natCast,hme];exact this
  ·split
   ·exact .same N hu
   ·rename_i c3
    have e1:Yo n.own.p n.own.l l.b=0:=by simpa using c1
    have e3:JS n.data n.Y4 l.b=0:=by simpa using c3
    refine⟨N.wait hu hp (f:=XQ l.b) (ZlR e1) ?_ ⟨rfl,rfl,e1⟩,hu,fun l hl=>by cases hl⟩
    rw[List.length_append,ZfO]
    exact Zeb e3
theorem ZwH (hi:i<5) (G:GI S g M) (N:NR S g M i n) (hu:n.up=true) (hp:n.Zy=none) (hme:n.me=i) {l:Y6} (L:g.P l.v.b l.v.slot l.v.cm):HR S g M i (asked n l):=by
 have eA:=J6 hu
 have JR:=N.acc
 rw[eA]at JR
 unfold asked
 split
 ·exact .one N hu (.plain (.inr (.inr rfl)))
 ·rename_i c1
  split
  ·rename_i c2
   refine .one N hu ⟨fun e=>(by cases e),fun e=>(by cases e),fun _=>?_,fun e=>(by cases e),fun e=>(by cases e)⟩
   show g.V (((n.me:Nat):Int)).toNat l.v.b l.v.slot l.v.cm
   rw[Int.toNat_natCast,hme]
   exact JR.has _ c2
  ·split
   ·exact .same N hu
   ·rename_i c3
    have e1:YG n.own.p n.own.l l.v=0:=by simpa using c1
    have e3:QT n.data n.Y4 l.v=0:=by simpa using c3
    refine⟨N.wait hu hp (f:=Qs l.v) (Zuh e1) ?_ ⟨rfl,e1,L⟩,hu,fun l hl=>by cases hl⟩
    rw[List.length_append,ZoQ]
    exact ZlI e3
theorem NR.more (N:NR S g M i n) (hp:n.Zy=none) {m:Nd} (h1:m.up=n.up) (h2:m.data=n.data) (h3:m.Y4=n.Y4) (h4:m.own=n.own) (h5:m.Zh=n.Zh) (h6:m.Zy=n.Zy)
  (k1:∀s x,Yp m.known s=some x→Qg g s x) (k2:∀s,Yp m.known s=none→Yp n.known s=none) (k3:∀(k:Nat) x,m.log[k]? = some x→Qg g (k:Int) x) (k4:n.log.length≤m.log.length) (k5:∀x∈m.queue,S x):NR S g M i m:=by
 have eA:QE m=QE n:=by unfold QE;rw[h1,h2,h4]
 have T:=N.tape
 refine⟨by rw[eA];exact N.acc,by rw[eA];exact N.m,⟨fun e1 e2=>?_,fun _ p e=>?_,fun e=>?_,by rw[h2];exact T.len⟩,fun p e=>?_,k1,k3,k5,fun r e=>?_⟩
 ·rw[h2,h3,h4];exact T.idle (by rw[←h1];exact e1) hp
 ·rw[h6,hp]at e;cases e
 ·rw[h2,h3,h6];exact T.down (by rw[←h1];exact e)
 ·rw[h6,hp]at e;cases e
 ·have R:=N.Zh r (by rw[←h5];exact e)
  exact⟨R.node,R.may,R.prom,R.pn,R.pr,R.safe,fun q s q1 q2 q3=>R.free q s (by omega) q2 (k2 s q3),R.Xp⟩
theorem Zun (N:NR S g M i n) (hp:n.Zy=none) {x:Cm} (hx:Yp n.known (n.log.length:Int)=some x):NR S g M i (UW n x):=by
 refine N.more hp rfl rfl rfl rfl rfl rfl N.known (fun s h=>h) (fun k y e=>?_) (by show n.log.length≤(n.log++[x]).length;simp) (fun y hy=>N.que y (List.mem_filter.1 hy).1)
 have e:(n.log++[x])[k]? = some y:=e
 rw[List.getElem?_append]at e
 split at e
 ·exact N.log k y e
 ·rename_i q
  have:k=n.log.length:=by
   refine Classical.byContradiction fun Ys=>?_
   rw[List.getElem?_eq_none (by simp;omega)]at e
   cases e
  subst this
  rw[Nat.sub_self]at e
  cases e
  exact N.known _ _ hx
theorem Zq7:∀(k:Nat) (n:Nd),NR S g M i n→n.Zy=none→n.up=true→NR S g M i (Yy k n).1∧(Yy k n).1.Zy=none∧(Yy k n).1.up=true:=by
 intro k
 induction k with
 | zero=>intro n N hp hu;exact⟨N,hp,hu⟩
 | succ k ih=>
  intro n N hp hu
  unfold Yy
  split
  ·exact⟨N,hp,hu⟩
  ·rename_i x hx
   exact ih _ (Zun N hp hx) hp hu
theorem Zo1 (N:NR S g M i n) (hp:n.Zy=none) (hu:n.up=true) {s:Int} {x:Cm} (hc:Qg g s x):HR S g M i (UX n s x):=by
 have N1:NR S g M i (QU n s x):=by
  refine N.more hp rfl rfl rfl rfl rfl rfl (fun t y e=>?_) (fun t e=>?_) N.log (Nat.le_refl _) N.que
  ·have e:Yp (ins n.known s x) t=some y:=e
   rw[Jk]at e
   split at e
   ·rename_i q;cases e;rw[←q];exact hc
   ·exact N.known t y e
  ·have e:Yp (ins n.known s x) t=none:=e
   rw[Jk]at e
   split at e
   ·cases e
   ·exact e
 obtain⟨h1,_,h3⟩:=Zq7 ((QU n s x).known.length+1) _ N1 hp hu
 exact⟨h1,h3,fun l hl=>by cases hl⟩
theorem NR.ZBN (N:NR S g M i n) (hp:n.Zy=none) {r:Jg} (R:RR g M i n r):NR S g M i { n with Zh:=some r }:=
 ⟨N.acc,N.m,⟨N.tape.idle,N.tape.busy,N.tape.down,N.tape.len⟩,fun p e=>(by rw[show ({ n with Zh:=some r }:Nd).Zy=n.Zy from rfl,hp]at e;cases e),N.known,N.log,N.que,fun r' e=>by
  obtain rfl:=Option.some.inj e
  exact⟨R.node,R.may,R.prom,R.pn,R.pr,R.safe,R.free,R.Xp⟩⟩
theorem Zn6 (G:GI S g M) (N:NR S g M i n) (hp:n.Zy=none) (hu:n.up=true) {C:List Cm} (NI:JJ C i n) {l:Y6} (LI:JI C l) (L:LR S g M l) (hk:l.kind=1∨l.kind=3):HR S g M i (Yv n l):=by
 unfold Yv
 split
 ·exact .same N hu
 ·rename_i r hr
  have R:=N.Zh r hr
  have RI:=NI.Zh r hr
  split
  ·rename_i k1
   split
   ·rename_i k2
    refine .same ?_ hu
    refine N.ZBN hp ⟨R.node,R.may,fun j vs e=>?_,R.pn,R.pr,R.safe,R.free,R.Xp⟩
    have e:Yp (ins r.prom l.Jm l.vs) j=some vs:=e
    rw[Jk]at e
    split at e
    ·rename_i q;cases e;rw[←q]
     have:=L.pro k1
     rw[k2]at this
     exact this
    ·exact R.prom j vs e
   ·exact .same N hu
  ·rename_i k1
   have k3:l.kind=3:=by omega
   split
   ·exact .same N hu
   ·rename_i k2
    have eb:l.v.b=r.b:=Classical.byContradiction fun q=>k2 q
    have hv:=L.vot k3
    rw[eb]at hv
    have hgs:∀j,Yp (UY r l) j=some ()→∃x,g.V j.toNat r.b l.v.slot x:=fun j e=>by
     unfold UY at e
     rw[Jk]at e
     split at e
     ·rename_i q;rw[←q];exact⟨_,hv⟩
     ·cases q:Yp r.Xp l.v.slot with
      | none=>rw[q]at e;cases e
      | some K=>rw[q]at e;exact R.Xp _ K j q e
    have N1:NR S g M i (Zfw n r l):=by
     refine N.ZBN hp ⟨R.node,R.may,R.prom,R.pn,R.pr,R.safe,R.free,fun s K j e1 e2=>?_⟩
     have e1:Yp (ins r.Xp l.v.slot (UY r l)) s=some K:=e1
     rw[Jk]at e1
     split at e1
     ·rename_i q;cases e1;rw[←q];exact hgs j e2
     ·exact R.Xp s K j e1 e2
    split
    ·rename_i k4
     refine Zo1 N1 hp hu ?_
     have KI:ZaM 5 (UY r l):=by
      unfold UY
      refine ZaM.ins ?_ LI.Jm ()
      cases q:Yp r.Xp l.v.slot with
      | none=>exact ZaM.nil 5
      | some K=>exact RI.Za9 _ (Zcj q)
     refine⟨_,r.b,KI.maj k4,fun j hj=>?_⟩
     obtain⟨u,hu⟩:=KI.back hj
     obtain⟨x,hx⟩:=hgs j hu
     rw[Int.toNat_natCast]at hx
     have:=G.one _ _ _ _ (G.vp _ _ _ _ hx) (G.vp _ _ _ _ hv)
     rw[←this];exact hx
    ·exact .same N1 hu
theorem Zo2 (N:NR S g M i n) (hp:n.Zy=none) (l:Y6):NR S g M i (notes n l)∧(notes n l).up=n.up:=by
 unfold notes
 split
 ·exact⟨N.more hp rfl rfl rfl rfl rfl rfl N.known (fun s h=>h) N.log (Nat.le_refl _) N.que,rfl⟩
 ·exact⟨N,rfl⟩
theorem Zxl (N:NR S g M i n) {x:Cm} (hx:S x):NR S g M i (add n x)∧(add n x).up=n.up∧(add n x).Zy=n.Zy:=by
 unfold add
 split
 ·exact⟨N,rfl,rfl⟩
 ·refine⟨⟨N.acc,N.m,⟨N.tape.idle,N.tape.busy,N.tape.down,N.tape.len⟩,fun p e=>?_,N.known,N.log,fun y hy=>?_,fun r e=>?_⟩,rfl,rfl⟩
  ·have:=N.Zy p e
   cases p<;>exact this
  ·rcases List.mem_append.1 hy with hy|hy
   ·exact N.que y hy
   ·have:y=x:=by simpa using hy
    rw[this];exact hx
  ·have R:=N.Zh r e
   exact⟨R.node,R.may,R.prom,R.pn,R.pr,R.safe,R.free,R.Xp⟩
theorem Zuo (hi:i<5) (G:GI S g M) (N:NR S g M i n) (hu:n.up=true) (hp:n.Zy=none) {C:List Cm} (NI:JJ C i n) {l:Y6} (LI:JI C l) (L:LR S g M l):HR S g M i (handle n l):=by
 have hme:=NI.me
 unfold handle
 split
 ·exact Zn5 hi G N hu hp hme
 split
 ·rename_i k;exact Zn6 G N hp hu NI LI L k
 split
 ·rename_i k;exact ZwH hi G N hu hp hme (L.ask k)
 split
 ·rename_i k
  obtain⟨h1,h2,_⟩:=Zxl N (L.fwd k)
  exact .same h1 (by rw[h2];exact hu)
 split
 ·unfold Zat
  obtain⟨h1,h2⟩:=Zo2 N hp l
  split
  ·rename_i x hx
   refine .one h1 (by rw[h2];exact hu) ⟨fun e=>(by cases e),fun e=>(by cases e),fun e=>(by cases e),fun e=>(by cases e),fun _=>?_⟩
   exact N.known _ _ hx
  ·exact .same h1 (by rw[h2];exact hu)
 split
 ·rename_i k;exact Zo1 N hp hu (L.cho k)
 ·obtain⟨h1,h2⟩:=Zo2 N hp l
  exact .same h1 (by rw[h2];exact hu)
theorem NR.box (N:NR S g M i n) (k:List Y6):NR S g M i { n with inbox:=k }:=
 ⟨N.acc,N.m,⟨N.tape.idle,N.tape.busy,N.tape.down,N.tape.len⟩,fun p e=>(by have:=N.Zy p e;cases p<;>exact this),N.known,N.log,N.que,fun r e=>by
  have R:=N.Zh r e
  exact⟨R.node,R.may,R.prom,R.pn,R.pr,R.safe,R.free,R.Xp⟩⟩
end
theorem Zn7 (s:Int):∀(l:List Vt) (b:Vt),(l.foldl (Ql s) b=b∨(l.foldl (Ql s) b∈l∧(l.foldl (Ql s) b).slot=s))∧¬below (l.foldl (Ql s) b).b b.b∧∀v∈l,v.slot=s→¬below (l.foldl (Ql s) b).b v.b:=by
 intro l
 induction l with
 | nil=>intro b;exact⟨.inl rfl,QZ _,fun v hv=>by cases hv⟩
 | cons x l ih=>
  intro b
  obtain⟨h1,h2,h3⟩:=ih (Ql s b x)
  rw[List.foldl_cons]
  have hx:¬below (Ql s b x).b b.b∧(x.slot=s→¬below (Ql s b x).b x.b)∧(Ql s b x=b∨(Ql s b x=x∧x.slot=s)):=by
   unfold Ql
   split
   ·rename_i q;exact⟨Zxk q.2,fun _=>QZ _,.inr ⟨rfl,q.1⟩⟩
   ·rename_i q;exact⟨QZ _,fun e f=>q ⟨e,f⟩,.inl rfl⟩
  refine⟨?_,X9 hx.1 h2,fun v hv e=>?_⟩
  ·rcases h1 with h1|⟨h1,h4⟩
   ·rw[h1]
    rcases hx.2.2 with q|⟨q,q2⟩
    ·exact .inl q
    ·rw[q];exact .inr ⟨by simp,q2⟩
   ·exact .inr ⟨by simp[h1],h4⟩
  ·rcases List.mem_cons.1 hv with rfl|hv
   ·exact X9 (hx.2.1 e) h2
   ·exact h3 v hv e
theorem Zhj:∀(l:List Vt) (t:Int),t≤l.foldl (fun t v=>if t<v.slot then v.slot else t) t∧(∀v∈l,v.slot≤l.foldl (fun t v=>if t<v.slot then v.slot else t) t)∧(l.foldl (fun t v=>if t<v.slot then v.slot else t) t=t∨∃v∈l,l.foldl (fun t v=>if t<v.slot then v.slot else t) t=v.slot):=by
 intro l
 induction l with
 | nil=>intro t;exact⟨Int.le_refl _,fun v hv=>(by cases hv),.inl rfl⟩
 | cons x l ih=>
  intro t
  obtain⟨h1,h2,h3⟩:=ih (if t<x.slot then x.slot else t)
  rw[List.foldl_cons]
  have hx:t≤(if t<x.slot then x.slot else t)∧x.slot≤(if t<x.slot then x.slot else t)∧((if t<x.slot then x.slot else t)=t∨(if t<x.slot then x.slot else t)=x.slot):=by
   split
   ·exact⟨by omega,by omega,.inr rfl⟩
   ·exact⟨by omega,by omega,.inl rfl⟩
  refine⟨by omega,fun v hv=>?_,?_⟩
  ·rcases List.mem_cons.1 hv with rfl|hv
   ·omega
   ·exact h2 v hv
  ·rcases h3 with h3|⟨v,hv,h3⟩
   ·rcases hx.2.2 with q|q
    ·exact .inl (by rw[h3,q])
    ·exact .inr ⟨x,by simp,by rw[h3,q]⟩
   ·exact .inr ⟨v,by simp[hv],h3⟩
theorem ZiK {r:Jg} {v:Vt} (h:v∈(Z2 r).flatten):∃m:Nat,m<5∧∃vs,Yp r.prom (m:Int)=some vs∧v∈vs:=by
 obtain⟨l,h1,h2⟩:=List.mem_flatten.1 h
 unfold Z2 at h1
 obtain⟨m,h3,rfl⟩:=List.mem_map.1 h1
 rw[List.mem_range]at h3
 cases e:Yp r.prom (m:Int) with
 | none=>rw[e]at h2;cases h2
 | some vs=>rw[e]at h2;exact⟨m,h3,vs,e,h2⟩
theorem Zbg {r:Jg} {v:Vt} {m:Nat} (hm:m<5) {vs:List Vt} (h:Yp r.prom (m:Int)=some vs) (hv:v∈vs):v∈(Z2 r).flatten:=by
 refine List.mem_flatten.2 ⟨vs,?_,hv⟩
 unfold Z2
 exact List.mem_map.2 ⟨m,List.mem_range.2 hm,by rw[h];rfl⟩
theorem Zq8 {a:Qt} (h:AcI a) (hb:∀v∈a.l,¬below a.p v.b):Xt a.p a.l=0:=by
 refine ZbY ?_ (fun j hj=>?_)
 ·rintro⟨h1,h2⟩
  rcases h.bal with q|q
  ·exact h1 q
  ·exact h2 q
 ·rw[ZdO hj]
  refine⟨h.Xp.1 _ (List.getElem_mem hj),hb _ (List.getElem_mem hj),?_⟩
  by_cases e:j=0
  ·exact .inl e
  ·rw[Zcn (j:=j-1) (by omega)]
   exact .inr (List.pairwise_iff_getElem.1 h.Xp.2 (j-1) j (by omega) hj (by omega))
section
variable {S:Cm→Prop} {g:Gh} {M:Nat→Yw} {i:Nat} {n:Nd}
theorem ZiL {r:Jg} (RI:Zde r):∀v∈(Z2 r).flatten,Z5 v:=fun v hv=>by
 obtain⟨m,_,vs,h1,h2⟩:=ZiK hv
 exact (RI.vs _ (Zcj h1)).1 v h2
theorem ZwI {r:Jg} (RI:Zde r):Zc7 (Z2 r).flatten≤39:=by
 obtain⟨_,_,h3⟩:=Zhj (Z2 r).flatten (-1)
 have e:Zc7 (Z2 r).flatten=(Z2 r).flatten.foldl (fun t v=>if t<v.slot then v.slot else t) (-1):=rfl
 rcases h3 with h3|⟨v,hv,h3⟩
 ·omega
 ·have:=(ZiL RI v hv).1
  omega
theorem Zq9 (G:GI S g M) {r:Jg} (R:RR g M i n r) (RI:Zde r) (hb:r.begun=false) (hm:5<2*r.prom.length) (s:Nat) (hs:(s:Int)≤Zc7 (Z2 r).flatten) :
  Safe g M r.b s (Zb6 (Z2 r) s)∧(Zb6 (Z2 r) s=cm0∨S (Zb6 (Z2 r) s)):=by
 have h39:=ZwI RI
 have ZBO:=ZiL RI
 have hpe:Zaq (s:Int) (Z2 r).flatten=0:=by
  unfold Zaq QS
  rw[if_neg (by omega),if_pos (List.all_eq_true.2 fun v hv=>decide_eq_true (ZBO v hv))]
 have hpc:Zb6 (Z2 r) s=(QR (s:Int) (Z2 r).flatten).cm:=by unfold Zb6;rw[if_pos hpe]
 obtain⟨h1,_,h3⟩:=Zn7 (s:Int) (Z2 r).flatten vt0
 obtain⟨B,hB⟩:=Zx (QR (s:Int) (Z2 r).flatten)
 rw[hpc,←hB]
 have eB:(Z2 r).flatten.foldl (Ql (s:Int)) vt0=B:=hB.symm
 rw[eB]at h1 h3
 have hQ:=RI.prom.maj hm
 have hPF:∀i:Nat,i∈r.prom.map (fun x=>x.1.toNat)→∃vs,Yp r.prom (i:Int)=some vs∧PF g M i r.b vs:=fun i hi=>by
  obtain⟨vs,h⟩:=RI.prom.back hi
  have:=R.prom _ _ h
  rw[Int.toNat_natCast]at this
  exact⟨vs,h,this⟩
 have Zjr:∀i∈r.prom.map (fun x=>x.1.toNat),¬below (M i) r.b:=fun i hi=>by
  obtain⟨vs,_,h⟩:=hPF i hi;exact h.top
 rcases h1 with h1|⟨h1,h4⟩
 ·subst h1
  refine⟨⟨_,hQ,Zjr,.inl fun i hi b' y XL hv=>?_⟩,.inl rfl⟩
  obtain⟨vs,hv1,h⟩:=hPF i hi
  obtain⟨v,v1,v2,_⟩:=h.all b' s y XL hv
  have:=h3 v (Zbg h.lt hv1 v1) v2
  have:=(h.has v v1).1
  have hvm:=ZBO v (Zbg h.lt hv1 v1)
  have:=hvm.2.1
  unfold ZI at this
  have h7:below vt0.b v.b:=by unfold below vt0;simp only;omega
  exact h3 v (Zbg h.lt hv1 v1) v2 h7
 ·obtain⟨m,hm5,vs,e1,e2⟩:=ZiK h1
  have hp:=R.prom _ _ e1
  rw[Int.toNat_natCast]at hp
  obtain⟨p1,p2⟩:=hp.has B e2
  rw[h4]at p1
  have p3:below B.b r.b:=by
   refine Classical.byContradiction fun q=>?_
   have:=Zn1 q p2
   exact R.pn hb _ _ (by rw[←this];exact G.vp _ _ _ _ p1)
  refine⟨⟨_,hQ,Zjr,.inr ⟨B.b,m,p3,p1,fun i hi b' y XL hv=>?_⟩⟩,G.cmd _ _ _ (G.vp _ _ _ _ p1)⟩
  obtain⟨vs',hv1,h⟩:=hPF i hi
  obtain⟨v,v1,v2,v3⟩:=h.all b' s y XL hv
  exact X9 v3 (h3 v (Zbg h.lt hv1 v1) v2)
theorem Zup {r:Jg} (R:RR g M i n r) (RI:Zde r) (hm:5<2*r.prom.length) {s:Int} (hs:Zc7 (Z2 r).flatten<s):Zfn g M r.b s:=by
 have hQ:=RI.prom.maj hm
 obtain⟨_,h2,_⟩:=Zhj (Z2 r).flatten (-1)
 refine⟨_,hQ,fun i hi=>?_,fun i hi b' y XL hv=>?_⟩
 ·obtain⟨vs,h⟩:=RI.prom.back hi
  have:=R.prom _ _ h
  rw[Int.toNat_natCast]at this
  exact this.top
 ·obtain⟨vs,h⟩:=RI.prom.back hi
  have h:=R.prom _ _ h
  rw[Int.toNat_natCast]at h
  obtain⟨vs',h'⟩:=RI.prom.back hi
  have h:=R.prom _ _ h'
  rw[Int.toNat_natCast]at h
  obtain⟨v,v1,v2,_⟩:=h.all b' s y XL hv
  have:=h2 v (Zbg h.lt h' v1)
  have e:Zc7 (Z2 r).flatten=(Z2 r).flatten.foldl (fun t v=>if t<v.slot then v.slot else t) (-1):=rfl
  omega
theorem Zn8 (n:Nd) (LL:List (List Vt)):∀(cnt L:Nat) (pr:List (Int × Cm)),
  (∀t y,Yp ((List.range' L cnt).foldl (XH n LL) pr) t=some y→Yp pr t=some y∨∃s:Nat,L≤s∧s<L+cnt∧t=s∧y=Zb6 LL s) ∧
  (∀s:Nat,L≤s→s<L+cnt→Yp n.known (s:Int)=none→Yp ((List.range' L cnt).foldl (XH n LL) pr) (s:Int)≠none) ∧
  (∀t,Yp pr t≠none→Yp ((List.range' L cnt).foldl (XH n LL) pr) t≠none):=by
 intro cnt
 induction cnt with
 | zero=>intro L pr;exact⟨fun t y h=>.inl h,fun s h1 h2=>(by omega),fun t h=>h⟩
 | succ cnt ih=>
  intro L pr
  rw[List.range'_succ,List.foldl_cons]
  obtain⟨h1,h2,h3⟩:=ih (L+1) (XH n LL pr L)
  have hb:∀t,Yp pr t≠none→Yp (XH n LL pr L) t≠none:=fun t h=>by
   unfold XH
   split
   ·rw[Jk]
    split
    ·simp
    ·exact h
   ·exact h
  refine⟨fun t y h=>?_,fun s hs1 hs2 hk=>?_,fun t h=>h3 t (hb t h)⟩
  ·rcases h1 t y h with h|⟨s,q1,q2,q3,q4⟩
   ·unfold XH at h
    split at h
    ·rw[Jk]at h
     split at h
     ·rename_i e;cases h;exact .inr ⟨L,by omega,by omega,e.symm,rfl⟩
     ·exact .inl h
    ·exact .inl h
   ·exact .inr ⟨s,by omega,by omega,q3,q4⟩
  ·by_cases e:s=L
   ·subst e
    refine h3 _ ?_
    unfold XH
    rw[if_pos hk,Jk,if_pos rfl]
    simp
   ·exact h2 s (by omega) (by omega) hk
theorem Zra {n:Nd} {r:Jg} {x:Cm}:∀(k s t:Nat),QA n r x k s=some t→s≤t∧t<s+k∧Yp r.prop (t:Int)=none∧Yp n.known (t:Int)=none:=by
 intro k
 induction k with
 | zero=>intro s t h;cases h
 | succ k ih=>
  intro s t h
  unfold QA at h
  split at h
  ·cases h
  ·split at h
   ·rename_i q;cases h;exact⟨Nat.le_refl _,by omega,q.1,q.2⟩
   ·have:=ih _ _ h
    exact⟨by omega,by omega,this.2.2⟩
structure RB (S:Cm→Prop) (g:Gh) (M:Nat→Yw) (n:Nd) (r r':Jg):Prop where
 b:r'.b=r.b
 prom:r'.prom=r.prom
 Xp:r'.Xp=r.Xp
 begun:r'.begun=true
 old:∀t y,g.P r.b t y→Yp r'.prop t=some y
 safe:∀t y,Yp r'.prop t=some y→Safe g M r.b t y∧(y=cm0∨S y)
 free:∀s:Int,(n.log.length:Int)≤s→Yp r'.prop s=none→Yp n.known s=none→Zfn g M r.b s
theorem RB.one {r r':Jg} (h:RB S g M n r r') {x:Cm} (hx:S x):RB S g M n r (UZ n r' x):=by
 unfold UZ
 split
 ·rename_i s hs
  obtain⟨h1,h2,h3,h4⟩:=Zra _ _ _ hs
  have ho:=h.free s (by omega) h3 h4
  refine⟨h.b,h.prom,h.Xp,h.begun,fun t y e=>?_,fun t y e=>?_,fun t q1 q2 q3=>?_⟩
  ·have:=h.old t y e
   show Yp (ins r'.prop (s:Int) x) t=some y
   rw[Jk,if_neg (fun e=>by rw[←e,h3]at this;cases this)]
   exact this
  ·have e:Yp (ins r'.prop (s:Int) x) t=some y:=e
   rw[Jk]at e
   split at e
   ·rename_i q;cases e;rw[←q];exact⟨ho.safe x,.inr hx⟩
   ·exact h.safe t y e
  ·have q2:Yp (ins r'.prop (s:Int) x) t=none:=q2
   rw[Jk]at q2
   split at q2
   ·cases q2
   ·exact h.free t q1 q2 q3
 ·exact h
theorem RB.all {r:Jg}:∀(l:List Cm) (r':Jg),RB S g M n r r'→(∀x∈l,S x)→RB S g M n r (Jn n r' l):=by
 intro l
 induction l with
 | nil=>intro r' h _;exact h
 | cons x l ih=>intro r' h hl;exact ih _ (h.one (hl x (by simp))) (fun y hy=>hl y (by simp[hy]))
theorem Zuq (G:GI S g M) {r:Jg} (R:RR g M i n r) (RI:Zde r) (hb:r.begun=false) (hm:5<2*r.prom.length):RB S g M n r (Zby n r):=by
 obtain⟨h1,h2,_⟩:=Zn8 n (Z2 r) ((Zc7 (Z2 r).flatten+1).toNat-n.log.length) n.log.length r.prop
 refine⟨rfl,rfl,rfl,rfl,fun t y e=>(R.pn hb _ _ e).elim,fun t y e=>?_,fun s q1 q2 q3=>?_⟩
 ·rcases h1 t y e with e|⟨s,s1,s2,rfl,rfl⟩
  ·exact (R.pn hb _ _ (R.safe _ _ e)).elim
  ·exact Zq9 G R RI hb hm s (by omega)
 ·obtain⟨k,rfl⟩:∃k:Nat,s=k:=⟨s.toNat,by omega⟩
  by_cases hk:(k:Int)≤Zc7 (Z2 r).flatten
  ·exact (h2 k (by omega) (by omega) q3 q2).elim
  ·exact Zup R RI hm (by omega)
theorem RR.rb (G:GI S g M) {r:Jg} (R:RR g M i n r) (hb:r.begun=true):RB S g M n r r:=
 ⟨rfl,rfl,rfl,hb,R.pr,fun t y e=>⟨G.safe _ _ _ (R.safe _ _ e),G.cmd _ _ _ (R.safe _ _ e)⟩,R.free hb⟩
theorem Zur (G:GI S g M) {r:Jg} (R:RR g M i n r) (RI:Zde r) (hm:5<2*r.prom.length) (hq:∀x∈n.queue,S x):RB S g M n r (Uh n r):=by
 unfold Uh
 refine RB.all _ _ ?_ hq
 split
 ·rename_i hb;exact R.rb G hb
 ·rename_i hb;exact Zuq G R RI (by simpa using hb) hm
structure SR (S:Cm→Prop) (g:Gh) (M:Nat→Yw) (i:Nat) (o:Out) (g':Gh) (M':Nat→Yw):Prop where
 e:Ext i g M g' M'
 gi:GI S g' M'
 h:HR S g' M' i o
theorem SR.same (G:GI S g M) {o:Out} (h:HR S g M i o):SR S g M i o g M:=⟨Ext.refl _ _ _,G,h⟩
theorem Zy4 (hi:i<5) (G:GI S g M) (N:NR S g M i n) (hu:n.up=true) (hp:n.Zy=none) {C:List Cm} (NI:JJ C i n) {r:Jg} (hr:n.Zh=some r):∃g' M',SR S g M i (QH n r) g' M':=by
 have eA:=J6 hu
 have R:=N.Zh r hr
 have RI:=NI.Zh r hr
 have JR:=N.acc
 have hM:=N.m
 rw[eA]at JR hM
 unfold QH
 split
 ·rename_i c1
  split
  ·exact⟨g,M,.same G (.same N hu)⟩
  ·rename_i c2
   have ea:Xt n.own.p n.own.l=0:=Zq8 NI.own (fun v hv=>by rw[←hM];exact G.top _ _ _ _ (JR.has v hv))
   have e1:Yo n.own.p n.own.l r.b=0:=by
    unfold Yo
    rw[if_neg (by rw[ea];decide),if_neg (fun h=>h R.may),if_neg (Zxk c1)]
   have e3:JS n.data n.Y4 r.b=0:=by simpa using c2
   rw[if_pos e1,if_pos e1]
   refine⟨g,M,.same G ⟨N.wait hu hp (f:=XQ r.b) (ZlR e1) ?_ ⟨r.b,rfl,rfl,e1,fun _=>⟨r,hr,rfl⟩⟩,hu,fun l hl=>by cases hl⟩⟩
   rw[List.length_append,ZfO]
   exact Zeb e3
 ·rename_i c1
  split
  ·refine⟨g,M,.same G ⟨N,hu,fun l hl=>?_⟩⟩
   unfold ZeA at hl
   obtain⟨m,_,hl⟩:=List.mem_flatMap.1 hl
   split at hl
   ·rw[List.mem_singleton.1 hl];exact .plain (.inl rfl)
   ·cases hl
  ·rename_i c2
   have B:=Zur G R RI (by simpa using c2) N.que
   have hP:=Zug G (i:=i) (b:=r.b) (l:=(Uh n r).prop) R.node R.may (by rw[hM];exact c1) B.old (fun t y e=>(B.safe t y e).1) (fun t y e=>(B.safe t y e).2)
   obtain⟨E,G'⟩:=hP
   obtain⟨g',hg'⟩:=Zx (Zo0 g r.b (Uh n r).prop)
   have hV:g'.V=g.V:=by rw[hg'];rfl
   have hPn:∀s x,Yp (Uh n r).prop s=some x→g'.P r.b s x:=fun s x e=>by rw[hg'];exact .inr ⟨rfl,e⟩
   have hPo:∀s x,g'.P r.b s x→Yp (Uh n r).prop s=some x:=fun s x e=>by
    rw[hg']at e
    rcases e with e|e
    ·exact B.old s x e
    ·exact e.2
   rw[←hg']at E G'
   have Nn:NR S g' M i { n with Zh:=some (Uh n r) }:=by
    refine⟨⟨fun v hv=>E.v _ _ _ _ (N.acc.has v hv),fun b s x hv=>N.acc.all b s x (by rw[←hV];exact hv)⟩,N.m,⟨N.tape.idle,N.tape.busy,N.tape.down,N.tape.len⟩,fun p e=>?_,fun s x e=>(N.known s x e).ext E,fun k x e=>(N.log k x e).ext E,N.que,fun r' e=>?_⟩
    ·rw[show ({ n with Zh:=some (Uh n r) }:Nd).Zy=n.Zy from rfl,hp]at e;cases e
    ·obtain rfl:=Option.some.inj e
     refine⟨by rw[B.b];exact R.node,by rw[B.b];exact R.may,fun j vs q=>?_,fun q=>?_,?_,?_,?_,fun s K j q1 q2=>?_⟩
     ·rw[B.prom]at q;rw[B.b];exact (R.prom j vs q).ext E
     ·rw[B.begun]at q;cases q
     ·rw[B.b];exact hPo
     ·rw[B.b];exact hPn
     ·rw[B.b];exact fun _ s q1 q2 q3=>(B.free s q1 q2 q3).ext E
     ·rw[B.Xp]at q1;rw[B.b,hV];exact R.Xp s K j q1 q2
   refine⟨g',M,E,G',Nn,hu,fun l hl=>?_⟩
   have hl:l∈Zd4 n (Uh n r):=hl
   unfold Zd4 at hl
   obtain⟨s,_,hl⟩:=List.mem_flatMap.1 hl
   unfold Zab at hl
   split at hl
   ·rename_i x hx
    split at hl
    ·obtain⟨m,_,hl⟩:=List.mem_flatMap.1 hl
     unfold Zc8 at hl
     split at hl
     ·obtain rfl:=List.mem_singleton.1 hl
      refine⟨fun e=>(by cases e),fun _=>?_,fun e=>(by cases e),fun e=>(by cases e),fun e=>(by cases e)⟩
      show g'.P (Uh n r).b _ _
      rw[B.b];exact hPn _ _ hx
     ·cases hl
    ·cases hl
   ·cases hl
theorem ZwJ (N:NR S g M i n) (hp:n.Zy=none) (hu:n.up=true):NR S g M i (still n)∧(still n).Zy=none∧(still n).up=true:=by
 unfold still
 split
 ·rename_i r hr
  split
  ·refine⟨⟨N.acc,N.m,⟨N.tape.idle,N.tape.busy,N.tape.down,N.tape.len⟩,fun p e=>?_,N.known,N.log,N.que,fun r' e=>by cases e⟩,hp,hu⟩
   have e:n.Zy=some p:=e
   rw[hp]at e;cases e
  ·exact⟨N,hp,hu⟩
 ·exact⟨N,hp,hu⟩
theorem ZwK (hi:i<5) (G:GI S g M) (N:NR S g M i n) (hu:n.up=true) (hp:n.Zy=none) {C:List Cm} (NI:JJ C i n):∃g' M',SR S g M i (Yz n) g' M':=by
 unfold Yz
 split
 ·rename_i r hr;exact Zy4 hi G N hu hp NI hr
 ·split
  ·refine⟨g,M,.same G ⟨N,hu,fun l hl=>?_⟩⟩
   have hl:l∈Za6 n:=hl
   unfold Za6 at hl
   obtain⟨x,hx,rfl⟩:=List.mem_map.1 hl
   exact⟨fun e=>(by cases e),fun e=>(by cases e),fun e=>(by cases e),fun _=>N.que x hx,fun e=>(by cases e)⟩
  ·exact⟨g,M,.same G (.same N hu)⟩
theorem Zrb (n:Nd):∀l∈ZaH n,LR S g M l:=fun l hl=>by
 unfold ZaH at hl
 split at hl
 ·rw[List.mem_singleton.1 hl];exact .plain (.inr (.inl rfl))
 ·cases hl
theorem NR.Xg (N:NR S g M i n):NR S g M i (Qc n):=
 ⟨N.acc,N.m,⟨N.tape.idle,N.tape.busy,N.tape.down,N.tape.len⟩,fun p e=>(by have:=N.Zy p e;cases p<;>exact this),N.known,N.log,N.que,fun r e=>by
  have R:=N.Zh r e
  exact⟨R.node,R.may,R.prom,R.pn,R.pr,R.safe,R.free,R.Xp⟩⟩
theorem Zy5 (hi:i<5) (G:GI S g M) (N:NR S g M i n) (hu:n.up=true) (hp:n.Zy=none) {C:List Cm} (NI:JJ C i n):∃g' M',SR S g M i (ZaI n) g' M':=by
 obtain⟨N1,p1,u1⟩:=ZwJ N hp hu
 obtain⟨g',M',E,G',H⟩:=ZwK hi G N1 u1 p1 (ZoU NI).1
 unfold ZaI
 split
 ·exact⟨g',M',E,G',H⟩
 ·refine⟨g',M',E,G',H.n.Xg,H.up,fun l hl=>?_⟩
  rcases List.mem_append.1 hl with hl|hl
  ·exact H.ls l hl
  ·exact Zrb _ l hl
theorem Zus (G:GI S g M) (N:NR S g M i n) (hu:n.up=true) {p:Pnd} (hp:n.Zy=some p):∃g' M',Ext i g M g' M'∧GI S g' M'∧AR g' i (Zhi p)∧M' i=(Zhi p).p∧(∀b s x,g'.P b s x↔g.P b s x)∧(∀a to v,p=.vot a to v→g'.V i v.b v.slot v.cm):=by
 have eA:=J6 hu
 have JR:=N.acc
 have hM:=N.m
 rw[eA]at JR hM
 have hPR:=N.Zy p hp
 have same:∀b,¬below b (M i)→∃g' M',Ext i g M g' M'∧GI S g' M'∧AR g' i ⟨b,n.own.l⟩∧M' i=b∧(∀b s x,g'.P b s x↔g.P b s x):=fun b hb=>by
  obtain⟨E,G'⟩:=raised G hb
  exact⟨g,ZcC M i b,E,G',⟨JR.has,JR.all⟩,by unfold ZcC;rw[if_pos rfl],fun _ _ _=>Iff.rfl⟩
 cases p with
 | pro a to b vs=>
  obtain⟨rfl,rfl,h3⟩:=hPR
  obtain⟨g',M',h1,h2,h4,h5,h6⟩:=same b (by rw[hM];exact ZlT h3)
  exact⟨g',M',h1,h2,h4,h5,h6,fun _ _ _ e=>by cases e⟩
 | own a vs cur=>
  obtain⟨b,rfl,rfl,h3,_⟩:=hPR
  obtain⟨g',M',h1,h2,h4,h5,h6⟩:=same b (by rw[hM];exact ZlT h3)
  exact⟨g',M',h1,h2,h4,h5,h6,fun _ _ _ e=>by cases e⟩
 | vot a to v=>
  obtain⟨rfl,h3,h4⟩:=hPR
  have YK:=Zum h3
  obtain⟨E,G'⟩:=ZBM G h4 (by rw[hM];exact YK)
  refine⟨_,_,E,G',⟨fun u hu=>?_,fun b s x hv=>?_⟩,by unfold ZcC;rw[if_pos rfl];rfl,fun _ _ _=>Iff.rfl,fun _ _ _ e=>by cases e;exact .inr ⟨rfl,rfl,rfl,rfl⟩⟩
  ·have hu:u∈n.own.l.filter (fun x=>decide (x.slot<v.slot))++v :: n.own.l.filter (fun x=>decide (v.slot<x.slot)):=hu
   rcases List.mem_append.1 hu with hu|hu
   ·exact .inl (JR.has u (List.mem_filter.1 hu).1)
   ·rcases List.mem_cons.1 hu with rfl|hu
    ·exact .inr ⟨rfl,rfl,rfl,rfl⟩
    ·exact .inl (JR.has u (List.mem_filter.1 hu).1)
  ·have Zxm:v∈Js n.own.l v:=by unfold Js;simp
   rcases hv with hv|⟨_,rfl,rfl,rfl⟩
   ·obtain⟨u,u1,u2,u3⟩:=JR.all b s x hv
    by_cases e:u.slot=v.slot
    ·refine⟨v,Zxm,by rw[←e];exact u2,?_⟩
     have:=G.top _ _ _ _ hv
     rw[hM]at this
     exact X9 this YK
    ·refine⟨u,?_,u2,u3⟩
     show u∈Js n.own.l v
     unfold Js
     rcases Int.lt_or_gt_of_ne e with q|q
     ·exact List.mem_append.2 (.inl (List.mem_filter.2 ⟨u1,by simpa using q⟩))
     ·exact List.mem_append.2 (.inr (List.mem_cons.2 (.inr (List.mem_filter.2 ⟨u1,by simpa using q⟩))))
   ·exact⟨v,Zxm,rfl,QZ _⟩
theorem NR.rest (N:NR S g M i n) {g':Gh} {M':Nat→Yw} (E:Ext i g M g' M') (hP:∀b s x,g'.P b s x↔g.P b s x):(∀s x,Yp n.known s=some x→Qg g' s x)∧(∀(k:Nat) x,n.log[k]? = some x→Qg g' (k:Int) x)∧∀r,n.Zh=some r→RR g' M' i n r:=by
 refine⟨fun s x e=>(N.known s x e).ext E,fun k x e=>(N.log k x e).ext E,fun r e=>?_⟩
 have R:=N.Zh r e
 exact⟨R.node,R.may,fun j vs q=>(R.prom j vs q).ext E,fun q s x h=>R.pn q s x ((hP _ _ _).1 h),fun s x h=>R.pr s x ((hP _ _ _).1 h),fun s x h=>(hP _ _ _).2 (R.safe s x h),fun q s q1 q2 q3=>(R.free q s q1 q2 q3).ext E,fun s K j q1 q2=>by
  obtain⟨x,hx⟩:=R.Xp s K j q1 q2
  exact⟨x,E.v _ _ _ _ hx⟩⟩
theorem ZlU (T:TR n) (hu:n.up=true) {p:Pnd} (hp:n.Zy=some p):(synced n).data=n.data∧(synced n).Y4=n.data.length∧Whole n.data (Zhi p):=by
 obtain⟨d,f,h1,h2,h3,h4⟩:=T.busy hu p hp
 have hl:=T.len
 have ok:YJ n.data n.Y4:=⟨hl,by omega,by rw[h2,h1,List.length_append];omega⟩
 refine⟨by unfold synced;simp only[if_pos ok],by unfold synced;simp only[if_pos ok],?_⟩
 rw[h1];exact h3.add h4
theorem Zut (hi:i<5) (G:GI S g M) (N:NR S g M i n) (hu:n.up=true) (hme:n.me=i) {p:Pnd} (hp:n.Zy=some p):∃g' M',SR S g M i (finish (synced n) p) g' M':=by
 obtain⟨g',M',E,G',A,m',hP,hvt⟩:=Zus G N hu hp
 obtain⟨r1,r2,r3⟩:=N.rest E hP
 obtain⟨t1,t2,t3⟩:=ZlU N.tape hu hp
 have hPR:=N.Zy p hp
 have hl:=N.tape.len
 have base:∀(m:Nd),m.up=n.up→m.data=n.data→m.Y4=n.data.length→m.own=Zhi p→m.Zy=none→m.known=n.known→m.log=n.log→m.queue=n.queue→(∀r,m.Zh=some r→RR g' M' i m r)→NR S g' M' i m:=fun m e1 e2 e3 e4 e5 e6 e7 e8 e9=>by
  have eA:QE m=Zhi p:=by rw[J6 (by rw[e1];exact hu),e4]
  refine⟨by rw[eA];exact A,by rw[eA];exact m',⟨fun _ _=>⟨by rw[e2,e4];exact t3,by rw[e3,e2]⟩,fun _ q hq=>(by rw[e5]at hq;cases hq),fun h=>(by rw[e1,hu]at h;cases h),by rw[e2];exact hl⟩,fun q hq=>(by rw[e5]at hq;cases hq),by rw[e6];exact r1,by rw[e7];exact r2,by rw[e8];exact N.que,e9⟩
 have rr:∀(m:Nd),m.known=n.known→m.log=n.log→∀r,RR g' M' i n r→RR g' M' i m r:=fun m e1 e2 r R=>⟨R.node,R.may,R.prom,R.pn,R.pr,R.safe,fun q s q1 q2 q3=>R.free q s (by rw[←e2];exact q1) q2 (by rw[←e1];exact q3),R.Xp⟩
 have pf:=A.pf G' hi m'
 refine⟨g',M',E,G',?_⟩
 cases p with
 | pro a to b vs=>
  obtain⟨rfl,rfl,h3⟩:=hPR
  show HR S g' M' i ⟨{ synced n with own:=⟨b,n.own.l⟩ },[⟨1,n.me,to,b,vt0,n.own.l⟩],[]⟩
  refine .one (base { synced n with own:=⟨b,n.own.l⟩ } rfl t1 t2 rfl rfl rfl rfl rfl fun r e=>rr { synced n with own:=⟨b,n.own.l⟩ } rfl rfl r (r3 r e)) hu ⟨fun _=>?_,fun e=>(by cases e),fun e=>(by cases e),fun e=>(by cases e),fun e=>(by cases e)⟩
  show PF g' M' (((n.me:Nat):Int)).toNat b n.own.l
  rw[Int.toNat_natCast,hme];exact pf
 | vot a to v=>
  obtain⟨rfl,h3,h4⟩:=hPR
  show HR S g' M' i ⟨{ synced n with own:=⟨v.b,Js n.own.l v⟩ },[⟨3,n.me,to,Jf,v,[]⟩],[]⟩
  refine .one (base { synced n with own:=⟨v.b,Js n.own.l v⟩ } rfl t1 t2 rfl rfl rfl rfl rfl fun r e=>rr { synced n with own:=⟨v.b,Js n.own.l v⟩ } rfl rfl r (r3 r e)) hu ⟨fun e=>(by cases e),fun e=>(by cases e),fun _=>?_,fun e=>(by cases e),fun e=>(by cases e)⟩
  show g'.V (((n.me:Nat):Int)).toNat v.b v.slot v.cm
  rw[Int.toNat_natCast,hme];exact hvt _ _ _ rfl
 | own a vs cur=>
  obtain⟨b,rfl,rfl,h3,h4⟩:=hPR
  show HR S g' M' i ⟨{ synced n with own:=⟨b,n.own.l⟩,Zh:=if cur=true then (synced n).Zh.map (fun r=>{ r with prom:=ins r.prom (synced n).me n.own.l }) else (synced n).Zh },[],[]⟩
  refine .same (base { synced n with own:=⟨b,n.own.l⟩,Zh:=if cur=true then (synced n).Zh.map (fun r=>{ r with prom:=ins r.prom (synced n).me n.own.l }) else (synced n).Zh } rfl t1 t2 rfl rfl rfl rfl rfl fun r e=>?_) hu
  cases hc:cur with
  | false=>
   have e:n.Zh=some r:=by
    have e:(if cur=true then (synced n).Zh.map (fun r=>{ r with prom:=ins r.prom (synced n).me n.own.l }) else (synced n).Zh)=some r:=e
    rw[hc]at e;exact e
   refine rr ?m ?a ?b r (r3 r e)
   ·rfl
   ·rfl
  | true=>
   obtain⟨r0,hr0,hb0⟩:=h4 hc
   have e:(if cur=true then (synced n).Zh.map (fun r=>{ r with prom:=ins r.prom (synced n).me n.own.l }) else (synced n).Zh)=some r:=e
   rw[hc,if_pos rfl,show (synced n).Zh=n.Zh from rfl,hr0]at e
   obtain rfl:=Option.some.inj e
   have R:=r3 r0 hr0
   have R2:RR g' M' i n { r0 with prom:=ins r0.prom ((n.me:Nat):Int) n.own.l }:=by
    refine⟨R.node,R.may,fun j vs q=>?_,R.pn,R.pr,R.safe,R.free,R.Xp⟩
    have q:Yp (ins r0.prom ((n.me:Nat):Int) n.own.l) j=some vs:=q
    rw[Jk]at q
    split at q
    ·rename_i qq
     cases q
     rw[←qq,Int.toNat_natCast,hme]
     have:PF g' M' i b n.own.l:=pf
     rw[←hb0]at this
     exact this
    ·exact R.prom j vs q
   exact⟨R2.node,R2.may,R2.prom,R2.pn,R2.pr,R2.safe,R2.free,R2.Xp⟩
theorem ZwL (hi:i<5) (G:GI S g M) {C:List Cm}:∀(k:List Y6) (n:Nd),NR S g M i n→n.up=true→n.Zy=none→JJ C i n→(∀l∈k,JI C l∧LR S g M l) →
  HR S g M i (drain n k)∧JJ C i (drain n k).n∧(∀l∈(drain n k).n.inbox,LR S g M l):=by
 intro k
 induction k with
 | nil=>
  intro n N hu hp NI _
  unfold drain
  exact⟨.same (N.box []) hu,{ NI with },fun l hl=>by cases hl⟩
 | cons l k ih=>
  intro n N hu hp NI hk
  unfold drain
  rw[if_neg (by rw[hp];decide)]
  have H:=Zuo hi G (N.box k) hu hp (NI.inbox k) (hk l (by simp)).1 (hk l (by simp)).2
  have I:=(Zhc hi (NI.inbox k) (hk l (by simp)).1).nd
  obtain⟨m,hm⟩:=Zx ((handle { n with inbox:=k } l).n)
  have Hn:=H.n
  have Hu:=H.up
  rw[←hm]at Hn Hu I
  rw[←hm]
  by_cases hpm:m.Zy=none
  ·obtain⟨h1,h2,h3⟩:=ih m Hn Hu hpm I (fun x hx=>hk x (by simp[hx]))
   refine⟨⟨h1.n,h1.up,fun x hx=>?_⟩,h2,h3⟩
   rcases List.mem_append.1 hx with hx|hx
   ·exact H.ls x hx
   ·exact h1.ls x hx
  ·have hs:m.Zy.isSome=true:=by
    cases q:m.Zy with
    | none=>exact (hpm q).elim
    | some _=>rfl
   have key:(drain m k).n = { m with inbox:=k }∧(drain m k).ls=[]:=by
    cases k with
    | nil=>unfold drain;exact⟨rfl,rfl⟩
    | cons a k=>unfold drain;rw[if_pos hs];exact⟨rfl,rfl⟩
   rw[key.1,key.2]
   refine⟨⟨Hn.box k,Hu,fun x hx=>?_⟩,I.inbox k,fun x hx=>(hk x (by
    have hx:x∈k:=hx
    simp[hx])).2⟩
   rcases List.mem_append.1 hx with hx|hx
   ·exact H.ls x hx
   ·cases hx
end
structure TS (S:Cm→Prop) (g:Gh) (M:Nat→Yw) (i:Nat) (o:Out) (g':Gh) (M':Nat→Yw):Prop where
 e:Ext i g M g' M'
 gi:GI S g' M'
 n:NR S g' M' i o.n
 ls:∀l∈o.ls,LR S g' M' l
 inb:∀l∈o.n.inbox,LR S g' M' l
section
variable {S:Cm→Prop} {g:Gh} {M:Nat→Yw} {i:Nat} {n:Nd}
theorem TS.still (G:GI S g M) (N:NR S g M i n) (hb:∀l∈n.inbox,LR S g M l):TS S g M i ⟨n,[],[]⟩ g M:=⟨Ext.refl _ _ _,G,N,(fun l hl=>by cases hl),hb⟩
theorem Zy6 (hi:i<5) (G:GI S g M) (N:NR S g M i n) {C:List Cm} (hC:C.length≤100000) (NI:JJ C i n) (hk:∀l∈n.inbox,JI C l∧LR S g M l):∃g' M',TS S g M i (step n) g' M':=by
 unfold step
 split
 ·rename_i hu
  split
  ·rename_i p hp
   obtain⟨g',M',E,G',H⟩:=Zut hi G N hu NI.me hp
   have hin:=(ZlK hi (ZlJ NI) (NI.Zy p hp)).2.2.1
   refine⟨g',M',E,G',H.n,H.ls,fun l hl=>?_⟩
   rw[hin]at hl
   exact (hk l hl).2.ext E
  ·rename_i hp
   obtain⟨H,I,B⟩:=ZwL hi G n.inbox n N hu hp NI hk
   split
   ·exact⟨g,M,Ext.refl _ _ _,G,H.n,H.ls,B⟩
   ·rename_i hpd
    have ZHa:(drain n n.inbox).n.Zy=none:=by
     cases q:(drain n n.inbox).n.Zy with
     | none=>rfl
     | some _=>rw[q]at hpd;exact (hpd rfl).elim
    obtain⟨g',M',E,G',D⟩:=Zy5 hi G H.n H.up ZHa I
    have hin:=(Zt3 hi hC I).2.2.1
    refine⟨g',M',E,G',D.n,fun l hl=>?_,fun l hl=>?_⟩
    ·rcases List.mem_append.1 hl with hl|hl
     ·exact (H.ls l hl).ext E
     ·exact D.ls l hl
    ·have hl:l∈(ZaI (drain n n.inbox).n).n.inbox:=hl
     rw[hin]at hl
     exact (B l hl).ext E
 ·exact⟨g,M,.still G N fun l hl=>(hk l hl).2⟩
theorem Zy7 (hi:i<5) (G:GI S g M) (N:NR S g M i n) {C:List Cm} (NI:JJ C i n):NR S g M i (lead n):=by
 unfold lead
 split
 ·exact N
 ·rename_i q
  have hu:n.up=true:=by
   cases e:n.up with
   | true=>rfl
   | false=>exact (q (.inl e)).elim
  have eA:=J6 hu
  have hM:=N.m
  rw[eA]at hM
  have hr:¬65536<(Xv n).r:=fun e=>q (.inr e)
  have ZL3:=NI.own.ZqX.1
  have hrr:n.own.p.r<(Xv n).r∧1≤(Xv n).r:=by
   unfold Xv
   simp only
   split<;>omega
  have hno:∀s x,¬g.P (Xv n) s x:=fun s x h=>by
   have:=G.own _ _ _ h
   rw[show (Xv n).n=((n.me:Nat):Int) from rfl,Int.toNat_natCast,NI.me,hM]at this
   exact this (.inl hrr.1)
  have hnb:(Xv n).n=i:=by rw[show (Xv n).n=((n.me:Nat):Int) from rfl,NI.me]
  refine⟨N.acc,N.m,⟨fun h1 h2=>N.tape.idle h1 ?_,fun h1 p hp=>?_,fun h=>?_,N.tape.len⟩,fun p hp=>?_,N.known,N.log,N.que,fun r e=>?_⟩
  ·have h2:Xb n.Zy=none:=h2
   cases e:n.Zy with
   | none=>rfl
   | some p=>rw[e]at h2;cases p<;>cases h2
  ·have hp:Xb n.Zy=some p:=hp
   cases e:n.Zy with
   | none=>rw[e]at hp;cases hp
   | some p0=>
    obtain⟨d,f,t1,t2,t3,t4⟩:=N.tape.busy hu p0 e
    refine⟨d,f,t1,t2,t3,?_⟩
    have:Zhi p=Zhi p0:=by
     rw[e]at hp
     cases p0<;>cases hp<;>rfl
    rw[this];exact t4
  ·have h:n.up=false:=h
   rw[hu]at h;cases h
  ·have hp:Xb n.Zy=some p:=hp
   cases e:n.Zy with
   | none=>rw[e]at hp;cases hp
   | some p0=>
    have P:=N.Zy p0 e
    rw[e]at hp
    cases p0 with
    | pro a to b vs=>cases hp;exact P
    | vot a to v=>cases hp;exact P
    | own a vs cur=>
     cases hp
     obtain⟨b,h1,h2,h3,_⟩:=P
     exact⟨b,h1,h2,h3,fun h=>by cases h⟩
  ·obtain rfl:=Option.some.inj e
   exact⟨hnb,⟨⟨hrr.2,by show (Xv n).r≤65536;omega⟩,by show 0≤(Xv n).n∧(Xv n).n≤4;rw[hnb];omega⟩,fun j vs h=>(by cases h),fun _ s x=>hno s x,fun s x h=>(hno s x h).elim,fun s x h=>(by cases h),fun h=>(by cases h),fun s K j h=>by cases h⟩
theorem ZfR {A:Qt} {up:Bool} {d:List Nat} {z:Int} (JR:AR g i (QE (blank i up d z A))) (hm:M i=(QE (blank i up d z A)).p) (ht:TR (blank i up d z A)):NR S g M i (blank i up d z A):=
 ⟨JR,hm,ht,fun p e=>(by cases e),fun s x e=>(by cases e),fun k x e=>(by simp[blank]at e),fun x e=>(by cases e),fun r e=>by cases e⟩
theorem ZhQ (i:Nat) (n:Nd) (Zc:Int) (hu:n.up=true):∃d z,crashed i n Zc=blank i false d z XR:=by
 unfold crashed
 rw[if_pos hu]
 split
 ·exact⟨_,_,rfl⟩
 ·exact⟨_,_,rfl⟩
theorem Zrc (G:GI S g M) (N:NR S g M i n) (hb:∀l∈n.inbox,LR S g M l) {Zc:Int} (hk:0≤Zc):∃g' M',TS S g M i ⟨crashed i n Zc,[],[]⟩ g' M':=by
 cases hu:n.up with
 | false=>
  have:crashed i n Zc=n:=by unfold crashed;rw[if_neg (by rw[hu];decide)]
  rw[this]
  exact⟨g,M,.still G N hb⟩
 | true=>
  obtain⟨t1,t2,t3⟩:=Zn3 N.tape hu hk (i:=i)
  obtain⟨d,z,e⟩:=ZhQ i n Zc hu
  rw[e]at t1 t2 t3 ⊢
  have eA:=J6 hu
  rcases t3 with t3|⟨p,hp,t3⟩
  ·have JR:=N.acc
   have hm:=N.m
   rw[eA,←t3]at JR hm
   exact⟨g,M,.still G (ZfR JR hm t1) (fun l hl=>by cases hl)⟩
  ·obtain⟨g',M',E,G',A,m',_,_⟩:=Zus G N hu hp
   rw[←t3]at A m'
   exact⟨g',M',E,G',ZfR A m' t1,(fun l hl=>by cases hl),fun l hl=>by cases hl⟩
theorem Zrd (N:NR S g M i n):NR S g M i (started i n):=by
 cases hu:n.up with
 | true=>
  have:started i n=n:=by unfold started;rw[if_pos hu]
  rw[this];exact N
 | false=>
  obtain⟨t1,t2,t3⟩:=Zn4 N.tape hu (i:=i)
  have JR:=N.acc
  have hm:=N.m
  have e2:=J6 t2
  rw[t3]at e2
  rw[←e2]at JR hm
  have e:∃d z A,started i n=blank i true d z A:=by
   unfold started
   rw[if_neg (by rw[hu];decide)]
   exact⟨_,_,_,rfl⟩
  obtain⟨d,z,A,e⟩:=e
  rw[e]at t1 JR hm ⊢
  exact ZfR JR hm t1
end
structure TI (S:Cm→Prop) (g:Gh) (M:Nat→Yw) (w:Wd):Prop where
 gi:GI S g M
 nd:∀i,i<5→NR S g M i (w.nodes i)
 fly:∀l∈w.Zl,LR S g M l
 inb:∀i,i<5→∀l∈(w.nodes i).inbox,LR S g M l
section
variable {S:Cm→Prop} {g:Gh} {M:Nat→Yw} {w:Wd}
theorem TI.out (T:TI S g M w) {i:Nat} {o:Out} {g':Gh} {M':Nat→Yw} (h:TS S g M i o g' M'):TI S g' M' (w.out i o):=by
 unfold Wd.out
 refine⟨h.gi,fun j hj=>?_,fun l hl=>?_,fun j hj l hl=>?_⟩
 ·by_cases e:j=i
  ·subst e;simpa using h.n
  ·simp only[if_neg e];exact (T.nd j hj).ext h.e e
 ·rcases List.mem_append.1 hl with hl|hl
  ·exact (T.fly l hl).ext h.e
  ·exact h.ls l hl
 ·by_cases e:j=i
  ·subst e;simp only[if_true]at hl;exact h.inb l hl
  ·simp only[if_neg e]at hl;exact (T.inb j hj l hl).ext h.e
theorem Zn9 (T:TI S g M w) {l:Y6} (hl:LR S g M l) (ht:0≤l.to∧l.to<5):TI S g M (UM w l):=by
 unfold UM
 split
 ·refine⟨T.gi,fun i hi=>?_,T.fly,fun i hi x hx=>?_⟩
  ·unfold Wd.set
   by_cases e:i=l.to.toNat
   ·simp only[if_pos e]
    rw[e]
    exact (T.nd _ (by omega)).box _
   ·simp only[if_neg e];exact T.nd i hi
  ·unfold Wd.set at hx
   by_cases e:i=l.to.toNat
   ·simp only[if_pos e]at hx
    rcases List.mem_append.1 hx with hx|hx
    ·exact T.inb _ (by omega) x hx
    ·rw[List.mem_singleton.1 hx];exact hl
   ·simp only[if_neg e]at hx;exact T.inb i hi x hx
 ·exact T
theorem ZwM:∀(ls:List Y6) (w:Wd),TI S g M w→(∀l∈ls,LR S g M l∧0≤l.to∧l.to<5)→TI S g M (ls.foldl UM w):=by
 intro ls
 induction ls with
 | nil=>intro w T _;exact T
 | cons l ls ih=>intro w T h;exact ih _ (Zn9 T (h l (by simp)).1 (h l (by simp)).2) (fun x hx=>h x (by simp[hx]))
theorem TI.Zxn (T:TI S g M w) {fl:List Y6} (h:∀l∈fl,l∈w.Zl):TI S g M { w with Zl:=fl }:=⟨T.gi,T.nd,fun l hl=>T.fly l (h l hl),T.inb⟩
theorem ZBP {C:List Cm} (hC:C.length≤100000) {k:Nat} (W:WI C k w) (T:TI S g M w) (a:Ac) (hi:a.node<5) (hk:0≤a.Zc) (hS:∀now:Nat,a.kind=1→Y8 a.data now=0→S (Ui a.data now)) :
  ∃g' M',(∀j b s x,g.V j b s x→g'.V j b s x)∧TI S g' M' (act w a):=by
 have same:∀{v:Wd},TI S g M v→∃g' M',(∀j b s x,g.V j b s x→g'.V j b s x)∧TI S g' M' v:=fun h=>⟨g,M,fun _ _ _ _ h=>h,h⟩
 have N:=T.nd a.node hi
 have NI:=W.nd a.node hi
 unfold act
 split
 ·rename_i hk1
  refine same ?_
  unfold Zc9
  split
  ·split
   ·exact⟨T.gi,T.nd,T.fly,T.inb⟩
   ·rename_i q
    split
    ·exact⟨T.gi,T.nd,T.fly,T.inb⟩
    ·rw[Zau]
     have hx:=hS _ hk1 (by simpa using q)
     obtain⟨A,_,_⟩:=Zxl N hx
     have s1:(add (w.nodes a.node) (Ui a.data (w.nodes a.node).log.length)).inbox=(w.nodes a.node).inbox:=by unfold add;split<;>rfl
     refine T.out ⟨Ext.refl _ _ _,T.gi,?_,(fun l hl=>by cases hl),fun l hl=>?_⟩
     ·unfold ZeB
      simp only
      split
      ·exact A
      ·exact⟨A.acc,A.m,⟨A.tape.idle,A.tape.busy,A.tape.down,A.tape.len⟩,fun p e=>(by have:=A.Zy p e;cases p<;>exact this),A.known,A.log,A.que,fun r e=>by
        have R:=A.Zh r e
        exact⟨R.node,R.may,R.prom,R.pn,R.pr,R.safe,R.free,R.Xp⟩⟩
     ·have s2:(ZeB (add (w.nodes a.node) (Ui a.data (w.nodes a.node).log.length)) (Ui a.data (w.nodes a.node).log.length)).inbox=(w.nodes a.node).inbox:=by
       unfold ZeB;split<;>exact s1
      exact T.inb _ hi l (by rw[←s2];exact hl)
  ·exact T
 split
 ·refine same ?_
  rw[Zau]
  refine T.out ⟨Ext.refl _ _ _,T.gi,Zy7 hi T.gi N NI,(fun l hl=>by cases hl),fun l hl=>?_⟩
  have hl:l∈(lead (w.nodes a.node)).inbox:=hl
  rw[(Zt5 NI).2.1]at hl
  exact T.inb _ hi l hl
 split
 ·obtain⟨g',M',h⟩:=Zy6 hi T.gi N hC NI (fun l hl=>⟨W.inb _ hi l hl,T.inb _ hi l hl⟩)
  exact⟨g',M',h.e.v,T.out h⟩
 split
 ·refine same ?_
  unfold pick
  split
  ·exact T
  ·rename_i l hl
   have hlm:l∈w.Zl:=List.mem_of_getElem? hl
   have T2:=T.Zxn (fl:=w.Zl.eraseIdx (a.at'%w.Zl.length)) (fun x hx=>List.mem_of_mem_eraseIdx hx)
   have ht:=(W.fly l hlm).to
   split
   ·split
    ·exact Zn9 T (T.fly l hlm) ht
    ·exact Zn9 T2 (T.fly l hlm) ht
   ·split
    ·exact T
    ·exact T2
 split
 ·exact same (ZwM _ _ (T.Zxn (fl:=[]) (fun l hl=>by cases hl)) (fun l hl=>⟨T.fly l hl,(W.fly l hl).to⟩))
 split
 ·obtain⟨g',M',h⟩:=Zrc T.gi N (T.inb _ hi) hk
  rw[Zau]
  exact⟨g',M',h.e.v,T.out h⟩
 ·refine same ?_
  rw[Zau]
  refine T.out ⟨Ext.refl _ _ _,T.gi,Zrd N,(fun l hl=>by cases hl),fun l hl=>?_⟩
  rcases (ZiF NI (i:=a.node)).2 with⟨q,_⟩|q
  ·have hl:l∈(started a.node (w.nodes a.node)).inbox:=hl
   rw[q]at hl;cases hl
  ·have hl:l∈(started a.node (w.nodes a.node)).inbox:=hl
   rw[q]at hl
   exact T.inb _ hi l hl
def gh0:Gh:=⟨fun _ _ _ _=>False,fun _ _ _=>False⟩
theorem Zuu:TI S gh0 (fun _=>Jf) ZaJ:=by
 refine⟨⟨fun _ _ _ _ h=>h.elim,fun _ _ _ _ h=>h.elim,fun _ _ _ _ h=>h.elim,fun _ _ _ h=>h.elim,fun _ _ _ h=>h.elim,fun _ _ _ h=>h.elim,fun _ _ _ h=>h.elim⟩,fun i hi=>?_,(fun l hl=>by cases hl),fun i hi l hl=>by cases hl⟩
 exact ZfR ⟨fun v hv=>(by cases hv),fun _ _ _ h=>h.elim⟩ rfl (Zul i)
def Zy8 (S:Cm→Prop) (C:List Cm) (a:Ac):Prop:=(a.node<5∧Zdi a.data∈C)∧0≤a.Zc∧∀now:Nat,a.kind=1→Y8 a.data now=0→S (Ui a.data now)
theorem Zxo {C:List Cm} (hC:C.length≤100000):∀(l:List Ac) (k:Nat) (w:Wd) (g:Gh) (M:Nat→Yw),WI C k w→TI S g M w→(∀a∈l,Zy8 S C a) →
  ∃g' M',(∀j b s x,g.V j b s x→g'.V j b s x)∧TI S g' M' (l.foldl act w)∧WI C (k+l.length) (l.foldl act w):=by
 intro l
 induction l with
 | nil=>intro k w g M W T _;exact⟨g,M,fun _ _ _ _ h=>h,T,W⟩
 | cons a l ih=>
  intro k w g M W T hl
  obtain⟨h1,h2,h3⟩:=hl a (by simp)
  obtain⟨g1,M1,v1,T1⟩:=ZBP hC W T a h1.1 h2 h3
  obtain⟨g2,M2,v2,T2,W2⟩:=ih (k+1) (act w a) g1 M1 (Zxj hC W a h1.1 h1.2) T1 (fun x hx=>hl x (by simp[hx]))
  refine⟨g2,M2,fun _ _ _ _ h=>v2 _ _ _ _ (v1 _ _ _ _ h),T2,?_⟩
  rw[List.length_cons,show k+(l.length+1)=k+1+l.length by omega]
  exact W2
theorem Zhk {C:List Cm} (hC:C.length≤100000) (l:List Ac) (hl:∀a∈l,Zy8 S C a) (p q:Nat) (hpq:p≤q) (i j:Nat) (hi:i<5) (hj:j<5) (s:Nat) (x y:Cm)
  (hx:((Za7 (l.take p)).nodes i).log[s]? = some x) (hy:((Za7 (l.take q)).nodes j).log[s]? = some y):x=y:=by
 obtain⟨g1,M1,_,T1,W1⟩:=Zxo hC (l.take p) 0 ZaJ gh0 (fun _=>Jf) (Zhh C) Zuu (fun a ha=>hl a (List.mem_of_mem_take ha))
 have e:l.take q=l.take p++(l.take q).drop p:=by
  have:=(List.take_append_drop p (l.take q)).symm
  rwa [List.take_take,Nat.min_eq_left hpq]at this
 obtain⟨g2,M2,v2,T2,_⟩:=Zxo hC ((l.take q).drop p) _ (Za7 (l.take p)) g1 M1 W1 T1 (fun a ha=>hl a (List.mem_of_mem_take (List.mem_of_mem_drop ha)))
 have e2:Za7 (l.take q)=((l.take q).drop p).foldl act (Za7 (l.take p)):=by
  conv=>lhs;rw[e]
  unfold Za7
  rw[List.foldl_append]
 rw[←e2]at T2
 have c1:=(T1.nd i hi).log s x hx
 have c2:=(T2.nd j hj).log s y hy
 obtain⟨Q,b,hQ,hv⟩:=c1
 exact Qg.one T2.gi ⟨Q,b,hQ,fun k hk=>v2 _ _ _ _ (hv k hk)⟩ c2
end
def alk (a b:List Cm):Bool:=decide (∀i:Nat,i<a.length→i<b.length→a[i]? = b[i]?)
theorem Zuv {a b:List Cm} (h:∀(i:Nat) x y,a[i]? = some x→b[i]? = some y→x=y):alk a b=true:=by
 unfold alk
 refine decide_eq_true fun i h1 h2=>?_
 rw[List.getElem?_eq_getElem h1,List.getElem?_eq_getElem h2,h i _ _ (List.getElem?_eq_getElem h1) (List.getElem?_eq_getElem h2)]
theorem Zuw (T:World) (h:Hp) (u v:Value) (a b:List Cm) (su:Ts J7.C 5 h u a) (sv:Ts J7.C 5 h v b) (hl:a.length≤1000000) :
  Zd Tryz.prog T 11 #[u,v] h fun v' h'=>v'=.bool (alk a b)∧h'=h:=by
 obtain⟨p,c,rfl,YR⟩:=X7 su
 obtain⟨q,d,rfl,hds⟩:=X7 sv
 refine Zd.Zi (args:=[_,_]) Tryz.func11 rfl rfl rfl rfl ?_
 simp -implicitDefEqProofs only[go_sem,↓reduceIte]
 refine VS.ZW (fun F g=>g=h∧F 0=.slice p a.length c∧F 1=.slice q b.length d∧∃i:Nat,i≤a.length∧F 5=.int .i64 i∧∀j,j<i→j<a.length→j<b.length→a[j]? = b[j]?)
  (fun F _=>a.length-(vi (F 5)).toNat) rfl ⟨rfl,rfl,rfl,0,by omega,rfl,fun j hj=>by omega⟩ ?_
 rintro F g ⟨rfl,f0,f1,i,hi,f5,YU⟩
 by_cases hla:i<a.length
 ·have Zux:(i:Int)<a.length:=by omega
  by_cases hlb:i<b.length
  ·have ZwN:(i:Int)<b.length:=by omega
   obtain⟨bb,oo,rfl,hbb,ZgC⟩:=YR (by intro e;rw[e]at hla;simp at hla)
   obtain⟨b2,o2,rfl,ZBc,ZHb⟩:=hds (by intro e;rw[e]at hlb;simp at hlb)
   have r1:=ZgC i hla
   have r2:=ZHb i hlb
   simp -implicitDefEqProofs only[go_sem,↓reduceIte,f0,f1,f5,Zux,ZwN]
   refine VS.q mixed (by kernel_rfl) ?_
   simp -implicitDefEqProofs only[go_sem,↓reduceIte,f0,f1,f5,Zux,ZwN,r1,r2]
   by_cases e:a[i]=b[i]
   ·simp -implicitDefEqProofs only[go_sem,↓reduceIte,e,f0,f1,f5]
    refine⟨⟨rfl,f0,f1,i+1,hla,rfl,fun j hj h1 h2=>?_⟩,?_⟩
    ·by_cases ej:j=i
     ·subst ej
      rw[List.getElem?_eq_getElem h1,List.getElem?_eq_getElem h2,e]
     ·exact YU j (by omega) h1 h2
    ·simp only[vi,Zk,↓reduceIte,f5];omega
   ·have en:alk a b=false:=decide_eq_false fun h=>e (by
     have:=h i hla hlb
     rw[List.getElem?_eq_getElem hla,List.getElem?_eq_getElem hlb]at this
     exact Option.some.inj this)
    rw[en]
    simp -implicitDefEqProofs only[go_sem,↓reduceIte,e]
  ·have ZwN:¬(i:Int)<b.length:=by omega
   have et:alk a b=true:=decide_eq_true fun j h1 h2=>YU j (by omega) h1 h2
   rw[et]
   simp -implicitDefEqProofs only[go_sem,↓reduceIte,f0,f1,f5,Zux,ZwN]
 ·have Zux:¬(i:Int)<a.length:=by omega
  have et:alk a b=true:=decide_eq_true fun j h1 h2=>YU j (by omega) h1 h2
  rw[et]
  simp -implicitDefEqProofs only[go_sem,↓reduceIte,f0,f1,f5,Zux]
theorem Zre (g:Gr):(Zbf g).length≤63:=by
 unfold Zbf Zy1
 split
 ·unfold Zqt
  have:=Ztl (Uz (gCm g).c.toNat) (Qa g.a 1000).toNat (Ztk (gTc g) (gTr g) 60 (gCm g).k (gCm g).c (gCm g).s (gCm g).n (gCm g).v)
  have e:(Ztk (gTc g) (gTr g) 60 (gCm g).k (gCm g).c (gCm g).s (gCm g).n (gCm g).v).length=42:=by
   unfold Ztk
   rw[List.length_append,Zfd,ZA];rfl
  rw[List.length_cons];omega
 ·simp
theorem Zrf (g:Gr):(Zcb g).length≤63:=by
 have:=Zre g
 unfold Zcb
 split
 ·rw[List.length_take];omega
 ·exact this
theorem Zuy (g:Gr) (cr:Bool):(ZaN g cr).err=0:=by
 have h1:=UF g.a (m:=5) (by omega)
 have h2:=UF g.c (m:=20) (by omega)
 have h3:=UF g.c (m:=90) (by omega)
 have h4:=Zrf g
 have mk:∀(k n a b:Int) (len:Nat),(1≤k∧k≤9)→(YO k∧(0≤n∧n≤4)∨¬YO k∧n=0)→(Jl k∧(0≤a∧a≤1048576)∨¬Jl k∧a=0)→(k=8∧(0≤b∧b≤100000)∨k≠8∧b=0)→len≤2000→(k=1∨len=0)→Qy k n a b len=0:=fun k n a b len q1 q2 q3 q4 q5 q6=>by
  unfold YO at q2
  unfold Jl at q3
  unfold Qy YO Jl
  rw[if_neg (by omega),if_neg (by omega),if_neg (by omega),if_neg (by omega)]
 unfold ZaN
 repeat' split
 all_goals
  unfold Raw.err
  refine mk _ _ _ _ _ ?_ ?_ ?_ ?_ ?_ ?_
 all_goals simp[YO,Jl]
 all_goals omega
theorem Zuz (gs:List Gr) (cr:Bool):∀j,∀x∈(Zcc gs cr j).2,x.err=0:=by
 have key:∀(l:List Gr) (st:Nat × List Raw),(∀x∈st.2,x.err=0)→∀x∈(l.foldl (Zcw cr) st).2,x.err=0:=by
  intro l
  induction l with
  | nil=>intro st h;exact h
  | cons g l ih=>
   intro st h
   refine ih _ (fun x hx=>?_)
   unfold Zcw at hx
   rcases List.mem_append.1 hx with hx|hx
   ·exact h x hx
   ·rw[List.mem_singleton.1 hx]
    unfold ZcB
    split
    ·rfl
    ·exact Zuy g cr
 intro j
 exact key _ _ (fun x hx=>by cases hx)
theorem ZwO (gs:List Gr) (XB:Nat) (cr:Bool):∀x∈scr gs XB cr,x.err=0:=Zuz gs cr XB
theorem ZwP (gs:List Gr) (XB:Nat) (cr:Bool):(scr gs XB cr).length≤XB:=by
 unfold scr
 by_cases h:XB≤gs.length
 ·rw[(Zed gs cr XB h).1];exact Nat.le_refl _
 ·rw[ZlO gs cr XB (by omega),(Zed gs cr gs.length (Nat.le_refl _)).1];omega
theorem ZlV {l:List Raw} (h:∀x∈l,x.err=0) (hl:l.length≤100000):U6 l=0:=by
 unfold U6
 rw[if_neg (by omega)]
 exact Zca h
theorem Zoa {A:List Raw} (hA:∀x∈A,x.err=0) (hl:A.length≤100000) (p q i j:Nat) (hi:i<5) (hj:j<5) (s:Nat) (x y:Cm) (hx:((wOf (A.take p)).nodes i).log[s]? = some x) (hy:((wOf (A.take q)).nodes j).log[s]? = some y):x=y:=by
 obtain⟨acs,ZnY⟩:=Zx (A.map Raw.ac)
 obtain⟨C,hC⟩:=Zx (A.map fun x=>Zdi x.data)
 have hCl:C.length≤100000:=by rw[hC,List.length_map];exact hl
 have ok:∀a∈acs,Zy8 (fun _=>True) C a:=fun a ha=>by
  rw[ZnY]at ha
  obtain⟨z,hz,rfl⟩:=List.mem_map.1 ha
  obtain⟨_,q2,_,q4,_⟩:=ZjK (hA z hz)
  refine⟨⟨by unfold Raw.ac;simp only;omega,?_⟩,q4.1,fun _ _ _=>trivial⟩
  rw[hC]
  exact List.mem_map.2 ⟨z,hz,rfl⟩
 have e:∀p,wOf (A.take p)=Za7 (acs.take p):=fun p=>by unfold wOf;rw[List.map_take,ZnY]
 rw[e]at hx hy
 rcases Nat.le_total p q with h|h
 ·exact Zhk hCl acs ok p q h i j hi hj s x y hx hy
 ·exact (Zhk hCl acs ok q p h j i hj hi s y x hy hx).symm
theorem ZwQ {A:List Raw} (hA:∀x∈A,x.err=0) (hl:A.length≤100000) (i:Nat) (hi:i<5):((wOf A).nodes i).log.length≤40:=by
 obtain⟨C,hC⟩:=Zx (A.map fun x=>Zdi x.data)
 have hCl:C.length≤100000:=by rw[hC,List.length_map];exact hl
 have:=Zud hCl (A.map Raw.ac) 0 ZaJ (Zhh C) (fun a ha=>by
  obtain⟨z,hz,rfl⟩:=List.mem_map.1 ha
  obtain⟨_,q2,_,_,_⟩:=ZjK (hA z hz)
  refine⟨by unfold Raw.ac;simp only;omega,?_⟩
  rw[hC]
  exact List.mem_map.2 ⟨z,hz,rfl⟩)
 exact (this.nd i hi).ZjI
theorem ZwR {α β:Type} {R:α→β→Prop} {l:List α} {k:List β} (s:Al2 R l k):∀(i:Nat) (h1:i<l.length) (h2:i<k.length),R l[i] k[i]:=by
 induction s with
 | nil=>intro i h1;cases h1
 | cons a _ ih=>
  intro i h1 h2
  cases i with
  | zero=>exact a
  | succ i=>exact ih i (by simpa using h1) (by simpa using h2)
def ZBQ (w:Wd):List (List Cm):=[(w.nodes 0).log,(w.nodes 1).log,(w.nodes 2).log,(w.nodes 3).log,(w.nodes 4).log]
theorem Zrg (w:Wd) (i:Nat) (hi:i<5):(ZBQ w)[i]'hi=(w.nodes i).log:=by
 match i,hi with
 | 0,_=>rfl
 | 1,_=>rfl
 | 2,_=>rfl
 | 3,_=>rfl
 | 4,_=>rfl
theorem ZnW.log {h:Hp} {R:List Value} {w:Wd} {lv tv:Value} {vs:List Value} (s:ZnW h R w lv tv vs):∃b o c,lv=.slice (some ⟨b,o,none⟩) 5 c∧b<h.size∧∀n,n<5→∃x,hc h ⟨b,o+n,none⟩=some x∧Ts J7.C 5 h x (w.nodes n).log:=by
 have vl:vs.length=5:=ZoY s.each
 obtain⟨p,c,rfl,YR⟩:=s.Zt8.open (n:=1) (enc:=fun v=>[v]) (fun _=>rfl) (show (1:Nat)≠0 by decide)
 obtain⟨b,o,rfl,hb,hh⟩:=YR (by intro e;rw[e]at vl;cases vl)
 refine⟨b,o,c,by rw[vl],hb,fun n hn=>⟨vs[n],?_,?_⟩⟩
 ·have:=hh n (by omega)
  have:=this.hc (i:=0) rfl
  rw[Nat.mul_one]at this
  exact this
 ·have:=ZwR s.each n (by omega) hn
  rw[show ([(w.nodes 0).log,(w.nodes 1).log,(w.nodes 2).log,(w.nodes 3).log,(w.nodes 4).log]:List (List Cm))[n]'hn=(w.nodes n).log from Zrg w n hn]at this
  exact this
set_option maxHeartbeats 4000000 in
theorem ZuA (T:World) (h:Hp) (v:Value) (gs:List Gr) (hv:Ts Gr.C 5 h v gs) (hg:∀g∈gs,g.ok) (tb:Tbs noO h) :
  Zd Tryz.prog T 4 #[v] h fun v' h'=>v'=.bool true∧Zf h.size h h':=by
 have tk:Tk h:=tb.tk
 refine Zd.Zi (args:=[_]) Tryz.func4 rfl rfl rfl rfl ?_
 simp -implicitDefEqProofs only[go_sem,↓reduceIte]
 refine (Zq5 T h v gs 60 true hv hg (by omega) tk).use ?_
 rintro v1 h1 ⟨b1,JO,xs,hr,t1,i1⟩
 obtain⟨A,hA⟩:=Zx (scr gs 60 true)
 rw[←hA]at hr
 have Ae:∀x∈A,x.err=0:=by rw[hA];exact ZwO _ _ _
 have Al:A.length≤60:=by rw[hA];exact ZwP _ _ _
 have xl:xs.length=A.length:=by rw[←hr];unfold Xw;simp
 have k1:Kp J9 noO h noO h1:=ZB (Zdg h) b1
 have tb1:=tb.Zc k1
 simp -implicitDefEqProofs only[go_sem,↓reduceIte]
 refine (ZlQ T h1 v1 xs t1 JO i1 tb1 (by omega) (fun k hk=>by rw[hr];exact ZlV (fun x hx=>Ae x (List.mem_of_mem_take hx)) (by rw[List.length_take];omega))).use ?_
 rintro _ h2 ⟨b2,w,rows,rfl,tr,rl,Zm9⟩
 rw[hr]at Zm9
 have B2:Zf h.size h h2:=b1.trans (b2.mono b1.size)
 obtain⟨p,c,rfl,YR⟩:=tr.open Zue (by decide)
 obtain⟨bb,oo,rfl,hbb,ZbE⟩:=YR (by intro e;rw[e]at rl;simp at rl)
 have hrl:rows.length≤61:=by omega
 have ZBR:∀i (hi:i<rows.length),∃bl ol cl,hc h2 ⟨bb,oo+i*13+6,none⟩=some (.slice (some ⟨bl,ol,none⟩) 5 cl)∧bl<h2.size∧∀n,n<5→∃x,hc h2 ⟨bl,ol+n,none⟩=some x∧Ts J7.C 5 h2 x ((wOf (A.take i)).nodes n).log:=fun i hi=>by
  obtain⟨e1,vs,ra⟩:=Zm9 i hi
  obtain⟨bl,ol,cl,e2,hbl,hx⟩:=ra.log
  refine⟨bl,ol,cl,?_,hbl,fun n hn=>?_⟩
  ·have:=(ZbE i hi).hc (i:=6) (x:=rows[i].2.1) rfl
   rw[e2]at this
   exact this
  ·obtain⟨x,q1,q2⟩:=hx n hn
   rw[e1]at q2
   exact⟨x,q1,q2⟩
 have up0:hc h2 ⟨bb,oo+1,none⟩=some (.bool true):=by
  have:=(ZbE 0 (by omega)).hc (i:=1) (x:=.bool (rows[0].1.nodes 0).up) rfl
  rw[(Zm9 0 (by omega)).1,Nat.zero_mul,Nat.add_zero]at this
  exact this
 have ZBS:∀(M:List Cm),(∀(s:Nat) x,M[s]? = some x→∃p n,n<5∧((wOf (A.take p)).nodes n).log[s]? = some x)→∀i n,n<5→alk ((wOf (A.take i)).nodes n).log M=true:=fun M hM i n hn=>Zuv fun s x y q1 q2=>by
  obtain⟨p,m,hm,q3⟩:=hM s y q2
  exact Zoa Ae (by omega) i p n m hn hm s x y q1 q3
 have ZHc:∀i n,n<5→((wOf (A.take i)).nodes n).log.length≤40:=fun i n hn=>ZwQ (fun x hx=>Ae x (List.mem_of_mem_take hx)) (by rw[List.length_take];omega) n hn
 simp -implicitDefEqProofs only[go_sem,↓reduceIte]
 refine VS.ZW (fun F g=>g=h2∧F 3=.slice (some ⟨bb,oo,none⟩) rows.length c∧F 4=.bool true∧∃(i:Nat) (M:List Cm),i≤rows.length∧F 6=.int .i64 i∧Ts J7.C 5 h2 (F 5) M∧∀(s:Nat) x,M[s]? = some x→∃p n,n<5∧((wOf (A.take p)).nodes n).log[s]? = some x)
  (fun F _=>rows.length-(vi (F 6)).toNat) rfl ⟨rfl,rfl,rfl,0,[],Nat.zero_le _,rfl,⟨(Qq.nil 0 0 5 h2).sl⟩,fun s x q=>by cases q⟩ ?_
 rintro F2 g2 ⟨rfl,f3,f4,i,M,hi,f6,tM,hM⟩
 by_cases ZD:i<rows.length
 ·have ZL:(i:Int)<rows.length:=by omega
  obtain⟨bl,ol,cl,ZBT,hbl,hx⟩:=ZBR i ZD
  simp -implicitDefEqProofs only[go_sem,↓reduceIte,f3,f4,f6,ZL]
  refine VS.ZW (fun F g=>g=g2∧F 3=.slice (some ⟨bb,oo,none⟩) rows.length c∧F 4=.bool true∧F 6=.int .i64 i∧∃(n:Nat) (M:List Cm),n≤5∧F 7=.int .i64 n∧Ts J7.C 5 g2 (F 5) M∧∀(s:Nat) x,M[s]? = some x→∃p n,n<5∧((wOf (A.take p)).nodes n).log[s]? = some x)
   (fun F _=>5-(vi (F 7)).toNat) rfl ⟨rfl,f3,f4,f6,0,M,Nat.zero_le _,rfl,tM,hM⟩ ?_
  clear f3 f4 f6 tM hM
  rintro F3 g3 ⟨rfl,f3,f4,f6,n,N,hn,f7,tN,hN⟩
  by_cases QX:n<5
  ·have ZHd:(n:Int)<5:=by omega
   obtain⟨x,rx,tx⟩:=hx n QX
   obtain⟨px,cx,rfl,_⟩:=X7 tx
   obtain⟨pn,cn,f5,_⟩:=X7 tN
   rw[f5]at tN
   have ca:=Zuw T g3 _ _ _ N tx tN (by have:=ZHc i n QX;omega)
   rw[ZBS N hN i n QX]at ca
   obtain⟨L,hL⟩:=Zx (((wOf (A.take i)).nodes n).log)
   rw[←hL]at tx rx ca
   simp -implicitDefEqProofs only[go_sem,↓reduceIte,f3,f4,f6,f7,ZL,ZHd,ZBT,rx,f5]
   refine ca.pure ?_
   by_cases hgt:(L.length:Int)>N.length
   ·simp -implicitDefEqProofs only[go_sem,↓reduceIte,f5,hgt,f7]
    unfold Xo
    refine⟨⟨rfl,f3,f4,f6,n+1,L,QX,rfl,tx,fun s y q=>⟨i,n,QX,by rw[←hL];exact q⟩⟩,?_⟩
    simp only[vi,Zk,↓reduceIte,f7];omega
   ·simp -implicitDefEqProofs only[go_sem,↓reduceIte,f5,hgt,f7]
    unfold Xo
    refine⟨⟨rfl,f3,f4,f6,n+1,N,QX,rfl,by rw[←f5]at tN;exact tN,hN⟩,?_⟩
    simp only[vi,Zk,↓reduceIte,f7];omega
  ·obtain rfl:n=5:=by omega
   simp -implicitDefEqProofs only[go_sem,↓reduceIte,f3,f4,f6,f7,ZL,ZBT]
   unfold Xo
   refine⟨⟨rfl,f3,f4,i+1,N,ZD,rfl,tN,hN⟩,?_⟩
   simp only[vi,Zk,↓reduceIte,f6];omega
 ·have YK:¬(i:Int)<rows.length:=by omega
  simp -implicitDefEqProofs only[go_sem,↓reduceIte,f3,f4,f6,YK,up0]
  exact B2
def TkM (h:Hp):Prop:=Tk h∧Tab 0 niv ZbH h
theorem TkM.tbs {h:Hp} (t:TkM h):Tbs noO h:=⟨t.1,t.2,rfl,rfl⟩
theorem ZuB {W:World} (h:laidMetH Tryz.prog [("conclave/sha.numbers", Rows.laid_conclave_sha_numbers),("conclave/order.need", Rows.laid_conclave_order_need)] W):TkM W.heap:=by
 constructor
 ·have h1:=h.filter (fun x=>x.1 == "conclave/sha.numbers")
  exact Zyj h1
 ·have h1:=h.filter (fun x=>x.1 == "conclave/order.need")
  exact ZvN h1
theorem Zrh (os:Os) (args:Array Value):laidMetH Tryz.prog [("conclave/sha.numbers", Rows.laid_conclave_sha_numbers),("conclave/order.need", Rows.laid_conclave_order_need)] ((World.doorLaid Tryz.prog 87 os).forCall (fun _ _=>0) ⟨#[],args,[]⟩).memory:=
 laidMetH_of_parts3 (fuel:=8) (laidMet_of_run' 8 (by kernel_rfl) (by kernel_rfl)) (by kernel_rfl) (by kernel_rfl)
theorem Zri {h:Hp} {k:Nat} {v:Value} (hv:fit Tryz.prog h k 36 [v]):∃gs,Ts Gr.C 5 h v gs∧∀g∈gs,g.ok:=by
 obtain⟨gs,s,JL,_⟩:=ZpF (α:=Gr) (enc:=Gr.C) (n:=5) (ok:=fun g=>g.ok) Tryz.underlying36 (by kernel_rfl) (by decide) (fun _=>rfl) (fun k ds hfe=>by
  have hlen:ds.length=5:=by
   cases k with
   | zero=>exact hfe.elim
   | succ k=>unfold fit at hfe;rw[Tryz.underlying83]at hfe;exact hfe.1
  have hL:=Zsf (P:=Tryz.prog) (h:=h) 8 k 83 ds (rep 5 [3]) (by kernel_rfl) (by rw[hlen];decide) hfe
  obtain⟨a0,_,rfl,q0,p0,hL⟩:=ZbN Tryz.underlying3 hL
  obtain⟨a1,_,rfl,q1,p1,hL⟩:=ZbN Tryz.underlying3 hL
  obtain⟨a2,_,rfl,q2,p2,hL⟩:=ZbN Tryz.underlying3 hL
  obtain⟨a3,_,rfl,q3,p3,hL⟩:=ZbN Tryz.underlying3 hL
  obtain⟨a4,_,rfl,q4,p4,hL⟩:=ZbN Tryz.underlying3 hL
  obtain rfl:=Zsg hL
  have mk:∀n:Int,-9223372036854775808≤n→n≤9223372036854775807→i64 n:=fun n h1 h2=>⟨h1,by omega⟩
  exact⟨⟨a0,a1,a2,a3,a4⟩,⟨⟨mk _ q0 p0,mk _ q1 p1⟩,mk _ q2 p2,mk _ q3 p3,mk _ q4 p4⟩,rfl⟩) hv
 exact⟨gs,⟨s⟩,JL⟩
end Go.Proofs.YtnhbpmoeaodmnaaGreatDoor
