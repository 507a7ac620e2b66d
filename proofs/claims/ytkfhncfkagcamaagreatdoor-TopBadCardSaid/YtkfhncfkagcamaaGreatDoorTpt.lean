/- The outcome of a script, and logs compared: what the small functions compute; no condition but those in the statements. -/
import Derived.Test.YtkfhncfkagcamaaGreatDoorTpb
import Derived.Test.YtkfhncfkagcamaaGreatDoorMop
import Derived.Test.YtkfhncfkagcamaaGreatDoorTab
import Derived.LaidSub
namespace Go.Proofs.YtkfhncfkagcamaaGreatDoor
open Go Go.V
set_option linter.unusedSimpArgs false
set_option linter.unusedVariables false
set_option maxRecDepth 100000
def SN (l:List Raw):Wd:=SV (l.map Raw.ac)
theorem Ck {h:Hp} {v:Value} {l:List (Raw × Value)} (s:Ts Qk 5 h v l):∃p c,v=.slice p l.length c:=by
 obtain⟨p,c,h,_⟩:=OX s;exact⟨p,c,h⟩
theorem dD {α β:Type} {R:α→β→Prop} {l:List α} {k:List β} (h:Et R l k):l.length=k.length:=by
 induction h with
 | nil=>rfl
 | cons _ _ ih=>rw[List.length_cons,List.length_cons,ih]
set_option maxHeartbeats 4000000 in
theorem Ft (T:World) (h:Hp) (v:Value) (xs:List (Raw × Value)) (hv:Ts Qk 5 h v xs) (hx:∀x∈xs,Ti Wl h x.2 x.1.data) (tb:Fb Wl h) (Mp:xs.length≤4611686018427387904) (hz:Wa (YU xs)=0) :
  Zd Tryz.prog T 20 #[v] h fun v' h'=>(∃lv tv vs,v'=.tuple #[.agg (HS (SN (YU xs)) lv tv).toArray,.bool true]∧QB (h.size+1) h' (HS (SN (YU xs)) lv tv) (SN (YU xs)) lv tv vs)∧Ze h.size h h':=by
 obtain⟨p,c,DT⟩:=Ck hv
 subst DT
 refine Zd.Zi (args:=[_]) Tryz.func20 rfl rfl rfl rfl ?_
 obtain⟨h0,XR⟩:=Zu (h.push (.cells jD.toArray 33):Hp)
 have e0:=XR.symm
 have b0:Ze h.size h h0:=by rw[XR];exact (Ze.refl _ _).add _
 have z0:h0[h.size]? = some (.cells jD.toArray 33):=by rw[XR];exact Zb
 have k0:Kp JK Wl h Wl h0:=Zs (JQ h) b0
 unfold jD at e0
 simp -implicitDefEqProofs only[go_sem,↓reduceIte,e0]
 refine (vJ T h0 _ xs (hv.Z4 b0) (fun x jE=>(hx x jE).Zc k0) (tb.Zc k0) Mp).use ?_
 rintro v1 h1 ⟨b1,r1⟩
 have B1:=b0.trans (b1.mono b0.size)
 unfold HT at r1
 rw[if_pos hz]at r1
 obtain⟨R,lv,tv,vs,rfl,rf⟩:=r1
 have ra:=rf.at
 obtain⟨pl,cl,hl,_⟩:=ra.aK.open (n:=1) (enc:=fun v=>[v]) (fun _=>rfl) (show (1:Nat)≠0 by decide)
 have vl:vs.length=5:=dD ra.each
 subst hl
 rw[vl]at *
 have rc:=ra.cells
 subst rc
 obtain⟨R,hR⟩:=Zu (HS (SN (YU xs)) (.slice pl 5 cl) tv)
 have hR':HS (SV (List.map Raw.ac (YU xs))) (.slice pl 5 cl) tv=R:=by rw[hR];rfl
 rw[hR']
 rw[hR']at ra rf
 obtain⟨pt,ct,ht,_⟩:=ra.told.open (n:=5) (enc:=VK) (fun _=>rfl) (show (5:Nat)≠0 by decide)
 have Cl:R.length=13:=by rw[hR];rfl
 have DW:R.all Z5=true:=by rw[hR,ht];rfl
 have hRp:Yl [Value.int .i64 0,.bool false,.bool false,.bool false,.bool false,.bool false,.slice none 0 0,.int .i64 0,.int .i64 0,.int .i64 0,.int .i64 0,.int .i64 0,.slice none 0 0] 0 R=R:=ZK (by rw[Cl];rfl)
 have Cn:R.length≤13:=by omega
 have hR6:nth R 6=some (.slice pl 5 cl):=by rw[hR];rfl
 obtain⟨h2,Wb⟩:=Zu (h1.push (.cells R.toArray 33):Hp)
 have e2:=Wb.symm
 have b2:Ze h1.size h1 h2:=by rw[Wb];exact (Ze.refl _ _).add _
 have y2:h2[h1.size]? = some (.cells R.toArray 33):=by rw[Wb];exact Zb
 have z2:=b2.get (Za (b1.get (Za z0) z0)) (b1.get (Za z0) z0)
 have lz:=Za z2
 have ly:=Za y2
 have r2:rd h2 ⟨h1.size,0,none⟩ 13=some R:=Zo y2 Cl
 have r6:hc h2 ⟨h1.size,6,none⟩=some (.slice pl 5 cl):=by rw[Zg y2];exact hR6
 have w2:wr h2 ⟨h.size,0,none⟩ R=some (h2.setIfInBounds h.size (.cells R.toArray 33)):=by
  rw[ZP z2 0 _,if_pos ⟨by rw[Cl];decide,DW⟩]
  have:Yl jD 0 R=R:=ZK (by rw[Cl];rfl)
  rw[this]
 have z3:=Zw (o:=.cells R.toArray 33) z2
 have r3:=Zo z3 Cl
 simp -implicitDefEqProofs only[go_sem,↓reduceIte,Cl,DW,hRp,Cn,e2]
 refine VS.z (h.size) [0,5,9] (.p 1 (.p 2 (.p 3 (.p 4 (.or 0 (.or 5 (.p 6 (.p 7 (.p 8 (.w 9 (.p 10 .nil))))) (.s 9 (.w 5 (.p 6 (.p 7 (.p 8 (.p 10 .nil))))))) (.s 5 (.p 6 (.p 7 (.p 8 (.w 0 (.w 9 (.p 10 .nil)))))))))))) mixed (by kernel_rfl) ?_
 have s0:h0.size=h.size+1:=by rw[XR];simp
 have Yr:¬h1.size=h.size:=by have:=b1.size;omega
 have e5:decide (((5:Nat):Int)=5)=true:=rfl
 have et:R.take 13=R:=List.take_of_length_le (by omega)
 have bs:Ze h.size h (h2.setIfInBounds h.size (.cells R.toArray 33)):=(B1.trans (b2.mono B1.size)).Zk (Nat.le_refl _) _
 have rf2:QB (h.size+1) (h2.setIfInBounds h.size (.cells R.toArray 33)) R (SV (List.map Raw.ac (YU xs))) (.slice pl 5 cl) tv vs:=by
  rw[s0]at rf
  exact (rf.Z4 b2).set (by omega) _
 have key:(∃lv tv vs,Value.tuple #[.agg R.toArray,.bool true]=.tuple #[.agg (HS (SN (YU xs)) lv tv).toArray,.bool true]∧QB (h.size+1) (h2.setIfInBounds h.size (.cells R.toArray 33)) (HS (SN (YU xs)) lv tv) (SN (YU xs)) lv tv vs)∧Ze h.size h (h2.setIfInBounds h.size (.cells R.toArray 33)):=
  ⟨⟨_,tv,vs,by rw[←hR],by rw[←hR];exact rf2⟩,bs⟩
 simp -implicitDefEqProofs only[go_sem,↓reduceIte,r2,r6,w2,Cl,DW,Cn,ly,lz,Yr,hR6,e5,et]
 exact⟨⟨key,key⟩,key⟩
def WK (o:Ow) (h:Hp) (R:List Value) (w:Wd) (lv tv:Value) (vs:List Value):Prop:=∀G:Hp,(∀b,o b=none→b<h.size→G[b]? = h[b]?)→KJ G R w lv tv vs
theorem QB.own {B:Nat} {h:Hp} {R:List Value} {w:Wd} {lv tv:Value} {vs:List Value} (s:QB B h R w lv tv vs) {o:Ow} (ho:∀b,B≤b→o b=none):WK o h R w lv tv vs:=
 fun G hG=>s G fun b h1 h2=>hG b (ho b h1) h2
theorem WK.at {o:Ow} {h:Hp} {R:List Value} {w:Wd} {lv tv:Value} {vs:List Value} (s:WK o h R w lv tv vs):KJ h R w lv tv vs:=s h fun _ _ _=>rfl
theorem WK.Zc {S:Tg→Prop} {o o':Ow} {h h':Hp} {R:List Value} {w:Wd} {lv tv:Value} {vs:List Value} (s:WK o h R w lv tv vs) (k:Kp S o h o' h'):WK o' h' R w lv tv vs:=
 fun G hG=>s G fun b h1 h2=>by
  obtain⟨q1,q2⟩:=k.Zc b h2 (fun t ht=>by rw[h1]at ht;cases ht)
  rw[hG b (by rw[q2,h1]) (Nat.lt_of_lt_of_le h2 k.size),q1]
abbrev Row:=Wd × Value × Value
def Fu (r:Row):List Value:=HS r.1 r.2.1 r.2.2
theorem pH (r:Row):(Fu r).length=13:=rfl
set_option maxHeartbeats 4000000 in
theorem Co (T:World) (h:Hp) (v:Value) (xs:List (Raw × Value)) (hv:Ts Qk 5 h v xs) (Jg:WO v) (hx:∀x∈xs,Ti Wl h x.2 x.1.data) (tb:Fb Wl h) (Mp:xs.length≤100000) (hz:∀k,k≤xs.length→Wa ((YU xs).take k)=0) :
  Zd Tryz.prog T 17 #[v] h fun v' h'=>Ze h.size h h'∧∃w rows,v'=.tuple #[w,.bool true]∧Ts Fu 13 h' w rows∧rows.length=xs.length+1∧∀i (hi:i<rows.length),rows[i].1=SN ((YU xs).take i)∧∃vs,KJ h' (Fu rows[i]) rows[i].1 rows[i].2.1 rows[i].2.2 vs:=by
 obtain⟨p,c,DT⟩:=Ck hv
 subst DT
 have Jg:xs.length≤c:=Jg
 refine Zd.Zi (args:=[_]) Tryz.func17 rfl rfl rfl rfl ?_
 simp -implicitDefEqProofs only[go_sem,↓reduceIte]
 refine VS.ZU (fun F g=>F 0=.slice p xs.length c∧∃(j:Nat) (o:Ow) (rows:List Row),j≤xs.length+1∧F 5=.int .i64 j∧Kp (fun t=>t=.log 100) Wl h o g∧rows.length=j∧Ys o (.log 100) 33 13 g (F 4) j (Zz Fu rows)∧∀i (hi:i<rows.length),rows[i].1=SN ((YU xs).take i)∧∃vs,WK o g (Fu rows[i]) rows[i].1 rows[i].2.1 rows[i].2.2 vs)
  (fun F _=>xs.length+1-(vi (F 5)).toNat) rfl ⟨rfl,0,Wl,[],Nat.zero_le _,rfl,Kp.refl (JQ h) _,rfl,Ys.nil _ _ _ _ _,fun i hi=>by cases hi⟩ ?_
 rintro F2 g2 ⟨f0,j,o2,rows,hj,f5,K2,AH,O2,I2⟩
 obtain⟨p3,c3,f4,_⟩:=O2.isSlice
 have b2:=Uq K2
 by_cases ZA:j≤xs.length
 ·have ZH:(j:Int)≤xs.length:=by omega
  have k0:Kp JK Wl h Wl g2:=Zs (JQ h) b2
  have tv2:Ts Qk 5 g2 (.slice p j j) (xs.take j):=⟨by
   have:=(hv.sl.Z4 b2).lI (m:=j) ZA j
   rw[List.length_take,Nat.min_eq_left ZA,←VM Sm xs j ZA]
   exact this⟩
  have hxt:(xs.take j).length=j:=by rw[List.length_take];omega
  have hrt:YU (xs.take j)=(YU xs).take j:=by unfold YU;rw[List.map_take]
  have cr:=Ft T g2 _ (xs.take j) tv2 (fun x jE=>(hx x (List.mem_of_mem_take jE)).Zc k0) (tb.Zc k0) (by omega) (by rw[hrt];exact hz j ZA)
  rw[hrt]at cr
  have hjc:(j:Int)≤c:=by omega
  simp -implicitDefEqProofs only[go_sem,↓reduceIte,f0,f4,f5,ZH,hjc]
  refine cr.use ?_
  rintro _ g3 ⟨⟨lv,tv,vs,rfl,rf⟩,b3⟩
  obtain⟨W,hW⟩:=Zu (SN ((YU xs).take j))
  rw[←hW]at rf ⊢
  have ra:=rf.at
  obtain⟨pl,cl,hl,_⟩:=ra.aK.open (n:=1) (enc:=fun v=>[v]) (fun _=>rfl) (show (1:Nat)≠0 by decide)
  obtain⟨pt,ct,ht,_⟩:=ra.told.open (n:=5) (enc:=VK) (fun _=>rfl) (show (5:Nat)≠0 by decide)
  obtain⟨R,hR⟩:=Zu (HS W lv tv)
  rw[←hR]
  have Cl:R.length=13:=by rw[hR];rfl
  have DW:R.all Z5=true:=by rw[hR,hl,ht];rfl
  have hRp:Yl [Value.int .i64 0,.bool false,.bool false,.bool false,.bool false,.bool false,.slice none 0 0,.int .i64 0,.int .i64 0,.int .i64 0,.int .i64 0,.int .i64 0,.slice none 0 0] 0 R=R:=ZK (by rw[Cl];rfl)
  have Cn:R.length≤13:=by omega
  have et:R.take 13=R:=List.take_of_length_le (by omega)
  have K3:Kp JK o2 g2 o2 g3:=Zs K2.ZV b3
  obtain⟨g4,VO⟩:=Zu (g3.push (.cells R.toArray 33):Hp)
  have e4:=VO.symm
  have k4:Kp JK o2 g3 o2 g4:=by rw[VO];exact ZW K3.ZV _
  have y4:g4[g3.size]? = some (.cells R.toArray 33):=by rw[VO];exact Zb
  have r4:rd g4 ⟨g3.size,0,none⟩ 13=some R:=Zo y4 Cl
  have l4:=Za y4
  obtain⟨g5,au⟩:=Zu (g4.push (.cells R.toArray 33):Hp)
  have e5:=au.symm
  have k5:Kp JK o2 g4 o2 g5:=by rw[au];exact ZW k4.ZV _
  have x5:g5[g4.size]? = some (.cells R.toArray 33):=by rw[au];exact Zb
  have src:Sl 13 g5 (.slice (some ⟨g4.size,0,none⟩) 1 1) 1 R:=⟨_,1,rfl,by omega,fun _=>⟨g4.size,0,rfl,fun i hi=>by
   rw[Zg x5,Yj,Nat.zero_add];exact List.getElem?_eq_getElem hi⟩⟩
  have O5:=((O2.Zc K3 (fun q=>q)).Zc k4 (fun q=>q)).Zc k5 (fun q=>q)
  rw[f4]at O5
  have rfo:WK o2 g3 R W lv tv vs:=by
   rw[hR]
   exact rf.own (fun b hb=>K2.ZV b (by omega))
  simp -implicitDefEqProofs only[go_sem,↓reduceIte,Cl,DW,hRp,Cn,e4,r4,et,l4,e5,f4]
  refine XW (E:=33) (n:=13) (bytes:=104) (k:=1) Zdx Tryz.underlying25 Zkw Zky rfl Zkx O5 k5.ZV src DW (by omega) (by omega) ?_
  intro v7 o7 g7 O7 k7 _
  have k7:Kp (fun u=>u=.log 100) o2 g5 o7 g7:=k7
  simp -implicitDefEqProofs only[go_sem,↓reduceIte,f5]
  unfold Yy
  refine⟨⟨f0,j+1,o7,rows++[(W,lv,tv)],by omega,rfl,(((K2.trans (ZC K3)).trans (ZC k4)).trans (ZC k5)).trans k7,by rw[List.length_append,AH];rfl,?_,fun i hi=>?_⟩,?_⟩
  ·have e:Zz Fu (rows++[(W,lv,tv)])=Zz Fu rows++R:=by rw[Ye,JV,hR];rfl
   rw[e]
   exact O7
  ·by_cases hi2:i<rows.length
   ·rw[List.getElem_append_left hi2]
    obtain⟨q1,wC,q2⟩:=I2 i hi2
    exact⟨q1,wC,(((q2.Zc K3).Zc k4).Zc k5).Zc k7⟩
   ·rw[List.length_append,List.length_singleton]at hi
    obtain rfl:i=rows.length:=by omega
    rw[List.getElem_concat_length rfl]
    refine⟨by rw[AH];exact hW,vs,?_⟩
    have:=((rfo.Zc k4).Zc k5).Zc k7
    rw[hR]at this
    exact this
  ·simp only[vi,Zh,↓reduceIte,f5];omega
 have YE:¬(j:Int)≤xs.length:=by omega
 simp -implicitDefEqProofs only[go_sem,↓reduceIte,f0,f4,f5,YE]
 refine⟨b2,_,rows,rfl,⟨?_⟩,by omega,fun i hi=>?_⟩
 ·rw[AH,←f4];exact O2.sl
 ·obtain⟨q1,vs,q2⟩:=I2 i hi
  exact⟨q1,vs,q2.at⟩
def Maj (Q:List Nat):Prop:=Q.Nodup∧(∀i∈Q,i<5)∧3≤Q.length
structure Gh where
 V:Nat→XO→Int→Cm→Prop
 P:XO→Int→Cm→Prop
def Zgh (g:Gh) (M:Nat→XO) (b:XO) (s:Int):Prop:=∃Q,Maj Q∧(∀i∈Q,¬below (M i) b)∧∀i∈Q,∀b' y,below b' b→¬g.V i b' s y
def aR (g:Gh) (s:Int) (x:Cm):Prop:=∃Q b,Maj Q∧∀i∈Q,g.V i b s x
structure PF (g:Gh) (M:Nat→XO) (i:Nat) (b:XO) (vs:List Vt):Prop where
 lt:i<5
 top:¬below (M i) b
 has:∀v∈vs,g.V i v.b v.slot v.cm∧¬below b v.b
 all:∀b' s x,below b' b→g.V i b' s x→∃v∈vs,v.slot=s∧¬below v.b b'
section
variable {i:Nat} {g g':Gh} {M M':Nat→XO}
end
theorem iP {n:Nat} (h:n<4294967296):n/16777216%256*16777216+n/65536%256*65536+n/256%256*256+n%256=n:=by omega
def Whole (d:List Nat) (a:Vi):Prop:=Rec d QG 0 a d.length
def Zpt:gT→Vi
 | .G8 a _ _ _=>a
 | .G9 a _ _=>a
 | .own a _ _=>a
structure TR (n:Nd):Prop where
 idle:n.up=true→n.ZT=none→Whole n.data n.own∧n.Xs=n.data.length
 busy:n.up=true→∀p,n.ZT=some p→∃d f,n.data=d++Y4 f∧n.Xs=d.length∧Whole d n.own∧Jp n.own f=some (Zpt p)
 down:n.up=false→n.ZT=none∧n.Xs=n.data.length∧∃a j,Rec n.data QG 0 a j
 len:n.data.length≤100000
def yj (n:Nd):Vi:=if n.up=true then n.own else (Sh n.data).1
structure AR (g:Gh) (i:Nat) (a:Vi):Prop where
 has:∀v∈a.l,g.V i v.b v.slot v.cm
 all:∀b s x,g.V i b s x→∃v∈a.l,v.slot=s∧¬below v.b b
structure RR (g:Gh) (M:Nat→XO) (i:Nat) (n:Nd) (r:Qn):Prop where
 node:r.b.n=i
 may:ZR r.b
 prom:∀j vs,Xe r.prom j=some vs→PF g M j.toNat r.b vs
 pn:r.begun=false→∀s x,¬g.P r.b s x
 pr:∀s x,g.P r.b s x→Xe r.prop s=some x
 safe:∀s x,Xe r.prop s=some x→g.P r.b s x
 free:r.begun=true→∀s:Int,(n.log.length:Int)≤s→Xe r.prop s=none→Xe n.known s=none→Zgh g M r.b s
 Jv:∀s K j,Xe r.Jv s=some K→Xe K j=some ()→∃x,g.V j.toNat r.b s x
def PR (g:Gh) (n:Nd):gT→Prop
 | .G8 a to b vs=>a=⟨b,n.own.l⟩∧vs=n.own.l∧Yv n.own.p n.own.l b=0
 | .G9 a to v=>a=⟨v.b,QF n.own.l v⟩∧YX n.own.p n.own.l v=0∧g.P v.b v.slot v.cm
 | .own a vs cur=>∃b,a=⟨b,n.own.l⟩∧vs=n.own.l∧Yv n.own.p n.own.l b=0∧(cur=true→∃r,n.Zl=some r∧r.b=b)
structure LR (S:Cm→Prop) (g:Gh) (M:Nat→XO) (l:Y9):Prop where
 G8:l.kind=1→PF g M l.Ju.toNat l.b l.vs
 ask:l.kind=2→g.P l.v.b l.v.slot l.v.cm
 G9:l.kind=3→g.V l.Ju.toNat l.v.b l.v.slot l.v.cm
 fwd:l.kind=4→S l.v.cm
 cho:l.kind=6→aR g l.v.slot l.v.cm
structure NR (S:Cm→Prop) (g:Gh) (M:Nat→XO) (i:Nat) (n:Nd):Prop where
 acc:AR g i (yj n)
 m:M i=(yj n).p
 tape:TR n
 ZT:∀p,n.ZT=some p→PR g n p
 known:∀s x,Xe n.known s=some x→aR g s x
 log:∀(k:Nat) x,n.log[k]? = some x→aR g (k:Int) x
 que:∀x∈n.queue,S x
 Zl:∀r,n.Zl=some r→RR g M i n r
section
variable {i j:Nat} {g g':Gh} {M M':Nat→XO} {S:Cm→Prop}
end
structure HR (S:Cm→Prop) (g:Gh) (M:Nat→XO) (i:Nat) (o:Out):Prop where
 n:NR S g M i o.n
 up:o.n.up=true
 ls:∀l∈o.ls,LR S g M l
section
variable {S:Cm→Prop} {g:Gh} {M:Nat→XO} {i:Nat} {n:Nd}
end
section
variable {S:Cm→Prop} {g:Gh} {M:Nat→XO} {i:Nat} {n:Nd}
end
section
variable {S:Cm→Prop} {g:Gh} {M:Nat→XO} {i:Nat} {n:Nd}
end
section
variable {S:Cm→Prop} {g:Gh} {M:Nat→XO} {w:Wd}
end
def alk (a b:List Cm):Bool:=decide (∀i:Nat,i<a.length→i<b.length→a[i]? = b[i]?)
theorem pI {a b:List Cm} (h:∀(i:Nat) x y,a[i]? = some x→b[i]? = some y→x=y):alk a b=true:=by
 unfold alk
 refine decide_eq_true fun i h1 h2=>?_
 rw[List.getElem?_eq_getElem h1,List.getElem?_eq_getElem h2,h i _ _ (List.getElem?_eq_getElem h1) (List.getElem?_eq_getElem h2)]
theorem pJ (T:World) (h:Hp) (u v:Value) (a b:List Cm) (su:Ts J8.C 5 h u a) (sv:Ts J8.C 5 h v b) (hl:a.length≤1000000) :
  Zd Tryz.prog T 21 #[u,v] h fun v' h'=>v'=.bool (alk a b)∧h'=h:=by
 obtain⟨p,c,rfl,Yx⟩:=XP su
 obtain⟨q,d,rfl,hds⟩:=XP sv
 refine Zd.Zi (args:=[_,_]) Tryz.func21 rfl rfl rfl rfl ?_
 simp -implicitDefEqProofs only[go_sem,↓reduceIte]
 refine VS.ZU (fun F g=>g=h∧F 0=.slice p a.length c∧F 1=.slice q b.length d∧∃i:Nat,i≤a.length∧F 5=.int .i64 i∧∀j,j<i→j<a.length→j<b.length→a[j]? = b[j]?)
  (fun F _=>a.length-(vi (F 5)).toNat) rfl ⟨rfl,rfl,rfl,0,by omega,rfl,fun j hj=>by omega⟩ ?_
 rintro F g ⟨rfl,f0,f1,i,hi,f5,YH⟩
 by_cases yk:i<a.length
 ·have pK:(i:Int)<a.length:=by omega
  by_cases cE:i<b.length
  ·have vL:(i:Int)<b.length:=by omega
   obtain⟨bb,oo,rfl,Ut,LU⟩:=Yx (by intro e;rw[e]at yk;simp at yk)
   obtain⟨b2,o2,rfl,ZeU,Zpu⟩:=hds (by intro e;rw[e]at cE;simp at cE)
   have r1:=LU i yk
   have r2:=Zpu i cE
   simp -implicitDefEqProofs only[go_sem,↓reduceIte,f0,f1,f5,pK,vL]
   refine VS.q mixed (by kernel_rfl) ?_
   simp -implicitDefEqProofs only[go_sem,↓reduceIte,f0,f1,f5,pK,vL,r1,r2]
   by_cases e:a[i]=b[i]
   ·simp -implicitDefEqProofs only[go_sem,↓reduceIte,e,f0,f1,f5]
    refine⟨⟨rfl,f0,f1,i+1,yk,rfl,fun j hj h1 h2=>?_⟩,?_⟩
    ·by_cases ej:j=i
     ·subst ej
      rw[List.getElem?_eq_getElem h1,List.getElem?_eq_getElem h2,e]
     ·exact YH j (by omega) h1 h2
    ·simp only[vi,Zh,↓reduceIte,f5];omega
   ·have en:alk a b=false:=decide_eq_false fun h=>e (by
     have:=h i yk cE
     rw[List.getElem?_eq_getElem yk,List.getElem?_eq_getElem cE]at this
     exact Option.some.inj this)
    rw[en]
    simp -implicitDefEqProofs only[go_sem,↓reduceIte,e]
  ·have vL:¬(i:Int)<b.length:=by omega
   have et:alk a b=true:=decide_eq_true fun j h1 h2=>YH j (by omega) h1 h2
   rw[et]
   simp -implicitDefEqProofs only[go_sem,↓reduceIte,f0,f1,f5,pK,vL]
 ·have pK:¬(i:Int)<a.length:=by omega
  have et:alk a b=true:=decide_eq_true fun j h1 h2=>YH j (by omega) h1 h2
  rw[et]
  simp -implicitDefEqProofs only[go_sem,↓reduceIte,f0,f1,f5,pK]
theorem iQ (g:Gr):(QM g).length≤63:=by
 unfold QM vK
 split
 ·unfold Dy
  have:=nw (QT (Me g).c.toNat) (JO g.a 1000).toNat (AU (aO g) (aP g) 60 (Me g).k (Me g).c (Me g).s (Me g).n (Me g).v)
  have e:(AU (aO g) (aP g) 60 (Me g).k (Me g).c (Me g).s (Me g).n (Me g).v).length=42:=by
   unfold AU
   rw[List.length_append,WE,ZB];rfl
  rw[List.length_cons];omega
 ·simp
theorem iR (g:Gr):(Jq g).length≤63:=by
 have:=iQ g
 unfold Jq
 split
 ·rw[List.length_take];omega
 ·exact this
theorem pL (g:Gr) (cr:Bool):(Ur g cr).err=0:=by
 have h1:=Qh g.a (m:=5) (by omega)
 have h2:=Qh g.c (m:=20) (by omega)
 have h3:=Qh g.c (m:=90) (by omega)
 have h4:=iR g
 have mk:∀(k n a b:Int) (len:Nat),(1≤k∧k≤9)→(YD k∧(0≤n∧n≤4)∨¬YD k∧n=0)→(X7 k∧(0≤a∧a≤1048576)∨¬X7 k∧a=0)→(k=8∧(0≤b∧b≤100000)∨k≠8∧b=0)→len≤2000→(k=1∨len=0)→J6 k n a b len=0:=fun k n a b len q1 q2 q3 q4 q5 q6=>by
  unfold YD at q2
  unfold X7 at q3
  unfold J6 YD X7
  rw[if_neg (by omega),if_neg (by omega),if_neg (by omega),if_neg (by omega)]
 unfold Ur
 repeat' split
 all_goals
  unfold Raw.err
  refine mk _ _ _ _ _ ?_ ?_ ?_ ?_ ?_ ?_
 all_goals simp[YD,X7]
 all_goals omega
theorem pM (gs:List Gr) (cr:Bool):∀j,∀x∈(So gs cr j).2,x.err=0:=by
 have key:∀(l:List Gr) (st:Nat × List Raw),(∀x∈st.2,x.err=0)→∀x∈(l.foldl (Q0 cr) st).2,x.err=0:=by
  intro l
  induction l with
  | nil=>intro st h;exact h
  | cons g l ih=>
   intro st h
   refine ih _ (fun x hx=>?_)
   unfold Q0 at hx
   rcases List.mem_append.1 hx with hx|hx
   ·exact h x hx
   ·rw[List.mem_singleton.1 hx]
    unfold To
    split
    ·rfl
    ·exact pL g cr
 intro j
 exact key _ _ (fun x hx=>by cases hx)
theorem Fv (gs:List Gr) (Xb:Nat) (cr:Bool):∀x∈jG gs Xb cr,x.err=0:=pM gs cr Xb
theorem Fw (gs:List Gr) (Xb:Nat) (cr:Bool):(jG gs Xb cr).length≤Xb:=by
 unfold jG
 by_cases h:Xb≤gs.length
 ·rw[(Ol gs cr Xb h).1];exact Nat.le_refl _
 ·rw[Cj gs cr Xb (by omega),(Ol gs cr gs.length (Nat.le_refl _)).1];omega
theorem WL {l:List Raw} (h:∀x∈l,x.err=0) (hl:l.length≤100000):Wa l=0:=by
 unfold Wa
 rw[if_neg (by omega)]
 exact Sn h
theorem dE {A:List Raw} (hA:∀x∈A,x.err=0) (hl:A.length≤100000) (i:Nat) (hi:i<5):((SN A).nodes i).log.length≤40:=by
 obtain⟨C,hC⟩:∃C,C=A.map fun x=>Ok x.data:=⟨_,rfl⟩
 have nN:C.length≤100000:=by rw[hC,List.length_map];exact hl
 have:=aN nN (A.map Raw.ac) 0 Va (KK C) (fun a ha=>by
  obtain⟨z,hz,rfl⟩:=List.mem_map.1 ha
  obtain⟨_,q2,_,_,_⟩:=RS (hA z hz)
  refine⟨by unfold Raw.ac;simp only;omega,?_⟩
  rw[hC]
  exact List.mem_map.2 ⟨z,hz,rfl⟩)
 exact (this.nd i hi).Fo
def QC (h0:Hp) (o:Ow) (g:Hp) (v:Value) (l:List Raw):Prop:=
 Kp (fun t=>t=.log 100) Wl h0 o g∧∃ys,YU ys=l∧Ys o (.log 100) 36 5 g v ys.length (Zz Qk ys)∧∀y∈ys,Ti o g y.2 y.1.data
theorem QC.nil (h0:Hp):QC h0 Wl h0 (.slice none 0 0) []:=⟨Kp.refl (JQ h0) _,[],rfl,Ys.nil _ _ _ _ _,fun y hy=>by cases hy⟩
theorem QC.isSlice {h0:Hp} {o:Ow} {g:Hp} {v:Value} {l:List Raw} (A:QC h0 o g v l):∃p c,v=.slice p l.length c∧l.length≤c:=by
 obtain⟨_,ys,hr,O,_⟩:=A
 obtain⟨p,c,h,hc⟩:=O.isSlice
 have:ys.length=l.length:=by rw[←hr];unfold YU;simp
 rw[this]at h hc
 exact⟨p,c,h,hc⟩
theorem QC.still {h0:Hp} {o:Ow} {g g':Hp} {v:Value} {l:List Raw} (A:QC h0 o g v l) (b:Ze g.size g g'):QC h0 o g' v l:=by
 obtain⟨K,ys,hr,O,I⟩:=A
 have k:Kp JK o g o g':=Zs K.ZV b
 exact⟨K.trans (ZC k),ys,hr,O.Zc k (fun q=>q),fun y hy=>(I y hy).Zc k⟩
theorem QC.done {h0:Hp} {o:Ow} {g:Hp} {v:Value} {l:List Raw} (A:QC h0 o g v l):Ze h0.size h0 g∧WO v∧∃ys,YU ys=l∧Ts Qk 5 g v ys∧∀y∈ys,Ti Wl g y.2 y.1.data:=by
 obtain⟨p,c,hv,hc⟩:=A.isSlice
 obtain⟨K,ys,hr,O,I⟩:=A
 exact⟨Uq K,by rw[hv];exact hc,ys,hr,⟨O.sl⟩,fun y hy=>⟨⟨(I y hy).1.sl,(I y hy).1.fits,fun b hb=>⟨((I y hy).1.free b hb).1,rfl⟩⟩,(I y hy).2⟩⟩
section
variable {T:World} {K:Value→Hp→Prop} {ty:TypeId} {cb:Array Bool}
theorem QC.Vv {h0:Hp} {o:Ow} {g:Hp} {v:Value} {l:List Raw} (A:QC h0 o g v l) (hl:l.length≤1000000000) (X:Raw) (q:Option Addr) (cq:Nat) (im:Ti o g (.slice q X.data.length cq) X.data)
  (H:∀v' o' g',QC h0 o' g' v' (l++[X])→Kp Ve o g o' g'→K v' g'):Sq Tryz.prog T .append #[23,23] ty cb [v,.slice (some ⟨g.size,0,none⟩) 1 1] K (g.push (.cells #[.int .i64 X.k,.int .i64 X.n,.int .i64 X.a,.int .i64 X.b,.slice q X.data.length cq] 36)):=by
 obtain⟨K1,ys,hr,O,I⟩:=A
 have yl:ys.length=l.length:=by rw[←hr];unfold YU;simp
 obtain⟨g6,TF⟩:=Zu (g.push (.cells (Vj X.k X.n X.a X.b (.slice q X.data.length cq)).toArray 36):Hp)
 have k6:Kp JK o g o g6:=by rw[TF];exact ZW K1.ZV _
 have x6:g6[g.size]? = some (.cells (Vj X.k X.n X.a X.b (.slice q X.data.length cq)).toArray 36):=by rw[TF];exact Zb
 have src:Sl 5 g6 (.slice (some ⟨g.size,0,none⟩) 1 1) 1 (Vj X.k X.n X.a X.b (.slice q X.data.length cq)):=⟨_,1,rfl,rfl,fun _=>⟨g.size,0,rfl,fun i hi=>by
  rw[Zg x6,Yj,Nat.zero_add];exact List.getElem?_eq_getElem hi⟩⟩
 have O6:=O.Zc k6 (fun q=>q)
 show Sq Tryz.prog T .append #[23,23] ty cb [v,.slice (some ⟨g.size,0,none⟩) 1 1] K (g.push (.cells (Vj X.k X.n X.a X.b (.slice q X.data.length cq)).toArray 36))
 rw[←TF]
 refine XW (E:=36) (n:=5) (bytes:=56) (k:=1) xd Tryz.underlying23 ZdA ZdC rfl ZdB O6 k6.ZV src rfl (by omega) (by omega) ?_
 intro v7 o7 g7 O7 k7 _
 have k7:Kp (fun u=>u=.log 100) o g6 o7 g7:=k7
 refine H v7 o7 g7 ⟨(K1.trans (ZC k6)).trans k7,ys++[(X,.slice q X.data.length cq)],?_,?_,fun y hy=>?_⟩ (Yc ((ZC k6).trans k7))
 ·rw[←hr];unfold YU;simp only[List.map_append,List.map_cons,List.map_nil]
 ·have e:Zz Qk (ys++[(X,Value.slice q X.data.length cq)])=Zz Qk ys++Vj X.k X.n X.a X.b (.slice q X.data.length cq):=by rw[Ye,JV];rfl
  rw[e,List.length_append]
  exact O7
 ·rcases List.mem_append.1 hy with hy|hy
  ·exact ((I y hy).Zc k6).Zc k7
  ·rw[List.mem_singleton.1 hy]
   exact (im.Zc k6).Zc k7
end
def QX (n m:Nd):Prop:=m.up=n.up∧m.me=n.me∧∃e,m.log=n.log++e
theorem QX.refl (n:Nd):QX n n:=⟨rfl,rfl,[],by simp⟩
theorem QX.trans {a b c:Nd} (h1:QX a b) (h2:QX b c):QX a c:=by
 obtain⟨u1,m1,e1,l1⟩:=h1
 obtain⟨u2,m2,e2,l2⟩:=h2
 exact⟨by rw[u2,u1],by rw[m2,m1],e1++e2,by rw[l2,l1,List.append_assoc]⟩
theorem QX.same {n m:Nd} (h1:m.up=n.up) (h2:m.me=n.me) (h3:m.log=n.log):QX n m:=⟨h1,h2,[],by rw[h3];simp⟩
theorem Fx:∀(k:Nat) (n:Nd),QX n (YN k n).1:=by
 intro k
 induction k with
 | zero=>intro n;exact .refl n
 | succ k ih=>
  intro n
  unfold YN
  split
  ·exact .refl n
  ·rename_i x _
   exact QX.trans (b:=U6 n x) ⟨rfl,rfl,[x],rfl⟩ (ih _)
theorem KL (n:Nd) (s:Int) (x:Cm):QX n (Uu n s x).n:=by
 unfold Uu
 exact QX.trans (b:=Uo n s x) (.same rfl rfl rfl) (Fx _ _)
theorem RT (n:Nd) (l:Y9):QX n (notes n l):=by
 unfold notes
 split
 ·exact .same rfl rfl rfl
 ·exact .refl n
theorem pN (n:Nd) (x:Cm):QX n (add n x):=by
 unfold add
 split
 ·exact .refl n
 ·exact .same rfl rfl rfl
theorem Cp (n:Nd) (l:Y9):QX n (handle n l).n:=by
 unfold handle
 split
 ·unfold Y2
  repeat' split
  all_goals exact .same rfl rfl rfl
 split
 ·unfold YB
  split
  ·exact .refl n
  ·rename_i r _
   split
   ·split
    ·exact .same rfl rfl rfl
    ·exact .refl n
   ·split
    ·exact .refl n
    ·split
     ·exact QX.trans (b:=Mr n r l) (.same rfl rfl rfl) (KL _ _ _)
     ·exact .same rfl rfl rfl
 split
 ·unfold asked
  repeat' split
  all_goals exact .same rfl rfl rfl
 split
 ·exact pN n _
 split
 ·unfold WH
  split
  ·exact RT n l
  ·exact RT n l
 split
 ·exact KL n _ _
 ·exact RT n l
theorem KM:∀(k:List Y9) (n:Nd),QX n (drain n k).n:=by
 intro k
 induction k with
 | nil=>intro n;unfold drain;exact .same rfl rfl rfl
 | cons l k ih=>
  intro n
  unfold drain
  split
  ·exact .same rfl rfl rfl
  ·exact QX.trans (b:={ n with inbox:=k }) (.same rfl rfl rfl) (QX.trans (Cp _ l) (ih _))
theorem iS (n:Nd) (r:Qn):QX n (QH n r).n:=by
 unfold QH
 split
 ·split
  ·exact .refl n
  ·exact .same rfl rfl rfl
 ·split
  ·exact .refl n
  ·exact .same rfl rfl rfl
theorem aS (n:Nd):QX n (still n):=by
 unfold still
 split
 ·split
  ·exact .same rfl rfl rfl
  ·exact .refl n
 ·exact .refl n
theorem aT (n:Nd):QX n (Yw n).n:=by
 unfold Yw
 split
 ·exact iS _ _
 ·split
  ·exact .refl n
  ·exact .refl n
theorem iU (n:Nd):QX n (VI n).n:=by
 have h:=QX.trans (aS n) (aT (still n))
 unfold VI
 split
 ·exact h
 ·exact h.trans (.same rfl rfl rfl)
theorem Cq (n:Nd) (p:gT):QX n (finish (synced n) p).n:=by
 cases p<;>exact .same rfl rfl rfl
theorem iW (n:Nd):QX n (step n).n:=by
 unfold step
 split
 ·split
  ·exact Cq n _
  ·split
   ·exact KM _ n
   ·exact (KM _ n).trans (iU _)
 ·exact .refl n
def Mf (w:Wd):Prop:=∀i,(w.nodes i).up=false→(w.nodes i).log=[]
def Still (n m:Nd):Prop:=m.up=n.up∧m.me=n.me∧m.log=n.log
theorem Still.refl (n:Nd):Still n n:=⟨rfl,rfl,rfl⟩
theorem Still.trans {a b c:Nd} (h1:Still a b) (h2:Still b c):Still a c:=⟨by rw[h2.1,h1.1],by rw[h2.2.1,h1.2.1],by rw[h2.2.2,h1.2.2]⟩
theorem RU (w:Wd) (l:Y9) (i:Nat):Still (w.nodes i) ((Jr w l).nodes i):=by
 unfold Jr
 split
 ·unfold Wd.set
  by_cases e:i=l.to.toNat
  ·simp only[if_pos e];rw[e];exact⟨rfl,rfl,rfl⟩
  ·simp only[if_neg e];exact .refl _
 ·exact .refl _
theorem Cr:∀(ls:List Y9) (w:Wd) (i:Nat),Still (w.nodes i) ((ls.foldl Jr w).nodes i):=by
 intro ls
 induction ls with
 | nil=>intro w i;exact .refl _
 | cons l ls ih=>intro w i;exact Still.trans (RU w l i) (ih _ i)
theorem QY (w:Wd) (l:Y9):(Jr w l).told=w.told∧(Jr w l).bad=w.bad∧(Jr w l).Zj=w.Zj:=by
 unfold Jr
 split
 ·exact⟨rfl,rfl,rfl⟩
 ·exact⟨rfl,rfl,rfl⟩
theorem KN:∀(ls:List Y9) (w:Wd),(ls.foldl Jr w).told=w.told∧(ls.foldl Jr w).bad=w.bad∧(ls.foldl Jr w).Zj=w.Zj:=by
 intro ls
 induction ls with
 | nil=>intro w;exact⟨rfl,rfl,rfl⟩
 | cons l ls ih=>
  intro w
  obtain⟨h1,h2,h3⟩:=ih (Jr w l)
  obtain⟨k1,k2,k3⟩:=QY w l
  exact⟨by rw[List.foldl_cons,h1,k1],by rw[List.foldl_cons,h2,k2],by rw[List.foldl_cons,h3,k3]⟩
theorem VQ (w:Wd) (k:Nat) (n:Nd) (i:Nat):((w.set k n).nodes i)=if i=k then n else w.nodes i:=rfl
theorem pO (w:Wd) (k:Nat) (o:Out) (i:Nat):((w.out k o).nodes i)=if i=k then o.n else w.nodes i:=rfl
theorem Fy (w:Wd) (k:Nat) (data:List Nat) (i:Nat):Still (w.nodes i) ((QV w k data).nodes i):=by
 unfold QV
 split
 ·split
  ·exact .refl _
  ·split
   ·exact .refl _
   ·rw[VQ]
    by_cases e:i=k
    ·rw[if_pos e,e]
     unfold Kq add
     repeat' split
     all_goals exact⟨rfl,rfl,rfl⟩
    ·rw[if_neg e];exact .refl _
 ·exact .refl _
theorem aU (w:Wd) (k:Nat) (c s:Bool) (i:Nat):Still (w.nodes i) ((pick w k c s).nodes i):=by
 unfold pick
 split
 ·exact .refl _
 ·split
  ·split
   ·exact RU _ _ _
   ·exact RU { w with Zj:=_ } _ _
  ·split
   ·exact .refl _
   ·exact .refl _
theorem KO (w:Wd) (a:Ac) (i:Nat) :
  (a.kind=8∧a.node=i∧(act w a).nodes i=crashed i (w.nodes i) a.Zc) ∨
  (¬(1≤a.kind∧a.kind≤8)∧a.node=i∧(act w a).nodes i=started i (w.nodes i)) ∨
  (a.kind=3∧a.node=i∧(w.nodes i).up=true∧QX (w.nodes i) ((act w a).nodes i)) ∨
  Still (w.nodes i) ((act w a).nodes i):=by
 unfold act
 split
 ·exact .inr (.inr (.inr (Fy _ _ _ _)))
 split
 ·refine .inr (.inr (.inr ?_))
  rw[VQ]
  by_cases e:i=a.node
  ·rw[if_pos e,e]
   unfold lead
   split
   ·exact .refl _
   ·exact⟨rfl,rfl,rfl⟩
  ·rw[if_neg e];exact .refl _
 split
 ·rename_i k
  rw[pO]
  by_cases e:i=a.node
  ·rw[if_pos e,e]
   cases hu:(w.nodes a.node).up with
   | true=>exact .inr (.inr (.inl ⟨k,rfl,rfl,iW _⟩))
   | false=>
    have:(step (w.nodes a.node)).n=w.nodes a.node:=by unfold step;rw[if_neg (by rw[hu];decide)]
    rw[this];exact .inr (.inr (.inr (.refl _)))
  ·rw[if_neg e];exact .inr (.inr (.inr (.refl _)))
 split
 ·exact .inr (.inr (.inr (aU _ _ _ _ _)))
 split
 ·exact .inr (.inr (.inr (Cr w.Zj { w with Zj:=[] } i)))
 split
 ·rename_i k
  rw[VQ]
  by_cases e:i=a.node
  ·rw[if_pos e,e];exact .inl ⟨k,rfl,rfl⟩
  ·rw[if_neg e];exact .inr (.inr (.inr (.refl _)))
 ·rename_i k1 k2 k3 k4 k5 k6
  rw[VQ]
  by_cases e:i=a.node
  ·rw[if_pos e,e];exact .inr (.inl ⟨by omega,rfl,rfl⟩)
  ·rw[if_neg e];exact .inr (.inr (.inr (.refl _)))
theorem Sp (i:Nat) (n:Nd) (k:Int):(n.up=true∧(crashed i n k).up=false∧(crashed i n k).log=[])∨(n.up=false∧crashed i n k=n):=by
 unfold crashed
 cases hu:n.up with
 | true=>
  rw[if_pos rfl]
  refine .inl ⟨rfl,?_⟩
  split<;>exact⟨rfl,rfl⟩
 | false=>exact .inr ⟨rfl,by simp⟩
theorem WM (i:Nat) (n:Nd):(n.up=true∧started i n=n)∨(n.up=false∧(started i n).up=true∧(started i n).log=[]):=by
 unfold started
 cases hu:n.up with
 | true=>exact .inl ⟨rfl,by simp⟩
 | false=>exact .inr ⟨rfl,rfl,rfl⟩
theorem pP {w:Wd} (h:Mf w) (a:Ac):Mf (act w a):=fun i hi=>by
 rcases KO w a i with⟨_,_,e⟩|⟨_,_,e⟩|⟨_,_,q,e1,_⟩|⟨e1,_,e2⟩
 ·rw[e]at hi ⊢
  rcases Sp i (w.nodes i) a.Zc with⟨_,_,q⟩|⟨q1,q⟩
  ·exact q
  ·rw[q];exact h i q1
 ·rw[e]at hi ⊢
  rcases WM i (w.nodes i) with⟨q1,q⟩|⟨_,q,_⟩
  ·rw[q]at hi;rw[q1]at hi;cases hi
  ·rw[q]at hi;cases hi
 ·rw[e1,q]at hi;cases hi
 ·rw[e2];exact h i (by rw[←e1];exact hi)
theorem Cs:Mf Va:=fun i hi=>by cases hi
theorem pQ (w:Wd) (a:Ac):∃e,(act w a).told=w.told++e∧(e≠[]→a.kind=1∨a.kind=3):=by
 unfold act
 split
 ·rename_i k
  unfold QV
  split
  ·split
   ·exact⟨[],by simp,fun h=>(h rfl).elim⟩
   ·split
    ·exact⟨_,rfl,fun _=>.inl k⟩
    ·exact⟨[],by simp[Wd.set],fun h=>(h rfl).elim⟩
  ·exact⟨[],by simp,fun h=>(h rfl).elim⟩
 split
 ·exact⟨[],by simp[Wd.set],fun h=>(h rfl).elim⟩
 split
 ·rename_i k
  exact⟨_,rfl,fun _=>.inr k⟩
 split
 ·refine⟨[],?_,fun h=>(h rfl).elim⟩
  unfold pick
  split
  ·simp
  ·split
   ·split
    ·rw[(QY _ _).1];simp
    ·rw[(QY _ _).1];simp
   ·split<;>simp
 split
 ·refine⟨[],?_,fun h=>(h rfl).elim⟩
  rw[(KN _ _).1];simp
 split
 ·exact⟨[],by simp[Wd.set],fun h=>(h rfl).elim⟩
 ·exact⟨[],by simp[Wd.set],fun h=>(h rfl).elim⟩
theorem pR {w:Wd} (h:Mf w) (a:Ac) (i:Nat) (hk:1≤a.kind∧a.kind≤9) :
  (a.kind=8∧a.node=i→(w.nodes i).up=true→((act w a).nodes i).log=[]) ∧
  (¬(a.kind=8∧a.node=i)→(w.nodes i).log.length≤((act w a).nodes i).log.length∧((w.nodes i).log.length<((act w a).nodes i).log.length→a.kind=3∧a.node=i)):=by
 rcases KO w a i with⟨k,e,q⟩|⟨k,e,q⟩|⟨k,e,hu,_,_,x,q⟩|⟨_,_,q⟩
 ·refine⟨fun _ hu=>?_,fun h=>(h ⟨k,e⟩).elim⟩
  rw[q]
  rcases Sp i (w.nodes i) a.Zc with⟨_,_,q⟩|⟨q1,_⟩
  ·exact q
  ·rw[hu]at q1;cases q1
 ·refine⟨fun h=>(by omega),fun _=>?_⟩
  rw[q]
  rcases WM i (w.nodes i) with⟨_,q⟩|⟨hu,_,q⟩
  ·rw[q];exact⟨Nat.le_refl _,fun h=>by omega⟩
  ·rw[q,h i hu];exact⟨Nat.le_refl _,fun h=>by omega⟩
 ·refine⟨fun h=>(by omega),fun _=>⟨?_,fun _=>⟨k,e⟩⟩⟩
  rw[q,List.length_append];omega
 ·refine⟨fun⟨k,e⟩ hu=>?_,fun _=>by rw[q];exact⟨Nat.le_refl _,fun h=>by omega⟩⟩
  have:(act w a).nodes i=crashed i (w.nodes i) a.Zc:=by
   unfold act
   rw[if_neg (by omega),if_neg (by omega),if_neg (by omega),if_neg (by omega),if_neg (by omega),if_pos k,VQ,if_pos e.symm,e]
  rw[this]
  rcases Sp i (w.nodes i) a.Zc with⟨_,_,q⟩|⟨q1,_⟩
  ·exact q
  ·rw[hu]at q1;cases q1
theorem pS (l:List Ac):Mf (SV l):=by
 have:∀(l:List Ac) (w:Wd),Mf w→Mf (l.foldl act w):=by
  intro l
  induction l with
  | nil=>intro w h;exact h
  | cons a l ih=>intro w h;exact ih _ (pP h a)
 exact this l _ Cs
theorem Zbi (w:Wd) (a:Ac) (i:Nat) (h8:a.kind≠8):((w.nodes i).up=true→((act w a).nodes i).up=true)∧(a.kind=9→a.node=i→((act w a).nodes i).up=true):=by
 rcases KO w a i with⟨k,_,_⟩|⟨k,e,q⟩|⟨k,_,hu,q,_⟩|⟨q,_⟩
 ·exact (h8 k).elim
 ·rw[q]
  have:(started i (w.nodes i)).up=true:=by
   rcases WM i (w.nodes i) with⟨q1,q⟩|⟨_,q,_⟩
   ·rw[q];exact q1
   ·exact q
  exact⟨fun _=>this,fun _ _=>this⟩
 ·rw[q];exact⟨fun h=>h,fun h=>by omega⟩
 ·rw[q]
  refine⟨fun h=>h,fun h9 e=>?_⟩
  have:(act w a).nodes i=started i (w.nodes i):=by
   unfold act
   rw[if_neg (by omega),if_neg (by omega),if_neg (by omega),if_neg (by omega),if_neg (by omega),if_neg (by omega),VQ,if_pos e.symm,e]
  rw[←q,this]
  rcases WM i (w.nodes i) with⟨q1,q⟩|⟨_,q,_⟩
  ·rw[q];exact q1
  ·exact q
def Two (x y:Nat) (k:Int):Prop:=k=x∨k=y
section
variable {x y:Nat} {n:Nd}
end
section
variable {x y:Nat} {w:Wd}
end
theorem KP {tc tr tu k c s n v now Fz:Int} (h:VD tc tr tu k c s n v Fz=0) (h0:0≤now) (hn:now≤Fz):VD tc tr tu k c s n v now=0:=by
 unfold VD at *
 by_cases c1:XC tc tr tu≠0
 ·rw[if_pos c1]at h;exact (c1 h).elim
 rw[if_neg c1]at h ⊢
 by_cases c2:YI k c s n v≠0
 ·rw[if_pos c2]at h;exact (c2 h).elim
 rw[if_neg c2]at h ⊢
 by_cases c3:¬IG k.toNat tr.toNat∨tc≠c
 ·rw[if_pos c3]at h;cases h
 rw[if_neg c3]at h ⊢
 by_cases c4:Fz<0∨tu<Fz
 ·rw[if_pos c4]at h;cases h
 rw[if_neg (by omega)]
structure Zgi (rc:List Nat):Prop where
 len:rc.length≠0
 key:X2 (rc.getD 0 0:Nat)=0
 take:UH (QT (rc.getD 0 0)) 0 0 X1 (rc.drop 1)=0
 plain:(YR rc).length=42
 prv:JE WY ((YR rc).take 22)=0
 dec:J4 ((YR rc).drop 22)=0
 own:¬(Xc ((YR rc).drop 22) 0≠0∧Xc ((YR rc).drop 22) 1≠(rc.getD 0 0:Nat))
theorem MR (rc:List Nat) (now:Int):ZX rc now=0↔Zgi rc∧DG (YR rc) now=0:=by
 unfold ZX Hy DJ DI DH cW
 constructor
 ·intro h
  by_cases c1:rc.length=0
  ·rw[if_pos c1]at h;cases h
  rw[if_neg c1]at h
  by_cases c2:X2 (rc.getD 0 0:Nat)≠0
  ·rw[if_pos c2]at h;exact (c2 h).elim
  rw[if_neg c2]at h
  by_cases c3:UH (QT (rc.getD 0 0)) 0 0 X1 (rc.drop 1)≠0
  ·rw[if_pos c3]at h;exact (c3 h).elim
  rw[if_neg c3]at h
  by_cases c4:(YR rc).length≠42
  ·rw[if_pos c4]at h;cases h
  rw[if_neg c4]at h
  by_cases c5:JE WY ((YR rc).take 22)≠0
  ·rw[if_pos c5]at h;exact (c5 h).elim
  rw[if_neg c5]at h
  by_cases c6:J4 ((YR rc).drop 22)≠0
  ·rw[if_pos c6]at h;exact (c6 h).elim
  rw[if_neg c6]at h
  by_cases c7:Xc ((YR rc).drop 22) 0≠0∧Xc ((YR rc).drop 22) 1≠(rc.getD 0 0:Nat)
  ·rw[if_pos c7]at h;cases h
  rw[if_neg c7]at h
  exact⟨⟨c1,by omega,by omega,by omega,by omega,by omega,c7⟩,h⟩
 ·rintro⟨o,h⟩
  rw[if_neg o.len,if_neg (fun q=>q o.key),if_neg (fun q=>q o.take),if_neg (fun q=>q o.plain),if_neg (fun q=>q o.prv),if_neg (fun q=>q o.dec),if_neg o.own]
  exact h
theorem Ct {d:List Nat} {now Fz:Int} (h:ZX d Fz=0) (h0:0≤now) (hn:now≤Fz):ZX d now=0∧Qx d now=Qx d Fz:=by
 have h1:ZX d now=0:=by
  obtain⟨o,a⟩:=(MR d Fz).1 h
  exact (MR d now).2 ⟨o,KP a h0 hn⟩
 refine⟨h1,?_⟩
 unfold Qx
 rw[if_pos h,if_pos h1]
structure IN (n:Nat) (k:Nat) (w v:Wd):Prop where
 nodes:v.nodes=w.nodes
 Zj:v.Zj=w.Zj
 told:v.told=w.told
 bad:∀j,j≠n→v.bad j=w.bad j
 KQ:w.bad n≤v.bad n∧v.bad n≤w.bad n+k
theorem IN.refl (n:Nat) (w:Wd):IN n 0 w w:=⟨rfl,rfl,rfl,fun _ _=>rfl,by omega⟩
theorem IN.more {n k:Nat} {w v:Wd} (h:IN n k w v) {d:List Nat} (hd:∀now:Nat,ZX d now≠0) {at':Nat} {Zc:Int}:IN n (k+1) w (act v ⟨1,n,at',Zc,d⟩):=by
 have hb:=h.KQ
 unfold act QV
 simp only[if_true]
 split
 ·rw[if_pos (hd _)]
  refine⟨h.nodes,h.Zj,h.told,fun j hj=>?_,?_⟩
  ·simp only[if_neg hj];exact h.bad j hj
  ·simp only[if_true];omega
 ·exact⟨h.nodes,h.Zj,h.told,h.bad,by omega⟩
theorem aV {n k:Nat} {w v:Wd} (h:IN n k w v) (l:Y9):IN n k (Jr w l) (Jr v l):=by
 obtain⟨r1,r2,r3⟩:=QY w l
 obtain⟨s1,s2,s3⟩:=QY v l
 refine⟨?_,by rw[r3,s3];exact h.Zj,by rw[r1,s1];exact h.told,fun j hj=>by rw[r2,s2];exact h.bad j hj,by rw[r2,s2];exact h.KQ⟩
 unfold Jr
 rw[h.nodes]
 split
 ·unfold Wd.set;simp only;rw[h.nodes]
 ·exact h.nodes
theorem vM {n k:Nat}:∀(ls:List Y9) (w v:Wd),IN n k w v→IN n k (ls.foldl Jr w) (ls.foldl Jr v):=by
 intro ls
 induction ls with
 | nil=>intro w v h;exact h
 | cons l ls ih=>intro w v h;exact ih _ _ (aV h l)
theorem IN.ym {n k:Nat} {w v:Wd} (h:IN n k w v) (fl:List Y9):IN n k { w with Zj:=fl } { v with Zj:=fl }:=⟨h.nodes,rfl,h.told,h.bad,h.KQ⟩
theorem IN.set {n k:Nat} {w v:Wd} (h:IN n k w v) (i:Nat) (m:Nd):IN n k (w.set i m) (v.set i m):=by
 refine⟨?_,h.Zj,h.told,h.bad,h.KQ⟩
 unfold Wd.set;simp only;rw[h.nodes]
theorem IN.act {n k:Nat} {w v:Wd} (h:IN n k w v) (a:Ac):IN n k (act w a) (act v a):=by
 have hb:=h.KQ
 unfold Go.Proofs.YtkfhncfkagcamaaGreatDoor.act
 rw[h.nodes,h.Zj]
 split
 ·unfold QV
  rw[h.nodes]
  split
  ·split
   ·refine⟨rfl,h.Zj,h.told,fun j hj=>?_,?_⟩
    ·simp only
     by_cases e:j=a.node
     ·rw[if_pos e,if_pos e,←e,h.bad j hj]
     ·rw[if_neg e,if_neg e,h.bad j hj]
    ·simp only
     by_cases e:n=a.node
     ·rw[if_pos e,if_pos e,←e];omega
     ·rw[if_neg e,if_neg e];omega
   ·split
    ·exact⟨rfl,h.Zj,by simp only;rw[h.told],h.bad,h.KQ⟩
    ·exact h.set _ _
  ·exact h
 split
 ·exact h.set _ _
 split
 ·refine⟨?_,?_,?_,h.bad,h.KQ⟩
  ·unfold Wd.out;simp only;rw[h.nodes]
  ·unfold Wd.out;simp only;rw[h.Zj]
  ·unfold Wd.out;simp only;rw[h.told]
 split
 ·unfold pick
  rw[h.Zj]
  split
  ·exact h
  ·have h':=h.ym (w.Zj.eraseIdx (a.at'%w.Zj.length))
   split
   ·split
    ·exact aV h _
    ·exact aV h' _
   ·split
    ·exact h
    ·exact h'
 split
 ·have h':=vM w.Zj _ _ (h.ym [])
  rw[h.nodes]at h'
  exact h'
 split
 ·exact h.set _ _
 ·exact h.set _ _
theorem pT (key:List Nat) (k:Nat) (Zp data:List Nat):QQ key k Zp (QQ key k Zp data)=data:=by
 have hl:(QQ key k Zp data).length=data.length:=Jz _ _ _ _
 refine List.ext_getElem (by rw[Jz,hl]) fun i h1 h2=>?_
 have e:(QQ key k Zp data).getD i 0=EL key k Zp data i:=by
  unfold QQ
  rw[List.getD_eq_getElem?_getD,List.getElem?_map,List.getElem?_range h2]
  rfl
 have e2:data.getD i 0=data[i]:=by rw[List.getD_eq_getElem?_getD,List.getElem?_eq_getElem h2];rfl
 have e3:(QQ key k Zp (QQ key k Zp data))[i]=EL key k Zp (QQ key k Zp data) i:=by
  have:(QQ key k Zp (QQ key k Zp data))[i]? = some (EL key k Zp (QQ key k Zp data) i):=by
   conv=>lhs;unfold QQ
   rw[List.getElem?_map]
   have:(List.range (List.map (EL key k Zp data) (List.range data.length)).length)[i]? = some i:=by
    rw[List.getElem?_range (by rw[List.length_map,List.length_range];exact h2)]
   rw[this]
   rfl
  rw[List.getElem?_eq_getElem h1]at this
  exact Option.some.inj this
 rw[e3]
 unfold EL at e ⊢
 rw[e,e2,Nat.xor_assoc,Nat.xor_self,Nat.xor_zero]
theorem iX (n:Nat) (hn:n<4294967296) (l:List Nat):UG (Yo n++l)=n:=by
 unfold UG Yo
 simp only[List.cons_append,List.getD_cons_zero,List.getD_cons_succ]
 omega
theorem iY (kl:List Nat) (n:Nat) (hn:n<4294967296) (plain:List Nat):NN kl (L6 kl n plain)=plain:=by
 have hd:(L6 kl n plain).drop 4=NL kl (Xv (Yo n)) (Yo n) plain:=by
  unfold L6
  rw[List.drop_append_of_le_length (by show 4≤4;omega),show (Yo n).drop 4=[] from rfl,List.nil_append]
 unfold NN
 rw[hd,show UG (L6 kl n plain)=n from iX n hn _]
 unfold Dj NL
 have ht:(J2 kl (Xv (Yo n)) (Yo n) (QQ kl 1 (Xv (Yo n)) plain)).length=16:=NB _ _
 rw[List.length_append,ht,Nat.add_sub_cancel,List.take_left]
 exact pT _ _ _ _
theorem iZ (key:List Nat) (c r u:Nat) (hu:u<4294967296):Xp (Kc key c r u) 2=u:=by
 have:Xp (Kc key c r u) 2=u/16777216%256*16777216+u/65536%256*65536+u/256%256*256+u%256:=by simp[Xp,Kc,gH,Qs]
 rw[this];exact iP hu
theorem aW (kl rc:List Nat) (h:rc.length≤29):(NN kl rc).length≤25:=by
 unfold NN Dj
 rw[Jz,List.length_take,List.length_drop]
 omega
theorem Cu (g:Gr) (h:Zgi (Jq g)):Xp ((YR (Jq g)).take 22) 2=60:=by
 have Zgj:Jq g=QM g:=by
  unfold Jq
  split
  ·rename_i q
   refine (?_:False).elim
   have e:Jq g=(QM g).take 30:=by unfold Jq;rw[if_pos q]
   have h1:=h.plain
   rw[e]at h1
   unfold YR at h1
   have:=aW (QT (((QM g).take 30).getD 0 0)) (((QM g).take 30).drop 1) (by rw[List.length_drop,List.length_take];omega)
   omega
  ·rfl
 rw[Zgj]at h ⊢
 unfold QM vK at h ⊢
 split at h
 ·rename_i q
  rw[if_pos q]
  have hn:=Qh g.a (m:=1000) (by omega)
  have e:YR (Dy (JO g.a 1000) (aO g) (aP g) 60 (Me g).k (Me g).c (Me g).s (Me g).n (Me g).v)=AU (aO g) (aP g) 60 (Me g).k (Me g).c (Me g).s (Me g).n (Me g).v:=by
   unfold YR Dy
   rw[List.getD_cons_zero,List.drop_succ_cons,List.drop_zero]
   exact iY _ _ (by omega) _
  rw[e]
  unfold AU
  rw[List.take_append_of_le_length (by rw[WE];omega),List.take_of_length_le (by rw[WE];omega)]
  exact iZ _ _ _ _ (by decide)
 ·exact (h.len rfl).elim
theorem aX (g:Gr) (now:Int) (h0:0≤now) (h60:now≤60):ZX (Jq g) now=0↔ZX (Jq g) 0=0:=by
 rw[MR,MR]
 constructor
 ·rintro⟨o,a⟩;exact⟨o,KP a (by omega) h0⟩
 ·rintro⟨o,a⟩
  refine⟨o,?_⟩
  have ht:=Cu g o
  unfold DG at a ⊢
  rw[ht]at a ⊢
  unfold VD at *
  by_cases c1:XC (((YR (Jq g)).take 22).getD 0 0:Nat) (((YR (Jq g)).take 22).getD 1 0:Nat) ((60:Nat):Int)≠0
  ·rw[if_pos c1]at a;exact (c1 a).elim
  rw[if_neg c1]at a ⊢
  split at a
  ·rename_i c2;exact (c2 a).elim
  rename_i c2
  rw[if_neg c2]
  split at a
  ·cases a
  rename_i c3
  rw[if_neg c3,if_neg (by omega)]
theorem vN {α β:Type} {R:α→β→Prop} {l:List α} {k:List β} (s:Et R l k):∀(i:Nat) (h1:i<l.length) (h2:i<k.length),R l[i] k[i]:=by
 induction s with
 | nil=>intro i h1;cases h1
 | cons a _ ih=>
  intro i h1 h2
  cases i with
  | zero=>exact a
  | succ i=>exact ih i (by simpa using h1) (by simpa using h2)
def Zgk (w:Wd):List (List Cm):=[(w.nodes 0).log,(w.nodes 1).log,(w.nodes 2).log,(w.nodes 3).log,(w.nodes 4).log]
theorem ja (w:Wd) (i:Nat) (hi:i<5):(Zgk w)[i]'hi=(w.nodes i).log:=by
 match i,hi with
 | 0,_=>rfl
 | 1,_=>rfl
 | 2,_=>rfl
 | 3,_=>rfl
 | 4,_=>rfl
theorem KJ.log {h:Hp} {R:List Value} {w:Wd} {lv tv:Value} {vs:List Value} (s:KJ h R w lv tv vs):∃b o c,lv=.slice (some ⟨b,o,none⟩) 5 c∧b<h.size∧∀n,n<5→∃x,hc h ⟨b,o+n,none⟩=some x∧Ts J8.C 5 h x (w.nodes n).log:=by
 have vl:vs.length=5:=dD s.each
 obtain⟨p,c,rfl,Yx⟩:=s.aK.open (n:=1) (enc:=fun v=>[v]) (fun _=>rfl) (show (1:Nat)≠0 by decide)
 obtain⟨b,o,rfl,hb,hh⟩:=Yx (by intro e;rw[e]at vl;cases vl)
 refine⟨b,o,c,by rw[vl],hb,fun n hn=>⟨vs[n],?_,?_⟩⟩
 ·have:=hh n (by omega)
  have:=this.hc (i:=0) rfl
  rw[Nat.mul_one]at this
  exact this
 ·have:=vN s.each n (by omega) hn
  rw[show ([(w.nodes 0).log,(w.nodes 1).log,(w.nodes 2).log,(w.nodes 3).log,(w.nodes 4).log]:List (List Cm))[n]'hn=(w.nodes n).log from ja w n hn]at this
  exact this
structure Zgl (R:List Value):Prop where
 len:R.length=13
 one:R.all Z5=true
 put:Yl [Value.int .i64 0,.bool false,.bool false,.bool false,.bool false,.bool false,.slice none 0 0,.int .i64 0,.int .i64 0,.int .i64 0,.int .i64 0,.int .i64 0,.slice none 0 0] 0 R=R
 le:R.length≤13
 take:R.take 13=R
theorem KJ.ok {h:Hp} {w:Wd} {lv tv:Value} {vs:List Value} (ra:KJ h (HS w lv tv) w lv tv vs):Zgl (HS w lv tv)∧(∃b o c,lv=.slice (some ⟨b,o,none⟩) 5 c)∧∃p c,tv=.slice p w.told.length c:=by
 obtain⟨b,o,c,hl,_,_⟩:=ra.log
 obtain⟨pt,ct,ht,_⟩:=ra.told.open (n:=5) (enc:=VK) (fun _=>rfl) (show (5:Nat)≠0 by decide)
 subst hl
 subst ht
 exact⟨⟨rfl,rfl,ZK rfl,Nat.le_refl 13,rfl⟩,⟨b,o,c,rfl⟩,pt,ct,rfl⟩
theorem pU (t:Sd):leq (VK t) (VK t)=true:=by
 unfold VK
 simp[bI,Gj]
theorem vO (t:Sd):Yp [some .i64,some .i64,some .i64,some .i64,some .i64] (VK t)=true:=rfl
theorem pV {A:List Raw} (hA:∀x∈A,x.err=0) (hl:A.length≤100000):(SN A).told.length≤A.length:=by
 obtain⟨C,hC⟩:∃C,C=A.map fun x=>Ok x.data:=⟨_,rfl⟩
 have nN:C.length≤100000:=by rw[hC,List.length_map];exact hl
 have:=aN nN (A.map Raw.ac) 0 Va (KK C) (fun a ha=>by
  obtain⟨z,hz,rfl⟩:=List.mem_map.1 ha
  obtain⟨_,q2,_,_,_⟩:=RS (hA z hz)
  refine⟨by unfold Raw.ac;simp only;omega,?_⟩
  rw[hC]
  exact List.mem_map.2 ⟨z,hz,rfl⟩)
 have h2:=this.wait
 rw[List.length_map]at h2
 have h3:(SN A).told.length≤0+A.length:=Nat.le_trans (Nat.le_add_right _ _) h2
 omega
theorem KR (A:List Raw) (i:Nat) (hi:i<A.length):SN (A.take (i+1))=act (SN (A.take i)) A[i].ac:=by
 unfold SN
 rw[Z9 A i hi,List.map_append]
 unfold SV
 rw[List.foldl_append]
 rfl
structure Zgm (w w':Wd) (x:Raw):Prop where
 node:0≤x.n∧x.n≤4
 xo:∀n:Nat,n<5→x.k=8→x.n=(n:Int)→(w.nodes n).up=true→(w'.nodes n).log=[]
 ge:∀n:Nat,n<5→¬(x.k=8∧x.n=(n:Int))→(w.nodes n).log.length≤(w'.nodes n).log.length
 gt:∀n:Nat,n<5→¬(x.k=8∧x.n=(n:Int))→(w.nodes n).log.length<(w'.nodes n).log.length→x.k=3∧x.n=(n:Int)
 told:∃e,w'.told=w.told++e∧(e≠[]→x.k=1∨x.k=3)
theorem aY (A:List Raw) (hA:∀x∈A,x.err=0) (i:Nat) (hi:i<A.length):Zgm (SN (A.take i)) (SN (A.take (i+1))) A[i]:=by
 rw[KR A i hi]
 have hx:=hA A[i] (List.getElem_mem hi)
 obtain⟨r1,r2,_⟩:=RS hx
 have hd:Mf (SN (A.take i)):=pS _
 have hn:∀n:Nat,A[i].ac.node=n↔A[i].n=(n:Int):=fun n=>by
  show A[i].n.toNat=n↔_
  omega
 have hg:=fun n=>pR hd A[i].ac n r1
 refine⟨r2,fun n _ k e u=>(hg n).1 ⟨k,(hn n).2 e⟩ u,fun n _ q=>((hg n).2 fun⟨k,e⟩=>q ⟨k,(hn n).1 e⟩).1,fun n _ q l=>?_,pQ _ _⟩
 obtain⟨k,e⟩:=((hg n).2 fun⟨k,e⟩=>q ⟨k,(hn n).1 e⟩).2 l
 exact⟨k,(hn n).1 e⟩
structure yn (h:Hp) (w:Wd) (R:List Value):Prop where
 ok:Zgl R
 up:∀n,n<5→nth R (1+n)=some (.bool (w.nodes n).up)
 aK:∃b o c,nth R 6=some (.slice (some ⟨b,o,none⟩) 5 c)∧b<h.size∧∀n,n<5→∃p c,hc h ⟨b,o+n,none⟩=some (.slice p (w.nodes n).log.length c)
 told:∃p c,nth R 12=some (.slice p w.told.length c)∧(w.told≠[]→∃b o,p=some ⟨b,o,none⟩∧b<h.size∧∀k (hk:k<w.told.length),rd h ⟨b,o+k*5,none⟩ 5=some (VK w.told[k]))
theorem KJ.row {h:Hp} {w:Wd} {lv tv:Value} {vs:List Value} (ra:KJ h (HS w lv tv) w lv tv vs):yn h w (HS w lv tv):=by
 obtain⟨b,o,c,hl,hb,hx⟩:=ra.log
 refine⟨ra.ok.1,fun i hi=>?_,⟨b,o,c,by rw[hl];rfl,hb,fun n hn=>?_⟩,?_⟩
 ·match i,hi with
  | 0,_=>rfl
  | 1,_=>rfl
  | 2,_=>rfl
  | 3,_=>rfl
  | 4,_=>rfl
 ·obtain⟨x,q1,q2⟩:=hx n hn
  obtain⟨p,c,rfl,_⟩:=XP q2
  exact⟨p,c,q1⟩
 ·obtain⟨pt,ct,ht,Yx⟩:=ra.told.open (n:=5) (enc:=VK) (fun _=>rfl) (show (5:Nat)≠0 by decide)
  refine⟨pt,ct,by rw[ht];rfl,fun Yr=>?_⟩
  obtain⟨b,o,e,hb,hh⟩:=Yx Yr
  exact⟨b,o,e,hb,fun k hk=>(hh k hk).rd (by simp[VK]) rfl⟩
set_option maxHeartbeats 4000000 in
theorem vP (T:World) (h:Hp) (v:Value) (gs:List Gr) (hv:Ts Gr.C 5 h v gs) (hg:∀g∈gs,g.ok) (tb:Fb Wl h) :
  Zd Tryz.prog T 3 #[v] h fun v' h'=>v'=.bool true∧Ze h.size h h':=by
 have tk:Tk h:=tb.tk
 refine Zd.Zi (args:=[_]) Tryz.func3 rfl rfl rfl rfl ?_
 simp -implicitDefEqProofs only[go_sem,↓reduceIte]
 refine (OZ T h v gs 60 true hv hg (by omega) tk).use ?_
 rintro v1 h1 ⟨b1,Jg,xs,hr,t1,i1⟩
 obtain⟨A,hA⟩:=Zu (jG gs 60 true)
 rw[←hA]at hr
 have Ae:∀x∈A,x.err=0:=by rw[hA];exact Fv _ _ _
 have Al:A.length≤60:=by rw[hA];exact Fw _ _ _
 have xl:xs.length=A.length:=by rw[←hr];unfold YU;simp
 have k1:Kp JK Wl h Wl h1:=Zs (JQ h) b1
 have qp:=tb.Zc k1
 obtain⟨pv,cv,hv1,hvr⟩:=OX t1
 rw[hv1]at t1 Jg ⊢
 simp -implicitDefEqProofs only[go_sem,↓reduceIte]
 refine (Co T h1 _ xs t1 Jg i1 qp (by omega) (fun k hk=>by rw[hr];exact WL (fun x hx=>Ae x (List.mem_of_mem_take hx)) (by rw[List.length_take];omega))).use ?_
 rintro _ h2 ⟨b2,w,rows,rfl,tr,rl,EX⟩
 rw[hr]at EX
 have B2:Ze h.size h h2:=b1.trans (b2.mono b1.size)
 obtain⟨p,c,rfl,Yx⟩:=tr.open pH (by decide)
 obtain⟨bb,oo,rfl,Ut,Vq⟩:=Yx (by intro e;rw[e]at rl;simp at rl)
 have AH:rows.length=A.length+1:=by omega
 have hR:∀i,i<rows.length→∃R,rd h2 ⟨bb,oo+i*13,none⟩ 13=some R∧yn h2 (SN (A.take i)) R:=fun i hi=>by
  obtain⟨e1,vs,ra⟩:=EX i hi
  refine⟨Fu rows[i],(Vq i hi).rd (by simp[Fu,HS]) rfl,?_⟩
  rw[←e1]
  exact ra.row
 have hG:=fun i hi=>aY A Ae i hi
 have hX:∀i (hi:i<A.length),∃b o,pv=some ⟨b,o,none⟩∧b<h2.size∧hc h2 ⟨b,o+i*5,none⟩=some (.int .i64 A[i].k)∧hc h2 ⟨b,o+i*5+1,none⟩=some (.int .i64 A[i].n):=fun i hi=>by
  obtain⟨p',c',DT,Yx⟩:=t1.open Sm (by decide)
  simp only[Value.slice.injEq]at DT
  obtain⟨rfl,_,rfl⟩:=DT
  obtain⟨b,o,e,hb,hh⟩:=Yx (by intro e;rw[e]at xl;simp at xl;omega)
  have jm:i<xs.length:=by omega
  have hx:xs[i].1=A[i]:=by
   have:A[i]? = some xs[i].1:=by rw[←hr];unfold YU;rw[List.getElem?_map,List.getElem?_eq_getElem jm];rfl
   rw[List.getElem?_eq_getElem hi]at this;exact (Option.some.inj this).symm
  refine⟨b,o,e,by have:=b2.size;omega,?_,?_⟩
  ·rw[b2.hc (by exact hb),←hx];exact (hh i jm).hc (i:=0) rfl
  ·rw[b2.hc (by exact hb),←hx];exact (hh i jm).hc (i:=1) rfl
 have up0:hc h2 ⟨bb,oo+1,none⟩=some (.bool true):=by
  have:=(Vq 0 (by omega)).hc (i:=1) (x:=.bool (rows[0].1.nodes 0).up) rfl
  rw[(EX 0 (by omega)).1,Nat.zero_mul,Nat.add_zero]at this
  exact this
 clear EX Vq tr Yx
 simp -implicitDefEqProofs only[go_sem,↓reduceIte]
 refine VS.ZU (fun F g=>Ze h2.size h2 g∧F 3=.slice pv xs.length cv∧F 4=.slice (some ⟨bb,oo,none⟩) rows.length c∧F 5=.bool true∧∃(i:Nat),i≤A.length∧F 6=.int .i64 i)
  (fun F _=>A.length-(vi (F 6)).toNat) rfl ⟨Ze.refl _ _,rfl,rfl,rfl,0,Nat.zero_le _,rfl⟩ ?_
 rintro F2 g2 ⟨uq,f3,f4,f5,i,hi,f6⟩
 by_cases ZA:i<A.length
 ·have ZH:(i:Int)+1<rows.length:=by omega
  have RD:(i:Int)<rows.length:=by omega
  obtain⟨Ra,ra,qa⟩:=hR i (by omega)
  obtain⟨Rb,rb,qb⟩:=hR (i+1) (by omega)
  obtain⟨bx,ox,rfl,tj,xk,xn⟩:=hX i ZA
  have G:=hG i ZA
  obtain⟨W,hW⟩:=Zu (SN (A.take i))
  obtain⟨W',hW'⟩:∃W,W=SN (A.take (i+1)):=⟨_,rfl⟩
  rw[←hW,←hW']at G
  have sq:W.told.length≤60:=by
   rw[hW]
   have:=pV (A:=A.take i) (fun x hx=>Ae x (List.mem_of_mem_take hx)) (by rw[List.length_take];omega)
   rw[List.length_take]at this
   omega
  rw[←hW]at qa
  rw[←hW']at qb
  obtain⟨a1,a2,a3,a4,a5⟩:=qa.ok
  obtain⟨c1,c2,c3,c4,c5⟩:=qb.ok
  have A0:rd g2 ⟨bb,oo+i*13,none⟩ 13=some Ra:=by rw[XB uq (by exact Ut)];exact ra
  obtain⟨g3,Fg⟩:=Zu (g2.push (.cells Ra.toArray 33):Hp)
  have e3:=Fg.symm
  have b3:Ze g2.size g2 g3:=by rw[Fg];exact (Ze.refl _ _).add _
  have y3:g3[g2.size]? = some (.cells Ra.toArray 33):=by rw[Fg];exact Zb
  have bg3:Ze h2.size h2 g3:=uq.trans (b3.mono uq.size)
  have rb3:rd g3 ⟨bb,oo+(i+1)*13,none⟩ 13=some Rb:=by rw[XB bg3 (by exact Ut)];exact rb
  obtain⟨g4,VO⟩:=Zu (g3.push (.cells Rb.toArray 33):Hp)
  have e4:=VO.symm
  have b4:Ze g3.size g3 g4:=by rw[VO];exact (Ze.refl _ _).add _
  have z4:g4[g3.size]? = some (.cells Rb.toArray 33):=by rw[VO];exact Zb
  have y4:=b4.get (Za y3) y3
  have bg4:Ze h2.size h2 g4:=bg3.trans (b4.mono bg3.size)
  simp -implicitDefEqProofs only[go_sem,↓reduceIte,f3,f4,f5,f6,ZH,RD,a1,a2,a3,a4,a5,c1,c2,c3,c4,c5,A0,e3,rb3,e4]
  obtain⟨bl,ol,cl,al,qB,yk⟩:=qa.aK
  obtain⟨dl,pl,el,bl',gE,cE⟩:=qb.aK
  have A6:hc g4 ⟨g2.size,6,none⟩=some (.slice (some ⟨bl,ol,none⟩) 5 cl):=by rw[Zg y4];exact al
  have B6:hc g4 ⟨g3.size,6,none⟩=some (.slice (some ⟨dl,pl,none⟩) 5 el):=by rw[Zg z4];exact bl'
  have qM:hc g4 ⟨bx,ox+i*5,none⟩=some (.int .i64 A[i].k):=by rw[bg4.hc (by exact tj)];exact xk
  have vQ:hc g4 ⟨bx,ox+i*5+1,none⟩=some (.int .i64 A[i].n):=by rw[bg4.hc (by exact tj)];exact xn
  obtain⟨k,hk⟩:=Zu (A[i].k)
  obtain⟨m,hm⟩:∃k,k=A[i].n:=⟨_,rfl⟩
  obtain⟨G1,G2,G3,G4,G5⟩:=G
  rw[←hk]at G2 G3 G4 G5 qM
  rw[←hm]at G1 G2 G3 G4 vQ
  have Mp:(i:Int)<xs.length:=by omega
  refine VS.ZU (fun F g=>g=g4∧F 3=.slice (some ⟨bx,ox,none⟩) xs.length cv∧F 4=.slice (some ⟨bb,oo,none⟩) rows.length c∧F 5=.bool true∧F 6=.int .i64 i∧F 7=.pointer (some ⟨g2.size,0,none⟩)∧F 8=.pointer (some ⟨g3.size,0,none⟩)∧∃n:Nat,n≤5∧F 9=.int .i64 n)
   (fun F _=>5-(vi (F 9)).toNat) rfl ⟨rfl,f3,f4,f5,f6,rfl,rfl,0,by omega,rfl⟩ ?_
  clear f3 f4 f5 f6
  rintro F3 g5 ⟨rfl,f3,f4,f5,f6,f7,f8,n,hn,f9⟩
  by_cases Qq:n<5
  ·have Cv:(n:Int)<5:=by omega
   obtain⟨pa,ca,la⟩:=yk n Qq
   obtain⟨pb,cb,lb⟩:=cE n Qq
   have la5:=la
   rw[←bg4.hc (by exact qB)]at la5
   have lb5:=lb
   rw[←bg4.hc (by exact gE)]at lb5
   have u5:hc g5 ⟨g2.size,1+n,none⟩=some (.bool (W.nodes n).up):=by rw[Zg y4];exact qa.up n Qq
   by_cases q:k=8∧m=(n:Int)
   ·obtain⟨q1,q2⟩:=q
    have qC:=eq_true q1
    have xw:=eq_true q2
    by_cases z:((W'.nodes n).log.length:Int)=0
    ·have z':=eq_true z
     simp -implicitDefEqProofs only[go_sem,↓reduceIte,f3,f4,f5,f6,f7,f8,f9,Cv,Mp,qM,vQ,qC,xw,B6,lb5,z',u5]
     unfold Yy
     refine⟨⟨rfl,f3,f4,f5,f6,f7,f8,n+1,Qq,rfl⟩,?_⟩
     simp only[vi,Zh,↓reduceIte,f9];omega
    ·have u:(W.nodes n).up=false:=by
      cases hu:(W.nodes n).up with
      | false=>rfl
      | true=>rw[G2 n Qq q1 q2 hu]at z;exact (z rfl).elim
     simp -implicitDefEqProofs only[go_sem,↓reduceIte,f3,f4,f5,f6,f7,f8,f9,Cv,Mp,qM,vQ,qC,xw,B6,lb5,z,u5,u]
     unfold Yy
     refine⟨⟨rfl,f3,f4,f5,f6,f7,f8,n+1,Qq,rfl⟩,?_⟩
     simp only[vi,Zh,↓reduceIte,f9];omega
   ·have YE:=G3 n Qq q
    have hgt:=G4 n Qq q
    have pW:¬((W'.nodes n).log.length:Int)<(W.nodes n).log.length:=by omega
    by_cases q1:k=8
    ·have q2:¬m=(n:Int):=fun e=>q ⟨q1,e⟩
     have qC:=eq_true q1
     have Zpw:¬((W'.nodes n).log.length:Int)>(W.nodes n).log.length:=fun l=>by have:=(hgt (by omega)).1;omega
     simp -implicitDefEqProofs only[go_sem,↓reduceIte,f3,f4,f5,f6,f7,f8,f9,Cv,Mp,qM,vQ,qC,q2]
     refine VS.q mixed (by kernel_rfl) ?_
     simp -implicitDefEqProofs only[go_sem,↓reduceIte,f3,f4,f5,f6,f7,f8,f9,Cv,Mp,qM,vQ,qC,q2,A6,B6,la5,lb5,pW,Zpw]
     unfold Yy
     refine⟨⟨rfl,f3,f4,f5,f6,f7,f8,n+1,Qq,rfl⟩,?_⟩
     simp only[vi,Zh,↓reduceIte,f9];omega
    ·by_cases hl:((W'.nodes n).log.length:Int)>(W.nodes n).log.length
     ·obtain⟨r1,r2⟩:=hgt (by omega)
      subst r1
      subst r2
      simp -implicitDefEqProofs only[go_sem,↓reduceIte,f3,f4,f5,f6,f7,f8,f9,Cv,Mp,qM,vQ,q1]
      refine VS.q mixed (by kernel_rfl) ?_
      simp -implicitDefEqProofs only[go_sem,↓reduceIte,f3,f4,f5,f6,f7,f8,f9,Cv,Mp,qM,vQ,q1,A6,B6,la5,lb5,pW,hl]
      unfold Yy
      refine⟨⟨rfl,f3,f4,f5,f6,f7,f8,n+1,Qq,rfl⟩,?_⟩
      simp only[vi,Zh,↓reduceIte,f9];omega
     ·simp -implicitDefEqProofs only[go_sem,↓reduceIte,f3,f4,f5,f6,f7,f8,f9,Cv,Mp,qM,vQ,q1]
      refine VS.q mixed (by kernel_rfl) ?_
      simp -implicitDefEqProofs only[go_sem,↓reduceIte,f3,f4,f5,f6,f7,f8,f9,Cv,Mp,qM,vQ,q1,A6,B6,la5,lb5,pW,hl]
      unfold Yy
      refine⟨⟨rfl,f3,f4,f5,f6,f7,f8,n+1,Qq,rfl⟩,?_⟩
      simp only[vi,Zh,↓reduceIte,f9];omega
  ·obtain rfl:n=5:=by omega
   obtain⟨pt,ct,Zpx,hat⟩:=qa.told
   obtain⟨pu,cu,Zpy,AL⟩:=qb.told
   obtain⟨e,he,hek⟩:=G5
   have A12:hc g5 ⟨g2.size,12,none⟩=some (.slice pt W.told.length ct):=by rw[Zg y4];exact Zpx
   have jF:hc g5 ⟨g3.size,12,none⟩=some (.slice pu W'.told.length cu):=by rw[Zg z4];exact Zpy
   have htl:W.told.length≤W'.told.length:=by rw[he,List.length_append];omega
   have pW:¬(W'.told.length:Int)<W.told.length:=by omega
   have Eb:∀j (hj:j<W.told.length),W'.told[j]'(by omega)=W.told[j]:=fun j hj=>by
    have:W'.told[j]? = some W.told[j]:=by rw[he,List.getElem?_append_left hj,List.getElem?_eq_getElem hj]
    rw[List.getElem?_eq_getElem (by omega)]at this
    exact Option.some.inj this
   have Zbk:((W'.told.length:Int)>W.told.length∧k=1)∨((W'.told.length:Int)>W.told.length∧k=3)∨¬(W'.told.length:Int)>W.told.length:=by
    by_cases hl:(W'.told.length:Int)>W.told.length
    ·rcases hek (by intro q;rw[q,List.append_nil]at he;rw[he]at hl;omega) with q|q
     ·exact .inl ⟨hl,q⟩
     ·exact .inr (.inl ⟨hl,q⟩)
    ·exact .inr (.inr hl)
   rcases Zbk with⟨hl,rfl⟩|⟨hl,rfl⟩|hl
   all_goals
    simp -implicitDefEqProofs only[go_sem,↓reduceIte,f3,f4,f5,f6,f7,f8,f9,Mp,qM,A12,jF,pW,hl]
    refine VS.ZU (fun F g=>g=g5∧F 3=.slice (some ⟨bx,ox,none⟩) xs.length cv∧F 4=.slice (some ⟨bb,oo,none⟩) rows.length c∧F 5=.bool true∧F 6=.int .i64 i∧F 7=.pointer (some ⟨g2.size,0,none⟩)∧F 8=.pointer (some ⟨g3.size,0,none⟩)∧∃j:Nat,j≤W.told.length∧F 10=.int .i64 j)
     (fun F _=>W.told.length-(vi (F 10)).toNat) rfl ⟨rfl,f3,f4,f5,f6,f7,f8,0,by omega,rfl⟩ ?_
    clear f3 f4 f5 f6 f7 f8 f9
    rintro F4 g6 ⟨rfl,f3,f4,f5,f6,f7,f8,j,hj,f10⟩
    by_cases Ic:j<W.told.length
    ·have ik:(j:Int)<W.told.length:=by omega
     have Zgn:(j:Int)<W'.told.length:=by omega
     have hju:j<W'.told.length:=by omega
     obtain⟨b6,o6,rfl,hb6,hr6⟩:=hat (by intro q;rw[q]at Ic;simp at Ic)
     obtain⟨b7,o7,rfl,hb7,hr7⟩:=AL (by intro q;rw[q]at hju;simp at hju)
     have q6:=hr6 j Ic
     have q7:=hr7 j hju
     rw[Eb j Ic]at q7
     rw[←XB bg4 (by exact hb6)]at q6
     rw[←XB bg4 (by exact hb7)]at q7
     have hs:=pU W.told[j]
     have yc:(VK W.told[j]).length=5:=rfl
     simp -implicitDefEqProofs only[go_sem,↓reduceIte,f3,f4,f5,f6,f7,f8,f10,A12,jF,ik,Zgn]
     refine VS.q mixed (by kernel_rfl) ?_
     simp -implicitDefEqProofs only[go_sem,↓reduceIte,f3,f4,f5,f6,f7,f8,f10,A12,jF,ik,Zgn,q6,q7,hs,yc,vO]
     unfold Yy
     refine⟨⟨rfl,f3,f4,f5,f6,f7,f8,j+1,Ic,rfl⟩,?_⟩
     simp only[vi,Zh,↓reduceIte,f10]
     clear yc hs q6 q7
     omega
    ·have ik:¬(j:Int)<W.told.length:=by omega
     simp -implicitDefEqProofs only[go_sem,↓reduceIte,f3,f4,f5,f6,f7,f8,f10,A12,jF,ik]
     unfold Yy
     refine⟨⟨bg4,f3,f4,f5,i+1,ZA,rfl⟩,?_⟩
     simp only[vi,Zh,↓reduceIte,f6];omega
 ·have YE:¬(i:Int)+1<rows.length:=by omega
  have up2:hc g2 ⟨bb,oo+1,none⟩=some (.bool true):=by rw[uq.hc (by exact Ut)];exact up0
  simp -implicitDefEqProofs only[go_sem,↓reduceIte,f3,f4,f5,f6,YE,up2]
  exact B2.trans (uq.mono B2.size)
def TkM (h:Hp):Prop:=Tk h∧En 0 niv TA h
theorem TkM.tbs {h:Hp} (t:TkM h):Fb Wl h:=⟨t.1,t.2,rfl,rfl⟩
theorem KT {W:World} (h:laidMetH Tryz.prog [("conclave/sha.numbers", Rows.laid_conclave_sha_numbers),("conclave/order.need", Rows.laid_conclave_order_need)] W):TkM W.heap:=by
 constructor
 ·have h1:=h.filter (fun x=>x.1 == "conclave/sha.numbers")
  exact Zan h1
 ·have h1:=h.filter (fun x=>x.1 == "conclave/order.need")
  exact tY h1
theorem O0 (os:Os) (args:Array Value):laidMetH Tryz.prog [("conclave/sha.numbers", Rows.laid_conclave_sha_numbers),("conclave/order.need", Rows.laid_conclave_order_need)] ((World.doorLaid Tryz.prog 87 os).forCall (fun _ _=>0) ⟨#[],args,[]⟩).memory:=
 laidMetH_of_parts3 (fuel:=8) (laidMet_of_run' 8 (by kernel_rfl) (by kernel_rfl)) (by kernel_rfl) (by kernel_rfl)
theorem O1 {h:Hp} {k:Nat} {v:Value} (hv:fit Tryz.prog h k 22 [v]):∃gs,Ts Gr.C 5 h v gs∧∀g∈gs,g.ok:=by
 obtain⟨gs,s,Jk,_⟩:=Oq (α:=Gr) (enc:=Gr.C) (n:=5) (ok:=fun g=>g.ok) Tryz.underlying22 (by kernel_rfl) (by decide) (fun _=>rfl) (fun k ds CG=>by
  have hlen:ds.length=5:=by
   cases k with
   | zero=>exact CG.elim
   | succ k=>unfold fit at CG;rw[Tryz.underlying81]at CG;exact CG.1
  have hL:=kY (P:=Tryz.prog) (h:=h) 8 k 81 ds (rep 5 [3]) (by kernel_rfl) (by rw[hlen];decide) CG
  obtain⟨a0,_,rfl,q0,p0,hL⟩:=TM Tryz.underlying3 hL
  obtain⟨a1,_,rfl,q1,p1,hL⟩:=TM Tryz.underlying3 hL
  obtain⟨a2,_,rfl,q2,p2,hL⟩:=TM Tryz.underlying3 hL
  obtain⟨a3,_,rfl,q3,p3,hL⟩:=TM Tryz.underlying3 hL
  obtain⟨a4,_,rfl,q4,p4,hL⟩:=TM Tryz.underlying3 hL
  obtain rfl:=kZ hL
  have mk:∀n:Int,-9223372036854775808≤n→n≤9223372036854775807→i64 n:=fun n h1 h2=>⟨h1,by omega⟩
  exact⟨⟨a0,a1,a2,a3,a4⟩,⟨⟨mk _ q0 p0,mk _ q1 p1⟩,mk _ q2 p2,mk _ q3 p3,mk _ q4 p4⟩,rfl⟩) hv
 exact⟨gs,⟨s⟩,Jk⟩
end Go.Proofs.YtkfhncfkagcamaaGreatDoor
