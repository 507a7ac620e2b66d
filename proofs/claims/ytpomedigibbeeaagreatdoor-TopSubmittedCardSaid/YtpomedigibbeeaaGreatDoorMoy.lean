/- A node is asked for a promise. -/
import Derived.Test.YtpomedigibbeeaaGreatDoorMop
import Derived.Test.YtpomedigibbeeaaGreatDoorOpn
namespace Go.Proofs.YtpomedigibbeeaaGreatDoor
open Go Go.V
set_option linter.unusedSimpArgs false
set_option linter.unusedVariables false
set_option maxRecDepth 100000
theorem gY (G:Hp) (X Y:Obj):((G.push X).push Y)[G.size]? = some X:=by rw[Zr (by simp),Zb]
theorem gs2 (G:Hp) (k:Nat) (X Y:Obj):((G.setIfInBounds k X).push Y)[G.size]? = some Y:=by
 have:=Zb (h:=G.setIfInBounds k X) (o:=Y);rwa [Array.size_setIfInBounds]at this
theorem jI (G:Hp) (X Y:Obj):((G.push X).push Y)[G.size+1]? = some Y:=by
 have:=Zb (h:=G.push X) (o:=Y);rwa [Array.size_push]at this
def dd (B:Nat) (g':Hp) (A C:Value) (p:YG) (l:List Vt) (b:YG):Prop:=
 ∃ka kc w1 w2,A=Zo ka∧C=Zo kc∧B≤ka∧B≤kc∧g'[ka]? = some (.cells (YN (if Yq p l b=0 then b else ⟨0,0⟩) w1).toArray 105)∧g'[kc]? = some (.cells [w2].toArray 103) ∧
  Jk B 146 Zn 8 g' w1 (if Yq p l b=0 then l else [])∧Jk B 146 Zn 8 g' w2 (if Yq p l b=0 then l else [])
def HU (B:Nat) (g':Hp) (A:Value) (l:List Nat) (n:Int) (E:Int) (add:List Nat):Prop:=
 ∃ka w,A=.pointer (some ⟨ka,0,none⟩)∧B≤ka∧g'[ka]? = some (.cells [w,.int .i64 (if E=0 then n else 0)].toArray 100)∧Z0 B 5 g' w (if E=0 then l++add else [])
set_option maxHeartbeats 1000000 in
theorem DT (T:World) (h:Hp) (o:Ow) (wb i nb:Nat) (Z8:Nat→Nat) (a:NA) (n:Nd) (YH:WA) (fl:List Y3) (bad:Nat→Int) (told:List S9) (l:Y3) (w:Value) (d:Uq o h)
  (N:ZJ o h wb i nb a n) (W:ZG o h wb Z8 YH fl bad told) (iv:Wm o h w l.vs) (Yp:fl.length≤1000000000000) (nP:n.own.l.length≤1000000) (jB:n.data.length≤1000000) (tb:CI o h) :
  Zd Tryz.prog T 93 #[Zo wb,Zo nb,.agg (YY l w).toArray] h fun v' h'=>∃o' a' Xu,Kp (fun t=>t=.world∨t=.Zm∨t=.node i) o h o' h'∧ZJ o' h' wb i nb a' (YR n l).n∧ZG o' h' wb Z8 Xu (fl++(YR n l).ls) bad told:=by
 obtain⟨pw,cw,rfl⟩:=iv.isSlice
 refine Zd.Zj (args:=[_,_,_]) Tryz.func93 rfl rfl rfl rfl ?_
 unfold Zo YY
 simp -implicitDefEqProofs only[go_sem,↓reduceIte]
 obtain⟨h1,YD⟩:=Zy (((h.push (.cells [Zo wb].toArray 91)).push (.cells [Zo nb].toArray 98)).push (.cells (YY l (.slice pw l.vs.length cw)).toArray 148):Hp)
 have k1:Kp Qz o h o h1:=by rw[YD];exact ((Kp.refl d _).push _ |>.push _).push _
 have s1:h1.size=h.size+3:=by rw[YD];simp
 have d1:∀b,h.size≤b→o b=none:=d
 have x3:ZN o h1 h.size (.cells [Zo wb].toArray 91):=⟨d _ (by omega),by rw[YD,Zr (by simp;omega),gY]⟩
 have x4:ZN o h1 (h.size+1) (.cells [Zo nb].toArray 98):=⟨d _ (by omega),by rw[YD,Zr (by simp),jI]⟩
 have x5:ZN o h1 (h.size+2) (.cells (YY l (.slice pw l.vs.length cw)).toArray 148):=⟨d _ (by omega),by
  have:=Zb (h:=(h.push (.cells [Zo wb].toArray 91)).push (.cells [Zo nb].toArray 98)) (o:=.cells (YY l (.slice pw l.vs.length cw)).toArray 148)
  rw[YD];simpa using this⟩
 have e0:((h.push (.cells [Zo wb].toArray 91)).push (.cells [Zo nb].toArray 98)).push (.cells (YY l (.slice pw l.vs.length cw)).toArray 148)=h1:=YD.symm
 unfold Zo YY at e0
 rw[e0]
 clear e0 YD
 have N1:=N.still k1
 have W1:=W.still k1
 have uN:=iv.Zc k1
 have R1:=Zx N1.ZF.2 N1.pt.store.len
 have JN:=Za N1.ZF.2
 have l3:=Za x3.2
 have l4:=Za x4.2
 have l5:=Za x5.2
 have r3:hc h1 ⟨h.size,0,none⟩=some (Zo wb):=Zh x3.2
 have r4:hc h1 ⟨h.size+1,0,none⟩=some (Zo nb):=Zh x4.2
 have r53:rd h1 ⟨h.size+2,3,none⟩ 2=some [.int .i64 l.b.r,.int .i64 l.b.n]:=by rw[Z5 x5.2 (by simp[YY])];rfl
 have r51:hc h1 ⟨h.size+2,1,none⟩=some (.int .i64 l.Jt):=Zh x5.2
 unfold Zo at r3 r4
 have KD:=R1.own
 obtain⟨pv,cv,jJ⟩:=N1.pt.YQ.isSlice
 rw[jJ]at KD
 have call:∀G,Zg h1.size h1 G→Zd Tryz.prog T 103 #[.agg #[.int .i64 n.own.p.r,.int .i64 n.own.p.n,.slice pv n.own.l.length cv],.agg #[.int .i64 l.b.r,.int .i64 l.b.n]] G fun v' h'=>ET G.size h' v' n.own.p n.own.l l.b∧Zg G.size G h':=fun G hG=>
  Tj T G n.own.p _ n.own.l l.b (by rw[←jJ];exact N1.pt.YQ.ts.Ya hG) (by omega)
 obtain⟨E,hE⟩:=Zy (Yq n.own.p n.own.l l.b)
 have wA:∀(G:Hp) (k:Nat) (r m:Int) (p:Option Addr) (L c:Nat),G[k]? = some (.cells [.int .i64 0,.int .i64 0,.slice none 0 0].toArray 105)→wr G ⟨k,0,none⟩ [.int .i64 r,.int .i64 m,.slice p L c]=some (G.setIfInBounds k (.cells [.int .i64 r,.int .i64 m,.slice p L c].toArray 105)):=fun G k r m p L c hx=>by
  rw[ZS hx 0 _];rfl
 have wB:∀(G:Hp) (k:Nat) (p:Option Addr) (L c:Nat),G[k]? = some (.cells [.slice none 0 0].toArray 103)→Jx G ⟨k,0,none⟩ (.slice p L c)=some (G.setIfInBounds k (.cells [.slice p L c].toArray 103)):=fun G k p L c hx=>by
  rw[Yz hx 0 _];rfl
 refine VS.mono (N:=fun F' g'=>Zg h1.size h1 g'∧F' 3=.pointer (some ⟨h.size,0,none⟩)∧F' 4=.pointer (some ⟨h.size+1,0,none⟩)∧F' 5=.pointer (some ⟨h.size+2,0,none⟩)∧F' 8=.int .i64 E∧dd h1.size g' (F' 6) (F' 7) n.own.p n.own.l l.b) ?_ ?_ (fun _ _ _ h=>h) (fun _ _ h=>h)
 ·refine VS.z (h1.size) [6,13,14] (.q 0 (.p 1 (.p 2 (.q 3 (.p 4 (.q 5 (.or 6 (.p 7 (.p 8 (.p 9 (.p 10 (.or 11 (.s 12 (.w 13 (.w 14 (.p 15 .nil)))) (.s 12 (.s 11 (.w 13 (.w 14 (.p 15 .nil)))))))))) (.or 11 (.or 6 (.p 7 (.p 8 (.p 9 (.p 10 (.s 12 (.w 13 (.w 14 (.p 15 .nil)))))))) (.s 12 (.w 6 (.p 7 (.p 8 (.p 9 (.p 10 (.w 13 (.w 14 (.p 15 .nil)))))))))) (.s 12 (.or 6 (.p 7 (.p 8 (.p 9 (.p 10 (.s 11 (.w 13 (.w 14 (.p 15 .nil)))))))) (.s 11 (.w 6 (.p 7 (.p 8 (.p 9 (.p 10 (.w 13 (.w 14 (.p 15 .nil))))))))))))))))))) mixed (by kernel_rfl) ?_
  simp -implicitDefEqProofs only[go_sem,↓reduceIte,r4,KD,r53,JN,l4,l5]
  unfold dd Zo YN
  repeat' (first|with_reducible exact Zg.refl _ _|with_reducible exact Zg.push (by omega) _|with_reducible refine And.intro ?_ ?_)
  all_goals first
   | (refine (call h1 (Zg.refl _ _)).use ?_
      rintro _ g5 ⟨⟨w1,w2,rfl,o1,o2⟩,b5⟩
      obtain⟨p1,c1,rfl,_⟩:=o1.open
      obtain⟨p2,c2,rfl,_⟩:=o2.open
      rw[←hE]at *
      have s5:=b5.size
      unfold YN
      simp -implicitDefEqProofs only[go_sem,↓reduceIte,b5]
      refine⟨⟨_,_,_,_,rfl,rfl,s5,by omega,gY _ _ _,jI _ _ _,(o1.push _).push _,(o2.push _).push _⟩,⟨_,_,_,_,rfl,rfl,by omega,s5,jI _ _ _,gY _ _ _,(o1.push _).push _,(o2.push _).push _⟩⟩)
   | (refine (call (h1.push (.cells _ 105)) (Zg.push (Nat.le_refl _) _)).use ?_
      rintro _ g5 ⟨⟨w1,w2,rfl,o1,o2⟩,b5⟩
      obtain⟨p1,c1,rfl,_⟩:=o1.open
      obtain⟨p2,c2,rfl,_⟩:=o2.open
      rw[←hE]at *
      have s5:=b5.size
      rw[Array.size_push]at s5
      have B5:Zg h1.size h1 g5:=(Zg.push (Nat.le_refl _) _).trans (b5.mono (by simp))
      have xA:=b5.get (k:=h1.size) (by simp) Zb
      have TD:=wA _ _ (if E=0 then l.b else ⟨0,0⟩).r (if E=0 then l.b else ⟨0,0⟩).n p1 (if E=0 then n.own.l else []).length c1 xA
      have zA:=Za xA
      unfold YN
      simp -implicitDefEqProofs only[go_sem,↓reduceIte,B5,TD,zA]
      exact⟨_,_,_,_,rfl,rfl,Nat.le_refl _,by omega,by rw[Zr (by simpa using zA)];exact Zv xA,gs2 _ _ _ _,((o1.ZT (by simp) _).push _).mono (by simp),((o2.ZT (by simp) _).push _).mono (by simp)⟩)
   | (refine (call (h1.push (.cells _ 103)) (Zg.push (Nat.le_refl _) _)).use ?_
      rintro _ g5 ⟨⟨w1,w2,rfl,o1,o2⟩,b5⟩
      obtain⟨p1,c1,rfl,_⟩:=o1.open
      obtain⟨p2,c2,rfl,_⟩:=o2.open
      rw[←hE]at *
      have s5:=b5.size
      rw[Array.size_push]at s5
      have B5:Zg h1.size h1 g5:=(Zg.push (Nat.le_refl _) _).trans (b5.mono (by simp))
      have xB:=b5.get (k:=h1.size) (by simp) Zb
      have KC:=wB _ _ p2 (if E=0 then n.own.l else []).length c2 xB
      have zB:=Za xB
      unfold YN
      simp -implicitDefEqProofs only[go_sem,↓reduceIte,B5,KC,zB]
      exact⟨_,_,_,_,rfl,rfl,by omega,Nat.le_refl _,gs2 _ _ _ _,by rw[Zr (by simpa using zB)];exact Zv xB,((o1.ZT (by simp) _).push _).mono (by simp),((o2.ZT (by simp) _).push _).mono (by simp)⟩)
   | (refine (call ((h1.push (.cells _ 105)).push (.cells _ 103)) ((Zg.push (Nat.le_refl _) _).Yh (by simp) _)).use ?_
      rintro _ g5 ⟨⟨w1,w2,rfl,o1,o2⟩,b5⟩
      obtain⟨p1,c1,rfl,_⟩:=o1.open
      obtain⟨p2,c2,rfl,_⟩:=o2.open
      rw[←hE]at *
      have s5:=b5.size
      rw[Array.size_push,Array.size_push]at s5
      have B5:Zg h1.size h1 g5:=((Zg.push (Nat.le_refl _) _).Yh (by simp) _).trans (b5.mono (by simp;omega))
      have xA:=b5.get (k:=h1.size) (by simp;omega) (gY _ _ _)
      have xB:=b5.get (k:=h1.size+1) (by simp) (jI _ _ _)
      have TD:=wA _ _ (if E=0 then l.b else ⟨0,0⟩).r (if E=0 then l.b else ⟨0,0⟩).n p1 (if E=0 then n.own.l else []).length c1 xA
      have zA:=Za xA
      have Np:=fun o:Obj=>(Yi (o:=o) (show h1.size≠h1.size+1 by omega)).trans xB
      have KC:=fun o:Obj=>wB _ _ p2 (if E=0 then n.own.l else []).length c2 (Np o)
      have zB:h1.size+1<g5.size:=Za xB
      unfold YN
      simp -implicitDefEqProofs only[go_sem,↓reduceIte,B5,TD,zA,KC,zB]
      exact⟨_,_,_,_,rfl,rfl,by omega,by omega,(Yi (by omega)).trans (Zv xA),Zv (Np _),((o1.ZT (by simp;omega) _).ZT (by simp) _).mono (by simp;omega),((o2.ZT (by simp;omega) _).ZT (by simp) _).mono (by simp;omega)⟩)
   | (refine (call ((h1.push (.cells _ 103)).push (.cells _ 105)) ((Zg.push (Nat.le_refl _) _).Yh (by simp) _)).use ?_
      rintro _ g5 ⟨⟨w1,w2,rfl,o1,o2⟩,b5⟩
      obtain⟨p1,c1,rfl,_⟩:=o1.open
      obtain⟨p2,c2,rfl,_⟩:=o2.open
      rw[←hE]at *
      have s5:=b5.size
      rw[Array.size_push,Array.size_push]at s5
      have B5:Zg h1.size h1 g5:=((Zg.push (Nat.le_refl _) _).Yh (by simp) _).trans (b5.mono (by simp;omega))
      have xB:=b5.get (k:=h1.size) (by simp;omega) (gY _ _ _)
      have xA:=b5.get (k:=h1.size+1) (by simp) (jI _ _ _)
      have TD:=wA _ _ (if E=0 then l.b else ⟨0,0⟩).r (if E=0 then l.b else ⟨0,0⟩).n p1 (if E=0 then n.own.l else []).length c1 xA
      have zA:=Za xA
      have Np:=fun o:Obj=>(Yi (o:=o) (show h1.size+1≠h1.size by omega)).trans xB
      have KC:=fun o:Obj=>wB _ _ p2 (if E=0 then n.own.l else []).length c2 (Np o)
      have zB:h1.size<g5.size:=Za xB
      unfold YN
      simp -implicitDefEqProofs only[go_sem,↓reduceIte,B5,TD,zA,KC,zB]
      exact⟨_,_,_,_,rfl,rfl,by omega,by omega,(Yi (by omega)).trans (Zv xA),Zv (Np _),((o1.ZT (by simp) _).ZT (by simp;omega) _).mono (by simp;omega),((o2.ZT (by simp) _).ZT (by simp;omega) _).mono (by simp;omega)⟩)
 ·rintro F1 g1 ⟨b1,f3,f4,f5,f8,ka,kc,w1,w2,fA,fC,ge1,ge2,yA,yC,o1,o2⟩
  rw[←hE]at yA o1 o2
  have kb:=ZC k1.ZW b1
  have N2:=N1.still kb
  have W2:=W1.still kb
  have K2:Kp Qz o h o g1:=k1.Ya b1
  have y3:=x3.Zc kb
  have y4:=x4.Zc kb
  have y5:=x5.Zc kb
  have jF:=uN.Zc kb
  have BO:=(tb.Zc k1).Zc kb
  have R2:=Zx N2.ZF.2 N2.pt.store.len
  have m3:=Za y3.2
  have m4:=Za y4.2
  have m5:=Za y5.2
  have JR:=Za N2.ZF.2
  have q3:hc g1 ⟨h.size,0,none⟩=some (Zo wb):=Zh y3.2
  have q4:hc g1 ⟨h.size+1,0,none⟩=some (Zo nb):=Zh y4.2
  have df:rd g1 ⟨h.size+2,3,none⟩ 2=some [.int .i64 l.b.r,.int .i64 l.b.n]:=by rw[Z5 y5.2 (by simp[YY])];rfl
  have q51:hc g1 ⟨h.size+2,1,none⟩=some (.int .i64 l.Jt):=Zh y5.2
  unfold Zo at q3 q4
  have R2p:=R2.DN
  by_cases e:E=0
  case neg=>
   have eP:YR n l=⟨n,[⟨7,n.me,l.Jt,n.own.p,VX,[]⟩],[]⟩:=by unfold YR;rw[←hE,if_pos e]
   rw[eP]
   simp -implicitDefEqProofs only[go_sem,↓reduceIte,f8,e]
   refine VS.z (g1.size) [10] (.q 0 (.q 1 (.p 2 (.q 3 (.q 4 (.p 5 (.p 6 (.p 7 (.q 8 (.p 9 (.w 10 .nil))))))))))) mixed (by kernel_rfl) ?_
   simp -implicitDefEqProofs only[go_sem,↓reduceIte,f3,f4,f5,q3,q4,q51,R2p,m3,m4,m5,JR]
   refine (UM T g1 o wb nb Z8 n.me YH fl bad told l.Jt ⟨7,0,0,n.own.p,VX,[]⟩ (.slice none 0 0) K2.ZW W2 R2.me JR (Im.nil _ _ _ _) Yp).use ?_
   rintro v' h' ⟨o',Xu,k,_,W'⟩
   simp -implicitDefEqProofs only[go_sem,↓reduceIte]
   exact⟨o',a,Xu,(ZE K2).trans (k.mono fun t q=>q.elim .inl fun q=>.inr (.inl q)),N2.Zc k (by rintro t (rfl|rfl)<;>simp[Tg.of]),W'⟩
  rw[if_pos e]at yA o1 o2
  have iv7:Wm o g1 w2 n.own.l:=Im.QZ o2.own (fun b hb=>k1.ZW b hb)
  have iv6:Wm o g1 w1 n.own.l:=Im.QZ o1.own (fun b hb=>k1.ZW b hb)
  unfold Zo at fA fC
  simp -implicitDefEqProofs only[go_sem,↓reduceIte,f8,e,f3,f4,f5,fC]
  obtain⟨g2,QL⟩:=Zy (g1.push (.cells [Wu 110 [h.size,h.size+1,h.size+2,kc]].toArray 1):Hp)
  have k2:=ZX K2.ZW (.cells [Wu 110 [h.size,h.size+1,h.size+2,kc]].toArray 1)
  rw[←QL]at k2
  have K3:Kp Qz o h o g2:=K2.trans k2
  have x9:ZN o g2 g1.size (.cells [Wu 110 [h.size,h.size+1,h.size+2,kc]].toArray 1):=⟨K2.ZW _ (Nat.le_refl _),by rw[QL];exact Zb⟩
  have e2:g1.push (.cells [Wu 110 [h.size,h.size+1,h.size+2,kc]].toArray 1)=g2:=QL.symm
  unfold Wu at e2
  simp only[List.map]at e2
  unfold Zo at e2
  rw[e2]
  clear e2 QL
  have N3:=N2.still k2
  have W3:=W2.still k2
  have z3:=y3.Zc k2
  have z4:=y4.Zc k2
  have z5:=y5.Zc k2
  have z6:=(show ZN o g1 ka _ from⟨k1.ZW ka ge1,yA⟩).Zc k2
  have z7:=(show ZN o g1 kc _ from⟨k1.ZW kc ge2,yC⟩).Zc k2
  have iw7:=iv7.Zc k2
  have iw6:=iv6.Zc k2
  have sR:=BO.Zc k2
  clear R2 R2p m3 m4 m5 JR q3 q4 df q51 R1 KD JN l3 l4 l5 r3 r4 r53 r51
  have R3:=Zx N3.ZF.2 N3.pt.store.len
  have m3:=Za z3.2
  have m4:=Za z4.2
  have m5:=Za z5.2
  have m9:=Za x9.2
  have R7:=Za N3.ZF.2
  have q4:hc g2 ⟨h.size+1,0,none⟩=some (Zo nb):=Zh z4.2
  have df:rd g2 ⟨h.size+2,3,none⟩ 2=some (Je l.b):=by rw[Z5 z5.2 (by simp[YY])];rfl
  have q9:hc g2 ⟨g1.size,0,none⟩=some (Wu 110 [h.size,h.size+1,h.size+2,kc]):=Zh x9.2
  have R3p:rd g2 ⟨nb,4,none⟩ 2=some (Je n.own.p):=R3.DN
  unfold Zo at q4
  refine VS.q mixed (by kernel_rfl) ?_
  simp -implicitDefEqProofs only[go_sem,↓reduceIte,f4,f5,q4,df,R3p]
  by_cases ep:n.own.p=l.b
  ·have eP:YR n l=⟨n,[⟨1,n.me,l.Jt,l.b,VX,n.own.l⟩],[]⟩:=by unfold YR;rw[←hE,if_neg (by omega),if_pos ep]
   rw[eP]
   unfold Wu at q9
   simp only[List.map]at q9
   unfold Zo at q9
   simp -implicitDefEqProofs only[go_sem,↓reduceIte,ep,q9]
   refine (cZ T g2 o wb nb Z8 n.me YH fl bad told h.size (h.size+1) (h.size+2) kc l _ w2 n.own.l K3.ZW W3 R3.me R7 Yp z3 z4 z5 z7 iw7).use ?_
   rintro v' h' ⟨o',Xu,k,W'⟩
   simp -implicitDefEqProofs only[go_sem,↓reduceIte]
   exact⟨o',a,Xu,(ZE K3).trans (k.mono fun t q=>q.elim .inl fun q=>.inr (.inl q)),N3.Zc k (by rintro t (rfl|rfl)<;>simp[Tg.of]),W'⟩
  simp -implicitDefEqProofs only[go_sem,↓reduceIte,ep]
  have oL:=R3.tape
  obtain⟨pd,cd,Rs⟩:=N3.pt.data.1.isSlice
  rw[Rs]at oL
  obtain⟨E2,hO⟩:=Zy (J2 n.data n.Y9 l.b)
  have call2:∀G,Zg g2.size g2 G→Zd Tryz.prog T 111 #[.agg #[.slice pd n.data.length cd,.int .i64 n.Y9],.agg #[.int .i64 l.b.r,.int .i64 l.b.n]] G fun v' h'=>To G.size h' v' n.data n.Y9 E2 (Yk (XT l.b))∧Zg G.size G h':=fun G hG=>by
   rw[hO]
   exact Md T G _ n.Y9 n.data l.b (by rw[←Rs];exact N3.pt.data.bs.Ya hG) (by omega) (sR.tk.Jy hG)
  have wT:∀(G:Hp) (k:Nat) (m:Int) (p:Option Addr) (L c:Nat),G[k]? = some (.cells [.slice none 0 0,.int .i64 0].toArray 100)→wr G ⟨k,0,none⟩ [.slice p L c,.int .i64 m]=some (G.setIfInBounds k (.cells [.slice p L c,.int .i64 m].toArray 100)):=fun G k m p L c hx=>by
   rw[ZS hx 0 _];rfl
  unfold Je at df
  refine VS.mono (N:=fun F' g'=>Zg g2.size g2 g'∧F' 3=.pointer (some ⟨h.size,0,none⟩)∧F' 4=.pointer (some ⟨h.size+1,0,none⟩)∧F' 5=.pointer (some ⟨h.size+2,0,none⟩)∧F' 6=.pointer (some ⟨ka,0,none⟩)∧F' 9=.pointer (some ⟨g1.size,0,none⟩)∧F' 8=.int .i64 E2∧HU g2.size g' (F' 10) n.data n.Y9 E2 (Yk (XT l.b))) ?_ ?_ (fun _ _ _ h=>h) (fun _ _ h=>h)
  ·refine VS.z (g2.size) [6,11] (.q 0 (.p 1 (.p 2 (.q 3 (.p 4 (.q 5 (.or 6 (.p 7 (.p 8 (.p 9 (.s 10 (.w 11 (.p 12 .nil)))))) (.s 10 (.w 6 (.p 7 (.p 8 (.p 9 (.w 11 (.p 12 .nil)))))))))))))) mixed (by kernel_rfl) ?_
   simp -implicitDefEqProofs only[go_sem,↓reduceIte,f3,f4,f5,fA,q4,oL,df,m4,m5,R7]
   unfold HU
   repeat' (first|with_reducible exact Zg.refl _ _|with_reducible exact Zg.push (by omega) _|with_reducible refine And.intro ?_ ?_)
   all_goals first
    | (refine (call2 g2 (Zg.refl _ _)).use ?_
       rintro _ g5 ⟨⟨w,rfl,o1⟩,b5⟩
       obtain⟨p1,c1,rfl,_⟩:=o1.bs.open
       have s5:=b5.size
       simp -implicitDefEqProofs only[go_sem,↓reduceIte,b5]
       exact⟨f3,f4,f5,fA,_,_,rfl,s5,Zb,o1.push _⟩)
    | (refine (call2 (g2.push (.cells _ 100)) (Zg.push (Nat.le_refl _) _)).use ?_
       rintro _ g5 ⟨⟨w,rfl,o1⟩,b5⟩
       obtain⟨p1,c1,rfl,_⟩:=o1.bs.open
       have B5:Zg g2.size g2 g5:=(Zg.push (Nat.le_refl _) _).trans (b5.mono (by simp))
       have xA:=b5.get (k:=g2.size) (by simp) Zb
       have TD:=wT _ _ (if E2=0 then n.Y9 else 0) p1 (if E2=0 then n.data++Yk (XT l.b) else []).length c1 xA
       have zA:=Za xA
       simp -implicitDefEqProofs only[go_sem,↓reduceIte,B5,TD,zA]
       exact⟨f3,f4,f5,fA,_,_,rfl,Nat.le_refl _,Zv xA,(o1.ZT (by simp) _).mono (by simp)⟩)
  ·rintro F2 g3 ⟨b3,f3,f4,f5,f6,f9,f8,kt,wt,fT,ge3,yT,oT⟩
   have Wn:=ZC K3.ZW b3
   have N4:=N3.still Wn
   have W4:=W3.still Wn
   have K4:Kp Qz o h o g3:=K3.Ya b3
   by_cases e2:E2=0
   case neg=>
    have eP:YR n l=⟨n,[],[]⟩:=by unfold YR;rw[←hE,if_neg (by omega),if_neg ep,←hO,if_pos e2]
    rw[eP,List.append_nil]
    simp -implicitDefEqProofs only[go_sem,↓reduceIte,f8,e2]
    exact⟨o,a,YH,ZE K4,N4,W4⟩
   rw[if_pos e2]at yT oT
   have u3:=z3.Zc Wn
   have u4:=z4.Zc Wn
   have u5:=z5.Zc Wn
   have u6:=z6.Zc Wn
   have u7:=z7.Zc Wn
   have u9:=x9.Zc Wn
   have iu6:=iw6.Zc Wn
   have iu7:=iw7.Zc Wn
   have iT:Tv o g3 wt (n.data++Yk (XT l.b)):=⟨Im.QZ oT.own (fun b hb=>K3.ZW b hb),oT.byte⟩
   have eP:YR n l=⟨{ n with data:=n.data++Yk (XT l.b),ZA:=some (.MD ⟨l.b,n.own.l⟩ l.Jt l.b n.own.l) },[],[]⟩:=by unfold YR;rw[←hE,if_neg (by omega),if_neg ep,←hO,if_neg (by omega)]
   rw[eP,List.append_nil]
   clear R3 m3 m4 m5 m9 R7 q4 df q9 R3p oL
   obtain⟨pt,ct,rfl,_⟩:=oT.bs.open
   have q4:hc g3 ⟨h.size+1,0,none⟩=some (Zo nb):=Zh u4.2
   have qT:rd g3 ⟨kt,0,none⟩ 2=some [.slice pt (n.data++Yk (XT l.b)).length ct,.int .i64 n.Y9]:=Zp yT rfl
   have MF:=Za N4.ZF.2
   obtain⟨g4,w4,N5,k5⟩:=ZU.write (a:={ a with data:=.slice pt (n.data++Yk (XT l.b)).length ct }) (n:={ n with data:=n.data++Yk (XT l.b) }) { N4.pt with data:=iT } K4.ZW N4.ZF ((YT N4.ZF.2 N4.pt.store.len).tape (.slice pt (n.data++Yk (XT l.b)).length ct) n.Y9 rfl)
   have v4:=u4.Zc k5
   have q4':hc g4 ⟨h.size+1,0,none⟩=some (Zo nb):=Zh v4.2
   have Pa:=Za N5.ZF.2
   have pn:Up o g4 wb i nb a.Zi (Wu 112 [ka,h.size+1,g1.size]) (some (.MD ⟨l.b,n.own.l⟩ l.Jt l.b n.own.l)):=
    ⟨ka,h.size+1,g1.size,_,rfl,⟨_,u6.Zc k5,iu6.Zc k5⟩,v4,u9.Zc k5,h.size,h.size+1,h.size+2,kc,l,_,w2,rfl,u3.Zc k5,v4,u5.Zc k5,rfl,rfl,u7.Zc k5,iu7.Zc k5⟩
   obtain⟨g6,w6,N6,k6⟩:=ZU.write (a:={ a with data:=.slice pt (n.data++Yk (XT l.b)).length ct,ZA:=Wu 112 [ka,h.size+1,g1.size] }) (n:={ n with data:=n.data++Yk (XT l.b),ZA:=some (.MD ⟨l.b,n.own.l⟩ l.Jt l.b n.own.l) }) { N5.pt with ZA:=pn } k5.ZW N5.ZF ((YT N5.ZF.2 N5.pt.store.len).ZA (Wu 112 [ka,h.size+1,g1.size]) rfl)
   unfold Wu at w6
   simp only[List.map]at w6
   unfold Zo at q4 q4' w6
   simp -implicitDefEqProofs only[go_sem,↓reduceIte,f8,e2,f4,f6,f9,fT,q4,qT,w4,MF,q4',w6,Pa]
   have K6:Kp (fun t=>t=.world∨t=.Zm∨t=.node i) o h o g6:=((ZE K4).trans (k5.mono fun t q=>.inr (.inr q))).trans (k6.mono fun t q=>.inr (.inr q))
   exact⟨o,_,YH,K6,N6,(W4.Zc k5 (by rintro t rfl;simp[Tg.of])).Zc k6 (by rintro t rfl;simp[Tg.of])⟩
def xY (B:Nat) (g':Hp) (A:Value) (p:YG) (l:List Vt) (x:Vt):Prop:=
 ∃ka w,A=.pointer (some ⟨ka,0,none⟩)∧B≤ka∧g'[ka]? = some (.cells (YN (if YK p l x=0 then x.b else ⟨0,0⟩) w).toArray 105)∧Jk B 146 Zn 8 g' w (if YK p l x=0 then JA l x else [])
set_option maxHeartbeats 1000000 in
theorem oM (T:World) (h:Hp) (o:Ow) (wb i nb:Nat) (Z8:Nat→Nat) (a:NA) (n:Nd) (YH:WA) (fl:List Y3) (bad:Nat→Int) (told:List S9) (l:Y3) (w:Value) (d:Uq o h)
  (N:ZJ o h wb i nb a n) (W:ZG o h wb Z8 YH fl bad told) (iv:Wm o h w l.vs) (Yp:fl.length≤1000000000000) (nP:n.own.l.length≤1000000) (jB:n.data.length≤1000000) (tb:CI o h) :
  Zd Tryz.prog T 95 #[Zo wb,Zo nb,.agg (YY l w).toArray] h fun v' h'=>∃o' a' Xu,Kp (fun t=>t=.world∨t=.Zm∨t=.node i) o h o' h'∧ZJ o' h' wb i nb a' (asked n l).n∧ZG o' h' wb Z8 Xu (fl++(asked n l).ls) bad told:=by
 obtain⟨pw,cw,rfl⟩:=iv.isSlice
 refine Zd.Zj (args:=[_,_,_]) Tryz.func95 rfl rfl rfl rfl ?_
 unfold Zo YY
 simp -implicitDefEqProofs only[go_sem,↓reduceIte]
 obtain⟨h1,YD⟩:=Zy (((h.push (.cells [Zo wb].toArray 91)).push (.cells [Zo nb].toArray 98)).push (.cells (YY l (.slice pw l.vs.length cw)).toArray 148):Hp)
 have k1:Kp Qz o h o h1:=by rw[YD];exact ((Kp.refl d _).push _ |>.push _).push _
 have s1:h1.size=h.size+3:=by rw[YD];simp
 have d1:∀b,h.size≤b→o b=none:=d
 have x3:ZN o h1 h.size (.cells [Zo wb].toArray 91):=⟨d _ (by omega),by rw[YD,Zr (by simp;omega),gY]⟩
 have x4:ZN o h1 (h.size+1) (.cells [Zo nb].toArray 98):=⟨d _ (by omega),by rw[YD,Zr (by simp),jI]⟩
 have x5:ZN o h1 (h.size+2) (.cells (YY l (.slice pw l.vs.length cw)).toArray 148):=⟨d _ (by omega),by
  have:=Zb (h:=(h.push (.cells [Zo wb].toArray 91)).push (.cells [Zo nb].toArray 98)) (o:=.cells (YY l (.slice pw l.vs.length cw)).toArray 148)
  rw[YD];simpa using this⟩
 have e0:((h.push (.cells [Zo wb].toArray 91)).push (.cells [Zo nb].toArray 98)).push (.cells (YY l (.slice pw l.vs.length cw)).toArray 148)=h1:=YD.symm
 unfold Zo YY at e0
 rw[e0]
 clear e0 YD
 have N1:=N.still k1
 have W1:=W.still k1
 have uN:=iv.Zc k1
 have R1:=Zx N1.ZF.2 N1.pt.store.len
 have JN:=Za N1.ZF.2
 have l3:=Za x3.2
 have l4:=Za x4.2
 have l5:=Za x5.2
 have r3:hc h1 ⟨h.size,0,none⟩=some (Zo wb):=Zh x3.2
 have r4:hc h1 ⟨h.size+1,0,none⟩=some (Zo nb):=Zh x4.2
 have r53:rd h1 ⟨h.size+2,5,none⟩ 8=some (Zn l.v):=by rw[Z5 x5.2 (by simp[YY])];rfl
 have r51:hc h1 ⟨h.size+2,1,none⟩=some (.int .i64 l.Jt):=Zh x5.2
 unfold Zo at r3 r4
 have KD:=R1.own
 obtain⟨pv,cv,jJ⟩:=N1.pt.YQ.isSlice
 rw[jJ]at KD
 unfold Zn at r53
 have call:∀G,Zg h1.size h1 G→Zd Tryz.prog T 105 #[.agg #[.int .i64 n.own.p.r,.int .i64 n.own.p.n,.slice pv n.own.l.length cv],.agg (Zn l.v).toArray] G fun v' h'=>cQ G.size h' v' n.own.p n.own.l l.v∧Zg G.size G h':=fun G hG=>
  Nj T G n.own.p _ n.own.l l.v (by rw[←jJ];exact N1.pt.YQ.ts.Ya hG) (by omega)
 unfold Zn at call
 obtain⟨E,hE⟩:=Zy (YK n.own.p n.own.l l.v)
 have wA:∀(G:Hp) (k:Nat) (r m:Int) (p:Option Addr) (L c:Nat),G[k]? = some (.cells [.int .i64 0,.int .i64 0,.slice none 0 0].toArray 105)→wr G ⟨k,0,none⟩ [.int .i64 r,.int .i64 m,.slice p L c]=some (G.setIfInBounds k (.cells [.int .i64 r,.int .i64 m,.slice p L c].toArray 105)):=fun G k r m p L c hx=>by
  rw[ZS hx 0 _];rfl
 refine VS.mono (N:=fun F' g'=>Zg h1.size h1 g'∧F' 3=.pointer (some ⟨h.size,0,none⟩)∧F' 4=.pointer (some ⟨h.size+1,0,none⟩)∧F' 5=.pointer (some ⟨h.size+2,0,none⟩)∧F' 7=.int .i64 E∧xY h1.size g' (F' 6) n.own.p n.own.l l.v) ?_ ?_ (fun _ _ _ h=>h) (fun _ _ h=>h)
 ·refine VS.z (h1.size) [6,11] (.q 0 (.p 1 (.p 2 (.q 3 (.p 4 (.q 5 (.or 6 (.p 7 (.p 8 (.p 9 (.s 10 (.w 11 (.p 12 .nil)))))) (.s 10 (.w 6 (.p 7 (.p 8 (.p 9 (.w 11 (.p 12 .nil)))))))))))))) mixed (by kernel_rfl) ?_
  simp -implicitDefEqProofs only[go_sem,↓reduceIte,r4,KD,r53,JN,l4,l5]
  unfold xY YN
  repeat' (first|with_reducible exact Zg.refl _ _|with_reducible exact Zg.push (by omega) _|with_reducible refine And.intro ?_ ?_)
  all_goals first
   | (refine (call h1 (Zg.refl _ _)).use ?_
      rintro _ g5 ⟨⟨w1,rfl,o1⟩,b5⟩
      obtain⟨p1,c1,rfl,_⟩:=o1.open
      rw[←hE]at *
      have s5:=b5.size
      unfold YN
      simp -implicitDefEqProofs only[go_sem,↓reduceIte,b5]
      exact⟨_,_,rfl,s5,Zb,o1.push _⟩)
   | (refine (call (h1.push (.cells _ 105)) (Zg.push (Nat.le_refl _) _)).use ?_
      rintro _ g5 ⟨⟨w1,rfl,o1⟩,b5⟩
      obtain⟨p1,c1,rfl,_⟩:=o1.open
      rw[←hE]at *
      have B5:Zg h1.size h1 g5:=(Zg.push (Nat.le_refl _) _).trans (b5.mono (by simp))
      have xA:=b5.get (k:=h1.size) (by simp) Zb
      have TD:=wA _ _ (if E=0 then l.v.b else ⟨0,0⟩).r (if E=0 then l.v.b else ⟨0,0⟩).n p1 (if E=0 then JA n.own.l l.v else []).length c1 xA
      have zA:=Za xA
      unfold YN
      simp -implicitDefEqProofs only[go_sem,↓reduceIte,B5,TD,zA]
      exact⟨_,_,rfl,Nat.le_refl _,Zv xA,(o1.ZT (by simp) _).mono (by simp)⟩)
 ·rintro F1 g1 ⟨b1,f3,f4,f5,f8,ka,w1,fA,ge1,yA,o1⟩
  rw[←hE]at yA o1
  have kb:=ZC k1.ZW b1
  have N2:=N1.still kb
  have W2:=W1.still kb
  have K2:Kp Qz o h o g1:=k1.Ya b1
  have y3:=x3.Zc kb
  have y4:=x4.Zc kb
  have y5:=x5.Zc kb
  have jF:=uN.Zc kb
  have BO:=(tb.Zc k1).Zc kb
  have R2:=Zx N2.ZF.2 N2.pt.store.len
  have m3:=Za y3.2
  have m4:=Za y4.2
  have m5:=Za y5.2
  have JR:=Za N2.ZF.2
  have q3:hc g1 ⟨h.size,0,none⟩=some (Zo wb):=Zh y3.2
  have q4:hc g1 ⟨h.size+1,0,none⟩=some (Zo nb):=Zh y4.2
  have q51:hc g1 ⟨h.size+2,1,none⟩=some (.int .i64 l.Jt):=Zh y5.2
  unfold Zo at q3 q4
  have R2p:=R2.DN
  by_cases e:E=0
  case neg=>
   have eP:asked n l=⟨n,[⟨7,n.me,l.Jt,n.own.p,VX,[]⟩],[]⟩:=by unfold asked;rw[←hE,if_pos e]
   rw[eP]
   simp -implicitDefEqProofs only[go_sem,↓reduceIte,f8,e]
   refine VS.z (g1.size) [10] (.q 0 (.q 1 (.p 2 (.q 3 (.q 4 (.p 5 (.p 6 (.p 7 (.q 8 (.p 9 (.w 10 .nil))))))))))) mixed (by kernel_rfl) ?_
   simp -implicitDefEqProofs only[go_sem,↓reduceIte,f3,f4,f5,q3,q4,q51,R2p,m3,m4,m5,JR]
   refine (UM T g1 o wb nb Z8 n.me YH fl bad told l.Jt ⟨7,0,0,n.own.p,VX,[]⟩ (.slice none 0 0) K2.ZW W2 R2.me JR (Im.nil _ _ _ _) Yp).use ?_
   rintro v' h' ⟨o',Xu,k,_,W'⟩
   simp -implicitDefEqProofs only[go_sem,↓reduceIte]
   exact⟨o',a,Xu,(ZE K2).trans (k.mono fun t q=>q.elim .inl fun q=>.inr (.inl q)),N2.Zc k (by rintro t (rfl|rfl)<;>simp[Tg.of]),W'⟩
  rw[if_pos e]at yA o1
  have iv6:Wm o g1 w1 (JA n.own.l l.v):=Im.QZ o1.own (fun b hb=>k1.ZW b hb)
  simp -implicitDefEqProofs only[go_sem,↓reduceIte,f8,e,f3,f4,f5]
  obtain⟨g2,QL⟩:=Zy (g1.push (.cells [Wu 115 [h.size,h.size+1,h.size+2]].toArray 1):Hp)
  have k2:=ZX K2.ZW (.cells [Wu 115 [h.size,h.size+1,h.size+2]].toArray 1)
  rw[←QL]at k2
  have K3:Kp Qz o h o g2:=K2.trans k2
  have x9:ZN o g2 g1.size (.cells [Wu 115 [h.size,h.size+1,h.size+2]].toArray 1):=⟨K2.ZW _ (Nat.le_refl _),by rw[QL];exact Zb⟩
  have e2:g1.push (.cells [Wu 115 [h.size,h.size+1,h.size+2]].toArray 1)=g2:=QL.symm
  unfold Wu at e2
  simp only[List.map]at e2
  unfold Zo at e2
  rw[e2]
  clear e2 QL
  have N3:=N2.still k2
  have W3:=W2.still k2
  have z3:=y3.Zc k2
  have z4:=y4.Zc k2
  have z5:=y5.Zc k2
  have z6:=(show ZN o g1 ka _ from⟨k1.ZW ka ge1,yA⟩).Zc k2
  have iw6:=iv6.Zc k2
  have sR:=BO.Zc k2
  clear R2 R2p m3 m4 m5 JR q3 q4 q51 R1 KD JN l3 l4 l5 r3 r4 r53 r51
  have R3:=Zx N3.ZF.2 N3.pt.store.len
  have m3:=Za z3.2
  have m4:=Za z4.2
  have m5:=Za z5.2
  have m9:=Za x9.2
  have R7:=Za N3.ZF.2
  have q4:hc g2 ⟨h.size+1,0,none⟩=some (Zo nb):=Zh z4.2
  have df:rd g2 ⟨h.size+2,5,none⟩ 8=some (Zn l.v):=by rw[Z5 z5.2 (by simp[YY])];rfl
  have q9:hc g2 ⟨g1.size,0,none⟩=some (Wu 115 [h.size,h.size+1,h.size+2]):=Zh x9.2
  have R3v:=R3.YQ
  have N3v:=N3.pt.YQ
  unfold Zo at q4
  unfold Zn at df
  refine VS.mono (N:=fun F' g'=>Zg g2.size g2 g'∧F' 3=.pointer (some ⟨h.size,0,none⟩)∧F' 4=.pointer (some ⟨h.size+1,0,none⟩)∧F' 5=.pointer (some ⟨h.size+2,0,none⟩)∧F' 6=.pointer (some ⟨ka,0,none⟩)∧F' 8=.pointer (some ⟨g1.size,0,none⟩)∧F' 41=.bool (decide (l.v∈n.own.l))) ?_ ?_ (fun _ _ _ h=>h) (fun _ _ h=>h)
  ·refine VS.z (g2.size) [7] (.q 0 (.p 1 (.p 2 (.p 3 (.q 4 (.p 5 (.q 6 (.w 7 .nil)))))))) mixed (by kernel_rfl) ?_
   simp -implicitDefEqProofs only[go_sem,↓reduceIte,f3,f4,f5,fA,q4,df,R3v,m4,m5,R7]
   have cv:=IT T g2 a.YQ n.own.l l.v N3v.ts (by omega)
   unfold Zn at cv
   refine cv.use ?_
   rintro _ g5 ⟨rfl,b5⟩
   simp -implicitDefEqProofs only[go_sem,↓reduceIte,b5,f3,f4,f5,fA]
  rintro F1' ad ⟨td,f3,f4,f5,fA,f9,f41⟩
  have Ra:=ZC K3.ZW td
  replace N3:=N3.still Ra
  replace W3:=W3.still Ra
  replace K3:=K3.trans Ra
  replace z3:=z3.Zc Ra
  replace z4:=z4.Zc Ra
  replace z5:=z5.Zc Ra
  replace z6:=z6.Zc Ra
  replace iw6:=iw6.Zc Ra
  replace sR:=sR.Zc Ra
  replace x9:=x9.Zc Ra
  clear R3 m3 m4 m5 m9 R7 q4 df q9 R3v N3v
  have R3:=Zx N3.ZF.2 N3.pt.store.len
  have m3:=Za z3.2
  have m4:=Za z4.2
  have m5:=Za z5.2
  have m9:=Za x9.2
  have R7:=Za N3.ZF.2
  have q4:hc ad ⟨h.size+1,0,none⟩=some (Zo nb):=Zh z4.2
  have df:rd ad ⟨h.size+2,5,none⟩ 8=some (Zn l.v):=by rw[Z5 z5.2 (by simp[YY])];rfl
  have q9:hc ad ⟨g1.size,0,none⟩=some (Wu 115 [h.size,h.size+1,h.size+2]):=Zh x9.2
  unfold Zo at q4
  by_cases ep:l.v∈n.own.l
  ·have eP:asked n l=⟨n,[⟨3,n.me,l.Jt,Jn,l.v,[]⟩],[]⟩:=by unfold asked;rw[←hE,if_neg (by omega),if_pos ep]
   rw[eP]
   unfold Wu at q9
   simp only[List.map]at q9
   unfold Zo at q9
   simp -implicitDefEqProofs only[go_sem,↓reduceIte,f41,ep,f9,q9]
   refine (da T ad o wb nb Z8 n.me YH fl bad told h.size (h.size+1) (h.size+2) l _ K3.ZW W3 R3.me R7 Yp z3 z4 z5).use ?_
   rintro v' h' ⟨o',Xu,k,W'⟩
   simp -implicitDefEqProofs only[go_sem,↓reduceIte]
   exact⟨o',a,Xu,(ZE K3).trans (k.mono fun t q=>q.elim .inl fun q=>.inr (.inl q)),N3.Zc k (by rintro t (rfl|rfl)<;>simp[Tg.of]),W'⟩
  simp -implicitDefEqProofs only[go_sem,↓reduceIte,f41,ep]
  have oL:=R3.tape
  obtain⟨pd,cd,Rs⟩:=N3.pt.data.1.isSlice
  rw[Rs]at oL
  obtain⟨E2,hO⟩:=Zy (QY n.data n.Y9 l.v)
  have call2:∀G,Zg ad.size ad G→Zd Tryz.prog T 117 #[.agg #[.slice pd n.data.length cd,.int .i64 n.Y9],.agg (Zn l.v).toArray] G fun v' h'=>To G.size h' v' n.data n.Y9 E2 (Yk (Qv l.v))∧Zg G.size G h':=fun G hG=>by
   rw[hO]
   exact nU T G _ n.Y9 n.data l.v (by rw[←Rs];exact N3.pt.data.bs.Ya hG) (by omega) (sR.tk.Jy hG)
  have wT:∀(G:Hp) (k:Nat) (m:Int) (p:Option Addr) (L c:Nat),G[k]? = some (.cells [.slice none 0 0,.int .i64 0].toArray 100)→wr G ⟨k,0,none⟩ [.slice p L c,.int .i64 m]=some (G.setIfInBounds k (.cells [.slice p L c,.int .i64 m].toArray 100)):=fun G k m p L c hx=>by
   rw[ZS hx 0 _];rfl
  unfold Zn at df call2
  refine VS.mono (N:=fun F' g'=>Zg ad.size ad g'∧F' 3=.pointer (some ⟨h.size,0,none⟩)∧F' 4=.pointer (some ⟨h.size+1,0,none⟩)∧F' 5=.pointer (some ⟨h.size+2,0,none⟩)∧F' 6=.pointer (some ⟨ka,0,none⟩)∧F' 8=.pointer (some ⟨g1.size,0,none⟩)∧F' 7=.int .i64 E2∧HU ad.size g' (F' 9) n.data n.Y9 E2 (Yk (Qv l.v))) ?_ ?_ (fun _ _ _ h=>h) (fun _ _ h=>h)
  ·refine VS.z (ad.size) [6,11] (.q 0 (.p 1 (.p 2 (.q 3 (.p 4 (.q 5 (.or 6 (.p 7 (.p 8 (.p 9 (.s 10 (.w 11 (.p 12 .nil)))))) (.s 10 (.w 6 (.p 7 (.p 8 (.p 9 (.w 11 (.p 12 .nil)))))))))))))) mixed (by kernel_rfl) ?_
   simp -implicitDefEqProofs only[go_sem,↓reduceIte,f3,f4,f5,fA,f9,q4,oL,df,m4,m5,R7]
   unfold HU
   repeat' (first|with_reducible exact Zg.refl _ _|with_reducible exact Zg.push (by omega) _|with_reducible refine And.intro ?_ ?_)
   all_goals first
    | (refine (call2 ad (Zg.refl _ _)).use ?_
       rintro _ g5 ⟨⟨w,rfl,o1⟩,b5⟩
       obtain⟨p1,c1,rfl,_⟩:=o1.bs.open
       have s5:=b5.size
       simp -implicitDefEqProofs only[go_sem,↓reduceIte,b5]
       exact⟨f3,f4,f5,fA,f9,_,_,rfl,s5,Zb,o1.push _⟩)
    | (refine (call2 (ad.push (.cells _ 100)) (Zg.push (Nat.le_refl _) _)).use ?_
       rintro _ g5 ⟨⟨w,rfl,o1⟩,b5⟩
       obtain⟨p1,c1,rfl,_⟩:=o1.bs.open
       have B5:Zg ad.size ad g5:=(Zg.push (Nat.le_refl _) _).trans (b5.mono (by simp))
       have xA:=b5.get (k:=ad.size) (by simp) Zb
       have TD:=wT _ _ (if E2=0 then n.Y9 else 0) p1 (if E2=0 then n.data++Yk (Qv l.v) else []).length c1 xA
       have zA:=Za xA
       simp -implicitDefEqProofs only[go_sem,↓reduceIte,B5,TD,zA]
       exact⟨f3,f4,f5,fA,f9,_,_,rfl,Nat.le_refl _,Zv xA,(o1.ZT (by simp) _).mono (by simp)⟩)
  ·rintro F2 g3 ⟨b3,f3,f4,f5,f6,f9,f8,kt,wt,fT,ge3,yT,oT⟩
   have Wn:=ZC K3.ZW b3
   have N4:=N3.still Wn
   have W4:=W3.still Wn
   have K4:Kp Qz o h o g3:=K3.Ya b3
   by_cases e2:E2=0
   case neg=>
    have eP:asked n l=⟨n,[],[]⟩:=by unfold asked;rw[←hE,if_neg (by omega),if_neg ep,←hO,if_pos e2]
    rw[eP,List.append_nil]
    simp -implicitDefEqProofs only[go_sem,↓reduceIte,f8,e2]
    exact⟨o,a,YH,ZE K4,N4,W4⟩
   rw[if_pos e2]at yT oT
   have u3:=z3.Zc Wn
   have u4:=z4.Zc Wn
   have u5:=z5.Zc Wn
   have u6:=z6.Zc Wn
   have u9:=x9.Zc Wn
   have iu6:=iw6.Zc Wn
   have iT:Tv o g3 wt (n.data++Yk (Qv l.v)):=⟨Im.QZ oT.own (fun b hb=>K3.ZW b hb),oT.byte⟩
   have eP:asked n l=⟨{ n with data:=n.data++Yk (Qv l.v),ZA:=some (.Mi ⟨l.v.b,JA n.own.l l.v⟩ l.Jt l.v) },[],[]⟩:=by unfold asked;rw[←hE,if_neg (by omega),if_neg ep,←hO,if_neg (by omega)]
   rw[eP,List.append_nil]
   clear R3 m3 m4 m5 m9 R7 q4 df q9 oL
   obtain⟨pt,ct,rfl,_⟩:=oT.bs.open
   have q4:hc g3 ⟨h.size+1,0,none⟩=some (Zo nb):=Zh u4.2
   have qT:rd g3 ⟨kt,0,none⟩ 2=some [.slice pt (n.data++Yk (Qv l.v)).length ct,.int .i64 n.Y9]:=Zp yT rfl
   have MF:=Za N4.ZF.2
   obtain⟨g4,w4,N5,k5⟩:=ZU.write (a:={ a with data:=.slice pt (n.data++Yk (Qv l.v)).length ct }) (n:={ n with data:=n.data++Yk (Qv l.v) }) { N4.pt with data:=iT } K4.ZW N4.ZF ((YT N4.ZF.2 N4.pt.store.len).tape (.slice pt (n.data++Yk (Qv l.v)).length ct) n.Y9 rfl)
   have v4:=u4.Zc k5
   have q4':hc g4 ⟨h.size+1,0,none⟩=some (Zo nb):=Zh v4.2
   have Pa:=Za N5.ZF.2
   have pn:Up o g4 wb i nb a.Zi (Wu 118 [ka,h.size+1,g1.size]) (some (.Mi ⟨l.v.b,JA n.own.l l.v⟩ l.Jt l.v)):=
    ⟨ka,h.size+1,g1.size,_,rfl,⟨_,u6.Zc k5,iu6.Zc k5⟩,v4,u9.Zc k5,h.size,h.size+1,h.size+2,l,_,rfl,u3.Zc k5,v4,u5.Zc k5,rfl,rfl⟩
   obtain⟨g6,w6,N6,k6⟩:=ZU.write (a:={ a with data:=.slice pt (n.data++Yk (Qv l.v)).length ct,ZA:=Wu 118 [ka,h.size+1,g1.size] }) (n:={ n with data:=n.data++Yk (Qv l.v),ZA:=some (.Mi ⟨l.v.b,JA n.own.l l.v⟩ l.Jt l.v) }) { N5.pt with ZA:=pn } k5.ZW N5.ZF ((YT N5.ZF.2 N5.pt.store.len).ZA (Wu 118 [ka,h.size+1,g1.size]) rfl)
   unfold Wu at w6
   simp only[List.map]at w6
   unfold Zo at q4 q4' w6
   simp -implicitDefEqProofs only[go_sem,↓reduceIte,f8,e2,f4,f6,f9,fT,q4,qT,w4,MF,q4',w6,Pa]
   have K6:Kp (fun t=>t=.world∨t=.Zm∨t=.node i) o h o g6:=((ZE K4).trans (k5.mono fun t q=>.inr (.inr q))).trans (k6.mono fun t q=>.inr (.inr q))
   exact⟨o,_,YH,K6,N6,(W4.Zc k5 (by rintro t rfl;simp[Tg.of])).Zc k6 (by rintro t rfl;simp[Tg.of])⟩
theorem QQ.Yr {o:Ow} {i:Nat} {h:Hp} {sv:List (Int × Nat)} {vt:List (Int × List (Int × Unit))} (s:QQ o i h sv vt) (k:Int):(Go.V.Yr sv k=none∧Go.V.Yr vt k=none)∨∃b l,Go.V.Yr sv k=some b∧Go.V.Yr vt k=some l∧Qq o (.Tu i k) h b (ME l):=by
 induction s with
 | nil=>exact .inl ⟨rfl,rfl⟩
 | @cons a b l m Gx _ ih=>
  obtain⟨a1,a2⟩:=a
  obtain⟨b1,b2⟩:=b
  obtain⟨rfl,h2⟩:=Gx
  unfold Go.V.Yr
  by_cases q:a1=k
  ·rw[if_pos q,if_pos q];subst q;exact .inr ⟨_,_,rfl,rfl,h2⟩
  ·rw[if_neg q,if_neg q];exact ih
theorem QQ.add {o:Ow} {i:Nat} {h:Hp} {k:Int} {b:Nat} {l:List (Int × Unit)} (hb:Qq o (.Tu i k) h b (ME l)):∀{sv:List (Int × Nat)} {vt:List (Int × List (Int × Unit))},QQ o i h sv vt→Go.V.Yr sv k=none→QQ o i h (ins sv k b) (ins vt k l):=by
 intro sv vt s
 induction s with
 | nil=>intro _;exact .cons ⟨rfl,hb⟩ .nil
 | @cons a b l m Gx _ ih=>
  intro hn
  obtain⟨a1,a2⟩:=a
  obtain⟨b1,b2⟩:=b
  obtain⟨rfl,h2⟩:=Gx
  unfold Go.V.Yr at hn
  split at hn
  ·cases hn
  ·rename_i q
   unfold ins
   rw[if_neg q,if_neg q]
   exact .cons ⟨rfl,h2⟩ (ih hn)
theorem QQ.put {o:Ow} {i:Nat} {h h':Hp} {k:Int} {b:Nat} {l':List (Int × Unit)} (kp:Kp (fun t=>t=.Tu i k) o h o h') (hb:Qq o (.Tu i k) h' b (ME l')):∀{sv:List (Int × Nat)} {vt:List (Int × List (Int × Unit))},QQ o i h sv vt→(sv.map (·.1)).Nodup→Go.V.Yr sv k=some b→QQ o i h' sv (ins vt k l'):=by
 intro sv vt s
 induction s with
 | nil=>intro _ h;cases h
 | @cons a c l m Gx tl ih=>
  intro hn hl
  obtain⟨a1,a2⟩:=a
  obtain⟨b1,b2⟩:=c
  obtain⟨h1,h2⟩:=Gx
  simp only at h1 h2
  subst h1
  simp only[List.map_cons,List.nodup_cons]at hn
  unfold Go.V.Yr at hl
  unfold ins
  by_cases q:a1=k
  ·rw[if_pos q]at hl ⊢
   subst q
   obtain rfl:=Option.some.inj hl
   refine .cons ⟨rfl,hb⟩ ?_
   have key:∀{l:List (Int × Nat)} {m:List (Int × List (Int × Unit))},QQ o i h l m→a1 ∉ l.map (·.1)→QQ o i h' l m:=by
    intro l m s
    induction s with
    | nil=>intro _;exact .nil
    | @cons x y l m hxy _ ih2=>
     intro hn
     simp only[List.map_cons,List.mem_cons,not_or]at hn
     exact .cons ⟨hxy.1,hxy.2.Zc kp (by intro e;cases e;exact hn.1 hxy.1.symm)⟩ (ih2 hn.2)
   exact key tl hn.1
  ·rw[if_neg q]at hl ⊢
   exact .cons ⟨rfl,h2.Zc kp (by intro e;cases e;exact q rfl)⟩ (ih hn.2 hl)
theorem DU {β:Type}:∀{l:List (Int × β)} {k:Int} {v:β},(l.map (·.1)).Nodup→((ins l k v).map (·.1)).Nodup∧∀x,x∈(ins l k v).map (·.1)→x=k∨x∈l.map (·.1):=by
 intro l
 induction l with
 | nil=>intro k v _;exact⟨by simp[ins],fun x hx=>by simp[ins]at hx;exact .inl hx⟩
 | cons a l ih=>
  intro k v hn
  obtain⟨a1,a2⟩:=a
  simp only[List.map_cons,List.nodup_cons]at hn
  unfold ins
  by_cases q:a1=k
  ·rw[if_pos q]
   exact⟨by simp only[List.map_cons,List.nodup_cons];exact hn,fun x hx=>.inr hx⟩
  ·rw[if_neg q]
   obtain⟨h1,h2⟩:=ih (k:=k) (v:=v) hn.2
   refine⟨?_,fun x hx=>?_⟩
   ·simp only[List.map_cons,List.nodup_cons]
    exact⟨fun hm=>(h2 _ hm).elim q hn.1,h1⟩
   ·simp only[List.map_cons,List.mem_cons]at hx ⊢
    rcases hx with hx|hx
    ·exact .inr (.inl hx)
    ·exact (h2 _ hx).elim .inl fun q=>.inr (.inr q)
theorem uO {β:Type}:∀(l:List (Int × β)) (k:Int) (u v:β),ins (ins l k u) k v=ins l k v:=by
 intro l
 induction l with
 | nil=>intro k u v;unfold ins;simp[ins]
 | cons a l ih=>
  intro k u v
  obtain⟨a1,a2⟩:=a
  have h1:∀(x:Int) (y z:β) (m:List (Int × β)),ins ((x,y) :: m) k z=if x=k then (x,z) :: m else (x,y) :: ins m k z:=fun _ _ _ _=>rfl
  rw[h1,h1]
  by_cases q:a1=k
  ·rw[if_pos q,if_pos q,h1,if_pos q]
  ·rw[if_neg q,if_neg q,h1,if_neg q,ih]
theorem YL.oN {o:Ow} {i:Nat} {h:Hp} {ra:RA} {r:Jj} (s:YL o i h ra r) (d:Uq o h) {k:Int} {b:Nat} {l l':List (Int × Unit)} (hl:Yr ra.sv k=some b) (hb:Qq o (.Tu i k) h b (ME l)) :
  Kp (fun t=>t=.Tu i k) o h o (h.setIfInBounds b (Xo (ME l')))∧YL o i (h.setIfInBounds b (Xo (ME l'))) ra { r with Xt:=ins r.Xt k l' }:=by
 have kk:Kp (fun t=>t=.Tu i k) o h o (h.setIfInBounds b (Xo (ME l'))):=(Kp.refl d (fun t=>t=.Tu i k)).set hb.1 rfl _
 exact⟨kk,s.ZF.Zc kk (by intro e;cases e),s.prom.Zc kk (by intro e;cases e),s.So.Zc kk,s.prop.Zc kk (by intro e;cases e),s.Xt.Zc kk (by intro e;cases e),QQ.put kk ⟨hb.1,Zv hb.2⟩ s.VO s.keys hl,s.keys⟩
def hU (i:Nat) (t:Tg):Prop:=QJ i t∨XF i t
set_option maxHeartbeats 1000000 in
theorem Mq (T:World) (h:Hp) (o:Ow) (wb i nb:Nat) (Z8:Nat→Nat) (a:NA) (n:Nd) (YH:WA) (fl:List Y3) (bad:Nat→Int) (told:List S9) (l:Y3) (w:Value) (d:Uq o h)
  (N:ZJ o h wb i nb a n) (W:ZG o h wb Z8 YH fl bad told) (iv:Wm o h w l.vs) (hk:n.known.length≤100000000000) (hl:n.log.length≤100000000000) (ht:told.length≤100000000000) (hq:n.queue.length≤1000000000000) (hw:n.waiting.length≤1000000000000)
  (hv:∀r s,n.Zi=some r→((Yr r.Xt s).getD []).length≤1000000) :
  Zd Tryz.prog T 94 #[Zo wb,Zo nb,.agg (YY l w).toArray] h fun v' h'=>∃o' a' Xu,Kp (hU i) o h o' h'∧ZJ o' h' wb i nb a' (Yv n l).n∧ZG o' h' wb Z8 Xu fl bad (told++(Yv n l).ts):=by
 obtain⟨pw,cw,rfl⟩:=iv.isSlice
 refine Zd.Zj (args:=[_,_,_]) Tryz.func94 rfl rfl rfl rfl ?_
 unfold Zo YY
 have Wo:=Za N.ZF.2
 have R:=Zx N.ZF.2 N.pt.store.len
 obtain⟨h1,YD⟩:=Zy (h.push (.cells (YY l (.slice pw l.vs.length cw)).toArray 148):Hp)
 have k1:Kp Qz o h o h1:=by rw[YD];exact ZX d _
 have x5:ZN o h1 h.size (.cells (YY l (.slice pw l.vs.length cw)).toArray 148):=⟨d _ (Nat.le_refl _),by rw[YD];exact Zb⟩
 have e0:=YD.symm
 unfold YY at e0
 have N1:=N.still k1
 have W1:=W.still k1
 have uN:=iv.Zc k1
 have R1:=Zx N1.ZF.2 N1.pt.store.len
 have JN:=Za N1.ZF.2
 have m5:=Za x5.2
 have q0:hc h1 ⟨h.size,0,none⟩=some (.int .i64 l.kind):=Zh x5.2
 have q1:hc h1 ⟨h.size,1,none⟩=some (.int .i64 l.Jt):=Zh x5.2
 have q3:rd h1 ⟨h.size,3,none⟩ 2=some (Je l.b):=by rw[Z5 x5.2 (by simp[YY])];rfl
 have q5:hc h1 ⟨h.size,5,none⟩=some (.int .i64 l.v.slot):=Zh x5.2
 have q6:rd h1 ⟨h.size,6,none⟩ 2=some (Je l.v.b):=by rw[Z5 x5.2 (by simp[YY])];rfl
 have q13:hc h1 ⟨h.size,13,none⟩=some (.slice pw l.vs.length cw):=Zh x5.2
 have jK:=N1.pt.Zi
 have qO:=R.Zi
 cases hr:n.Zi with
 | none=>
  cases uP:a.Zi with
  | some ra=>rw[hr,uP]at jK;exact jK.elim
  | none=>
   have eP:Yv n l=⟨n,[],[]⟩:=by unfold Yv;rw[hr]
   rw[uP]at qO
   unfold RZ at qO
   rw[eP,List.append_nil]
   simp -implicitDefEqProofs only[go_sem,↓reduceIte,qO]
   rw[e0]
   exact⟨o,a,YH,ZE k1,N1,W1⟩
 | some r=>
  cases uP:a.Zi with
  | none=>rw[hr,uP]at jK;exact jK.elim
  | some ra=>
   rw[hr,uP]at jK
   have RG:YL o i h1 ra r:=jK
   rw[uP]at qO
   unfold RZ Zo at qO
   have mrb:=Za RG.ZF.2
   have rr0:rd h1 ⟨ra.rb,0,none⟩ 2=some (Je r.b):=by rw[Z5 RG.ZF.2 (by simp[A7])];rfl
   have rr2:hc h1 ⟨ra.rb,2,none⟩=some (.map (some ra.pb)):=Zh RG.ZF.2
   have rr5:hc h1 ⟨ra.rb,5,none⟩=some (.map (some ra.vb)):=Zh RG.ZF.2
   by_cases c1:l.kind=1
   ·have c1b:=eq_true c1
    simp -implicitDefEqProofs only[go_sem,↓reduceIte,qO,c1b]
    rw[e0]
    refine VS.q mixed (by kernel_rfl) ?_
    simp -implicitDefEqProofs only[go_sem,↓reduceIte,q3,rr0]
    by_cases c2:l.b=r.b
    ·have eP:Yv n l=⟨ZaO n r l,[],[]⟩:=by unfold Yv;rw[hr];simp only;rw[if_pos c1,if_pos c2]
     rw[eP,List.append_nil]
     have ya:=eq_true c2
     simp -implicitDefEqProofs only[go_sem,↓reduceIte,ya]
     refine VS.z (h1.size) [8] (.p 0 (.p 1 (.p 2 (.q 3 (.p 4 (.q 5 (.p 6 (.q 7 (.w 8 .nil))))))))) mixed (by kernel_rfl) ?_
     simp -implicitDefEqProofs only[go_sem,↓reduceIte,rr2,q1,q13,mrb,m5]
     rw[XP Mj RG.prom.2]
     simp -implicitDefEqProofs only[go_sem,↓reduceIte]
     obtain⟨k2,R2⟩:=RG.db k1.ZW (k:=l.Jt) uN
     refine⟨o,{ a with Zi:=some { ra with pv:=ins ra.pv l.Jt (.slice pw l.vs.length cw) } },YH,(ZE k1).trans (k2.mono fun t q=>.inr (.inr (.inl q))),⟨?_,?_⟩,W1.Zc k2 (by rintro t rfl;simp[Tg.of])⟩
     ·have:=N1.ZF.Zc k2 (by intro e;cases e)
      rw[←Mp (some { r with prom:=ins r.prom l.Jt l.vs }) uP (ra':={ ra with pv:=ins ra.pv l.Jt (.slice pw l.vs.length cw) }) rfl]at this
      exact this
     ·exact ZU.Qr N1.pt (k2.mono fun t q=>.inr (.inl q)) uP rfl R2
    ·have eP:Yv n l=⟨n,[],[]⟩:=by unfold Yv;rw[hr];simp only;rw[if_pos c1,if_neg c2]
     rw[eP,List.append_nil]
     simp -implicitDefEqProofs only[go_sem,↓reduceIte,c2]
     exact⟨o,a,YH,ZE k1,N1,W1⟩
   ·simp -implicitDefEqProofs only[go_sem,↓reduceIte,qO,c1]
    rw[e0]
    refine VS.q mixed (by kernel_rfl) ?_
    simp -implicitDefEqProofs only[go_sem,↓reduceIte,q6,rr0]
    by_cases c2:l.v.b=r.b
    case neg=>
     have eP:Yv n l=⟨n,[],[]⟩:=by unfold Yv;rw[hr];simp only;rw[if_neg c1,if_pos c2]
     rw[eP,List.append_nil]
     simp -implicitDefEqProofs only[go_sem,↓reduceIte,c2]
     exact⟨o,a,YH,ZE k1,N1,W1⟩
    have eP:Yv n l=if 5<2*(Wb r l).length then Un (Nk n r l) l.v.slot l.v.cm else ⟨Nk n r l,[],[]⟩:=by unfold Yv;rw[hr];simp only;rw[if_neg c1,if_neg (fun q=>q c2)]
    rw[eP]
    have hvr:=hv r l.v.slot hr
    have ya:=eq_true c2
    have lk:=fun (K:Value→Hp→Prop)=>Yt (K:=K) (n:=l.v.slot) (c:=false) Kw HM RG.Xt.2
    rw[Xn]at lk
    obtain⟨S,hS⟩:=Zy ((Yr r.Xt l.v.slot).getD [])
    have hlen:S.length≤1000000:=by rw[hS];exact hvr
    have NA1:ZJ o h1 wb i nb { a with Zi:=some ra } { n with Zi:=some r }:=by
     have e1:({ a with Zi:=some ra }:NA)=a:=by rw[←uP]
     have e2:({ n with Zi:=some r }:Nd)=n:=by rw[←hr]
     rw[e1,e2];exact N1
    have KG:Kp (hU i) o h o h1:=ZE k1
    have uQ:=qO
    rcases RG.VO.Yr l.v.slot with⟨e1,e2⟩|⟨sb,S',e1,e2,xz⟩
    ·have hS0:S=[]:=by rw[hS,e2];rfl
     rw[e1]at lk
     simp only[Option.map_none,Option.getD_none,Bool.false_eq_true,if_false]at lk
     -- Ps new set
     obtain⟨h2,Wl⟩:=Zy (h1.push (Xo []):Hp)
     have eh2:h1.push (.map #[] 0)=h2:=Wl.symm
     have k2a:Kp (XF i) o h1 (Jz o h1.size (.Tu i l.v.slot)) h2:=by
      rw[Wl];exact ((Kp.refl k1.ZW _).push _).TY (Nat.le_refl _) (by simp) (.inr (.inr (.inr (.inr ⟨_,rfl⟩))))
     have kx:Kp Qz o h1 o h2:=by rw[Wl];exact ZX k1.ZW _
     have RGx:=RG.Zc kx (fun _ _ q=>q)
     have lo:∀b,b<h1.size→Jz o h1.size (.Tu i l.v.slot) b=o b:=fun b hb=>Y7 (by omega)
     obtain⟨o2,qI⟩:=Zy (Jz o h1.size (.Tu i l.v.slot))
     rw[←qI]at k2a lo
     have uR:YL o2 i h2 ra r:=by
      have lt:∀{b:Nat} {x:Obj},h1[b]? = some x→b<h1.size:=Za
      refine⟨⟨(lo _ (Za RG.ZF.2)).trans RG.ZF.1,RGx.ZF.2⟩,⟨(lo _ (Za RG.prom.2)).trans RG.prom.1,RGx.prom.2⟩,RG.So.Zc k2a,⟨(lo _ (Za RG.prop.2)).trans RG.prop.1,RGx.prop.2⟩,⟨(lo _ (Za RG.Xt.2)).trans RG.Xt.1,RGx.Xt.2⟩,?_,RG.keys⟩
      have key:∀{sv:List (Int × Nat)} {vt:List (Int × List (Int × Unit))},QQ o i h1 sv vt→QQ o2 i h2 sv vt:=by
       intro sv vt s
       induction s with
       | nil=>exact .nil
       | cons x _ ih=>exact .cons ⟨x.1,⟨(lo _ (Za x.2.2)).trans x.2.1,(x.2.Zc kx id).2⟩⟩ ih
      exact key RG.VO
     have ms:Qq o2 (.Tu i l.v.slot) h2 h1.size (ME []):=⟨by rw[qI];exact Y1,by rw[Wl];exact Zb⟩
     have ZzP:ra.rb<h2.size:=by have:=kx.size;omega
     simp -implicitDefEqProofs only[go_sem,↓reduceIte,qO,ya,q5,rr5,lk,qM]
     rw[eh2,XP Kw uR.Xt.2]
     obtain⟨G,hG⟩:=Zy (h2.setIfInBounds ra.vb (Xo (ins (Uw qM ra.sv) l.v.slot (.map (some h1.size)))))
     rw[←hG]
     obtain⟨gM,ZaZ⟩:∃gM:RA,gM = { ra with sv:=ins ra.sv l.v.slot h1.size }:=⟨_,rfl⟩
     have kk:Kp (fun t=>t=.Xt i) o2 h2 o2 G:=by rw[hG];exact (Kp.refl k2a.ZW (fun t=>t=.Xt i)).set uR.Xt.1 rfl _
     have RGG:YL o2 i G gM { r with Xt:=ins r.Xt l.v.slot [] }:=by
      rw[ZaZ]
      refine⟨uR.ZF.Zc kk (by intro e;cases e),uR.prom.Zc kk (by intro e;cases e),uR.So.Zc kk,uR.prop.Zc kk (by intro e;cases e),⟨uR.Xt.1,?_⟩,(QQ.add ms uR.VO e1).Zc kk (fun _ e=>by cases e),(DU RG.keys).1⟩
      show G[ra.vb]? = some (Xo (Uw qM (ins ra.sv l.v.slot h1.size)))
      rw[hG,Zv uR.Xt.2,TW];rfl
     have k2b:Kp (XF i) o h1 o2 G:=k2a.trans (kk.mono fun t q=>.inr (.inr (.inr (.inl q))))
     have DW:gM.rb=ra.rb:=by rw[ZaZ]
     have NG:ZJ o2 G wb i nb { a with Zi:=some gM } { n with Zi:=some { r with Xt:=ins r.Xt l.v.slot [] } }:=by
      refine⟨?_,ZU.Qr NA1.pt k2b rfl DW RGG⟩
      have:=NA1.ZF.Zc k2b (by rintro (q|q|q|q|⟨_,q⟩)<;>cases q)
      rw[show Xg { n with Zi:=some { r with Xt:=ins r.Xt l.v.slot [] } } { a with Zi:=some gM } = Xg { n with Zi:=some r } { a with Zi:=some ra } from by unfold Xg UB RZ;simp only[DW]]
      exact this
     have WG:=W1.Zc k2b (by intro t q;rw[Nm q];simp)
     have XG:=x5.Zc k2b
     have KG2:Kp (hU i) o h o2 G:=(ZE k1).trans (k2b.mono fun t q=>.inr q)
     have LKS:Yr gM.sv l.v.slot=some h1.size:=by rw[ZaZ];simp[Jr]
     have SB:Qq o2 (.Tu i l.v.slot) G h1.size (ME S):=by rw[hS0];exact ms.Zc kk (by intro e;cases e)
     have Q5:hc G ⟨h.size,5,none⟩=some (.int .i64 l.v.slot):=Zh XG.2
     have Q1:hc G ⟨h.size,1,none⟩=some (.int .i64 l.Jt):=Zh XG.2
     have RR5:hc G ⟨ra.rb,5,none⟩=some (.map (some gM.vb)):=by rw[←DW];exact Zh RGG.ZF.2
     have MRB:ra.rb<G.size:=by rw[←DW];exact Za RGG.ZF.2
     have M5:=Za XG.2
     have LK:=fun (K:Value→Hp→Prop)=>Yt (K:=K) (n:=l.v.slot) (c:=false) Kw HM RGG.Xt.2
     rw[Xn]at LK
     simp only[LKS,Option.map_some,Option.getD_some,Bool.false_eq_true,if_false,qM]at LK
     simp -implicitDefEqProofs only[go_sem,↓reduceIte]
     refine VS.z (G.size) [9] (.p 0 (.p 1 (.p 2 (.q 3 (.p 4 (.p 6 (.q 7 (.p 8 (.s 5 (.w 9 .nil)))))))))) mixed (by kernel_rfl) ?_
     simp -implicitDefEqProofs only[go_sem,↓reduceIte,uQ,ya,Q5,Q1,RR5,LK,MRB,M5]
     rw[XP HL SB.2]
     obtain⟨k2,uS⟩:=RGG.oN KG2.ZW (l':=ins S l.Jt ()) LKS SB
     rw[show Xo (ins (ME S) l.Jt (.agg #[]))=Xo (ME (ins S l.Jt ())) from by unfold ME;rw[TW]]
     obtain⟨g2,QL⟩:=Zy (G.setIfInBounds h1.size (Xo (ME (ins S l.Jt ()))))
     rw[←QL]at k2 uS ⊢
     have eV:({ r with Xt:=ins r.Xt l.v.slot (Wb r l) }:Jj) = { ({ r with Xt:=ins r.Xt l.v.slot [] }:Jj) with Xt:=ins (ins r.Xt l.v.slot []) l.v.slot (ins S l.Jt ()) }:=by unfold Wb;rw[hS,uO]
     have K2:Kp (hU i) o2 G o2 g2:=k2.mono fun t q=>.inr (.inr (.inr (.inr (.inr ⟨_,q⟩))))
     have N2:ZJ o2 g2 wb i nb { a with Zi:=some gM } (Nk n r l):=by
      refine⟨?_,?_⟩
      ·have:=NG.ZF.Zc k2 (by intro e;cases e)
       exact this
      ·have:=ZU.Qr NG.pt (k2.mono fun t q=>.inr (.inr (.inr (.inr ⟨_,q⟩)))) rfl rfl uS
       unfold Nk
       rw[eV]
       exact this
     have W2:=WG.Zc k2 (by rintro t rfl;simp[Tg.of])
     have x2:=XG.Zc k2
     have p0:rd g2 ⟨h.size,8,none⟩ 5=some l.v.cm.C:=by rw[Z5 x2.2 (by simp[YY])];rfl
     have p5:hc g2 ⟨gM.rb,5,none⟩=some (.map (some gM.vb)):=Zh uS.ZF.2
     rw[DW]at p5
     have p6:=fun (K:Value→Hp→Prop)=>Yt (K:=K) (n:=l.v.slot) (c:=false) Kw HM uS.Xt.2
     rw[Xn]at p6
     simp only[LKS,Option.map_some,Option.getD_some,Bool.false_eq_true,if_false]at p6
     have SB2:Qq o2 (.Tu i l.v.slot) g2 h1.size (ME (ins S l.Jt ())):=⟨SB.1,by rw[QL];exact Zv SB.2⟩
     have p7:=fun (K:Value→Hp→Prop) (cs:Array Bool) (ty:TypeId)=>Tb (T:=T) (K:=K) (ty:=ty) (cs:=cs) HL SB2.2
     have p8:(ME (ins S l.Jt ())).length=(Wb r l).length:=by unfold ME Wb;rw[NL,hS]
     rw[p8]at p7
     simp -implicitDefEqProofs only[go_sem,↓reduceIte,uQ,ya,p5,p6,p7,qM]
     refine (MZ T g2 (Wb r l).length (by unfold Wb;rw[←hS,RL];split<;>omega)).use ?_
     rintro _ _ ⟨rfl,rfl⟩
     by_cases c3:5<2*(Wb r l).length
     ·rw[if_pos c3]
      simp -implicitDefEqProofs only[go_sem,↓reduceIte,c3,p0]
      refine (KB T _ o2 wb i nb Z8 _ _ YH fl bad told l.v.slot l.v.cm k2.ZW N2 W2 hk hl ht hq hw).use ?_
      rintro v' h' ⟨o',a',Xu,kl,N',W'⟩
      simp -implicitDefEqProofs only[go_sem,↓reduceIte]
      exact⟨o',a',Xu,(KG2.trans K2).trans (kl.mono fun t q=>.inl q),N',W'⟩
     ·rw[if_neg c3,List.append_nil]
      simp -implicitDefEqProofs only[go_sem,↓reduceIte,c3]
      exact⟨o2,_,YH,KG2.trans K2,N2,W2⟩
    ·have hS0:S=S':=by rw[hS,e2];rfl
     subst hS0
     rw[e1]at lk
     simp only[Option.map_some,Option.getD_some,Bool.false_eq_true,if_false]at lk
     simp -implicitDefEqProofs only[go_sem,↓reduceIte,ya,q5,rr5,lk,qM,qO]
     have Vm:=fun (K:Value→Hp→Prop)=>Yt (K:=K) (n:=l.v.slot) (c:=false) Kw HM RG.Xt.2
     rw[Xn]at Vm
     simp only[e1,Option.map_some,Option.getD_some,Bool.false_eq_true,if_false,qM]at Vm
     refine VS.z (h1.size) [9] (.p 0 (.p 1 (.p 2 (.q 3 (.p 4 (.p 6 (.q 7 (.p 8 (.s 5 (.w 9 .nil)))))))))) mixed (by kernel_rfl) ?_
     simp -implicitDefEqProofs only[go_sem,↓reduceIte,uQ,ya,q5,q1,rr5,Vm,mrb,m5]
     rw[XP HL xz.2]
     obtain⟨k2,uS⟩:=RG.oN KG.ZW (l':=ins S l.Jt ()) e1 xz
     rw[show Xo (ins (ME S) l.Jt (.agg #[]))=Xo (ME (ins S l.Jt ())) from by unfold ME;rw[TW]]
     obtain⟨g2,QL⟩:=Zy (h1.setIfInBounds sb (Xo (ME (ins S l.Jt ()))))
     rw[←QL]at k2 uS ⊢
     have eV:({ r with Xt:=ins r.Xt l.v.slot (Wb r l) }:Jj) = { r with Xt:=ins r.Xt l.v.slot (ins S l.Jt ()) }:=by unfold Wb;rw[hS]
     have K2:Kp (hU i) o h1 o g2:=k2.mono fun t q=>.inr (.inr (.inr (.inr (.inr ⟨_,q⟩))))
     have N2:ZJ o g2 wb i nb { a with Zi:=some ra } (Nk n r l):=by
      refine⟨?_,?_⟩
      ·have:=NA1.ZF.Zc k2 (by intro e;cases e)
       exact this
      ·have:=ZU.Qr NA1.pt (k2.mono fun t q=>.inr (.inr (.inr (.inr ⟨_,q⟩)))) rfl rfl uS
       unfold Nk
       rw[eV]
       exact this
     have W2:=W1.Zc k2 (by rintro t rfl;simp[Tg.of])
     have x2:=x5.Zc k2
     have p0:rd g2 ⟨h.size,8,none⟩ 5=some l.v.cm.C:=by rw[Z5 x2.2 (by simp[YY])];rfl
     have p5:hc g2 ⟨ra.rb,5,none⟩=some (.map (some ra.vb)):=Zh uS.ZF.2
     have p6:=fun (K:Value→Hp→Prop)=>Yt (K:=K) (n:=l.v.slot) (c:=false) Kw HM uS.Xt.2
     rw[Xn]at p6
     simp only[e1,Option.map_some,Option.getD_some,Bool.false_eq_true,if_false]at p6
     have SB2:Qq o (.Tu i l.v.slot) g2 sb (ME (ins S l.Jt ())):=⟨xz.1,by rw[QL];exact Zv xz.2⟩
     have p7:=fun (K:Value→Hp→Prop) (cs:Array Bool) (ty:TypeId)=>Tb (T:=T) (K:=K) (ty:=ty) (cs:=cs) HL SB2.2
     have p8:(ME (ins S l.Jt ())).length=(Wb r l).length:=by unfold ME Wb;rw[NL,hS]
     rw[p8]at p7
     simp -implicitDefEqProofs only[go_sem,↓reduceIte,uQ,ya,p5,p6,p7,qM]
     refine (MZ T g2 (Wb r l).length (by unfold Wb;rw[←hS,RL];split<;>omega)).use ?_
     rintro _ _ ⟨rfl,rfl⟩
     by_cases c3:5<2*(Wb r l).length
     ·rw[if_pos c3]
      simp -implicitDefEqProofs only[go_sem,↓reduceIte,c3,p0]
      refine (KB T _ o wb i nb Z8 _ _ YH fl bad told l.v.slot l.v.cm k2.ZW N2 W2 hk hl ht hq hw).use ?_
      rintro v' h' ⟨o',a',Xu,kl,N',W'⟩
      simp -implicitDefEqProofs only[go_sem,↓reduceIte]
      exact⟨o',a',Xu,(KG.trans K2).trans (kl.mono fun t q=>.inl q),N',W'⟩
     ·rw[if_neg c3,List.append_nil]
      simp -implicitDefEqProofs only[go_sem,↓reduceIte,c3]
      exact⟨o,_,YH,KG.trans K2,N2,W2⟩
def XC (i:Nat) (t:Tg):Prop:=t=.world∨t=.Zm∨t=.told∨t.of=some i
theorem KF {i:Nat} {t:Tg} (h:QJ i t):XC i t:=by
 rcases h with rfl|rfl|rfl|rfl|rfl|rfl|rfl<;>simp[XC,Tg.of]
theorem DX {i:Nat} {t:Tg} (h:hU i t):XC i t:=h.elim KF fun q=>.inr (.inr (.inr (Nm q)))
theorem DY (T:World) (h:Hp) (o:Ow) (wb i nb:Nat) (a:NA) (n:Nd) (l:Y3) (w:Value) (d:Uq o h) (N:ZJ o h wb i nb a n) (iv:Wm o h w l.vs) :
  Zd Tryz.prog T 99 #[Zo wb,Zo nb,.agg (YY l w).toArray] h fun v' h'=>Kp (fun t=>t=.node i) o h o h'∧ZJ o h' wb i nb a (notes n l):=by
 obtain⟨pw,cw,rfl⟩:=iv.isSlice
 refine Zd.Zj (args:=[_,_,_]) Tryz.func99 rfl rfl rfl rfl ?_
 unfold Zo YY
 have e0:∃h1:Hp,h1=h.push (.cells (YY l (.slice pw l.vs.length cw)).toArray 148):=⟨_,rfl⟩
 obtain⟨h1,YD⟩:=e0
 have k1:Kp Qz o h o h1:=by rw[YD];exact ZX d _
 have x5:ZN o h1 h.size (.cells (YY l (.slice pw l.vs.length cw)).toArray 148):=⟨d _ (Nat.le_refl _),by rw[YD];exact Zb⟩
 have e0:=YD.symm
 unfold YY at e0
 have N1:=N.still k1
 have R1:=Zx N1.ZF.2 N1.pt.store.len
 have JN:=Za N1.ZF.2
 have m5:=Za x5.2
 have q3:rd h1 ⟨h.size,3,none⟩ 2=some (Je l.b):=by rw[Z5 x5.2 (by simp[YY])];rfl
 have r7:rd h1 ⟨nb,7,none⟩ 2=some (Je n.heard):=R1.heard
 simp -implicitDefEqProofs only[go_sem,↓reduceIte]
 rw[e0]
 refine VS.mono (N:=fun F' g'=>Zg h1.size h1 g'∧F' 1=.pointer (some ⟨nb,0,none⟩)∧F' 5=.pointer (some ⟨h.size,0,none⟩)∧F' 12=.bool (decide (below n.heard l.b))) ?_ ?_ (fun _ _ _ h=>h) (fun _ _ h=>h)
 ·refine VS.z (h1.size) [6] (.p 0 (.q 1 (.p 2 (.p 3 (.p 4 (.q 5 (.w 6 .nil))))))) mixed (by kernel_rfl) ?_
  simp -implicitDefEqProofs only[go_sem,↓reduceIte,q3,r7,JN,m5]
  refine (OH T h1 l.b n.heard).use ?_
  rintro _ g ⟨rfl,b⟩
  simp -implicitDefEqProofs only[go_sem,↓reduceIte,b]
 ·rintro F' g ⟨b,f1,f5,f12⟩
  have kb:=ZC k1.ZW b
  have N2:=N1.still kb
  have K2:=k1.trans kb
  by_cases c:below n.heard l.b
  ·have e:notes n l = { n with heard:=l.b }:=by unfold notes;rw[if_pos c]
   rw[e]
   obtain⟨g2,w2,N3,k3⟩:=ZU.write (n:={ n with heard:=l.b }) (a:=a) { N2.pt with } K2.ZW N2.ZF ((YT N2.ZF.2 N2.pt.store.len).heard l.b.r l.b.n)
   have p3:rd g ⟨h.size,3,none⟩ 2=some [.int .i64 l.b.r,.int .i64 l.b.n]:=by rw[Z5 (x5.Zc kb).2 (by simp[YY])];rfl
   have JR:=Za N2.ZF.2
   simp -implicitDefEqProofs only[go_sem,↓reduceIte,f1,f5,f12,c,p3,w2,JR]
   exact⟨(ZE K2).trans k3,N3⟩
  ·have e:notes n l=n:=by unfold notes;rw[if_neg c]
   rw[e]
   simp -implicitDefEqProofs only[go_sem,↓reduceIte,f12,c]
   exact⟨ZE K2,N2⟩
theorem ib (T:World) (h:Hp) (o:Ow) (wb i nb:Nat) (Z8:Nat→Nat) (a:NA) (n:Nd) (YH:WA) (fl:List Y3) (bad:Nat→Int) (told:List S9) (l:Y3) (w:Value) (d:Uq o h)
  (N:ZJ o h wb i nb a n) (W:ZG o h wb Z8 YH fl bad told) (iv:Wm o h w l.vs) (hk:n.known.length≤100000000000) (hl:n.log.length≤100000000000) (ht:told.length≤100000000000) (hq:n.queue.length≤1000000000000) (hw:n.waiting.length≤1000000000000) :
  Zd Tryz.prog T 98 #[Zo wb,Zo nb,.agg (YY l w).toArray] h fun v' h'=>∃o' a' Xu,Kp (QJ i) o h o' h'∧ZJ o' h' wb i nb a' (Un n l.v.slot l.v.cm).n∧ZG o' h' wb Z8 Xu fl bad (told++(Un n l.v.slot l.v.cm).ts):=by
 obtain⟨pw,cw,rfl⟩:=iv.isSlice
 refine Zd.Zj (args:=[_,_,_]) Tryz.func98 rfl rfl rfl rfl ?_
 unfold Zo YY
 obtain⟨h1,YD⟩:=Zy (h.push (.cells (YY l (.slice pw l.vs.length cw)).toArray 148):Hp)
 have k1:Kp Qz o h o h1:=by rw[YD];exact ZX d _
 have e0:=YD.symm
 unfold YY at e0
 simp -implicitDefEqProofs only[go_sem,↓reduceIte]
 rw[e0]
 refine (KB T h1 o wb i nb Z8 a n YH fl bad told l.v.slot l.v.cm k1.ZW (N.still k1) (W.still k1) hk hl ht hq hw).use ?_
 rintro v' h' ⟨o',a',Xu,k,N',W'⟩
 simp -implicitDefEqProofs only[go_sem,↓reduceIte]
 exact⟨o',a',Xu,(ZE k1).trans k,N',W'⟩
theorem oP (T:World) (h:Hp) (o:Ow) (wb i nb:Nat) (a:NA) (n:Nd) (l:Y3) (w:Value) (d:Uq o h) (N:ZJ o h wb i nb a n) (iv:Wm o h w l.vs) (hq:n.queue.length≤1000000000000) (hl:n.log.length≤1000000000000) :
  Zd Tryz.prog T 96 #[Zo wb,Zo nb,.agg (YY l w).toArray] h fun v' h'=>∃o' a',Kp (ZaU i) o h o' h'∧ZJ o' h' wb i nb a' (add n l.v.cm):=by
 obtain⟨pw,cw,rfl⟩:=iv.isSlice
 refine Zd.Zj (args:=[_,_,_]) Tryz.func96 rfl rfl rfl rfl ?_
 unfold Zo YY
 obtain⟨h1,YD⟩:=Zy (h.push (.cells (YY l (.slice pw l.vs.length cw)).toArray 148):Hp)
 have k1:Kp Qz o h o h1:=by rw[YD];exact ZX d _
 have e0:=YD.symm
 unfold YY at e0
 simp -implicitDefEqProofs only[go_sem,↓reduceIte]
 rw[e0]
 refine (oH T h1 o wb i nb a n l.v.cm k1.ZW (N.still k1) hq hl).use ?_
 rintro v' h' ⟨o',a',k,N'⟩
 simp -implicitDefEqProofs only[go_sem,↓reduceIte]
 exact⟨o',a',(ZE k1).trans k,N'⟩
theorem oQ (T:World) (h:Hp) (o:Ow) (wb i nb:Nat) (Z8:Nat→Nat) (a:NA) (n:Nd) (YH:WA) (fl:List Y3) (bad:Nat→Int) (told:List S9) (l:Y3) (w:Value) (d:Uq o h)
  (N:ZJ o h wb i nb a n) (W:ZG o h wb Z8 YH fl bad told) (iv:Wm o h w l.vs) (Yp:fl.length≤1000000000000) :
  Zd Tryz.prog T 97 #[Zo wb,Zo nb,.agg (YY l w).toArray] h fun v' h'=>∃o' a' Xu,Kp (fun t=>t=.world∨t=.Zm∨t=.node i) o h o' h'∧ZJ o' h' wb i nb a' (Wc n l).n∧ZG o' h' wb Z8 Xu (fl++(Wc n l).ls) bad told:=by
 obtain⟨pw,cw,rfl⟩:=iv.isSlice
 refine Zd.Zj (args:=[_,_,_]) Tryz.func97 rfl rfl rfl rfl ?_
 unfold Zo YY
 obtain⟨h1,YD⟩:=Zy (h.push (.cells (YY l (.slice pw l.vs.length cw)).toArray 148):Hp)
 have k1:Kp Qz o h o h1:=by rw[YD];exact ZX d _
 have x5:ZN o h1 h.size (.cells (YY l (.slice pw l.vs.length cw)).toArray 148):=⟨d _ (Nat.le_refl _),by rw[YD];exact Zb⟩
 have e0:=YD.symm
 have cc:=DY T h1 o wb i nb a n l (.slice pw l.vs.length cw) k1.ZW (N.still k1) (iv.Zc k1)
 unfold YY at e0
 unfold YY Zo at cc
 simp -implicitDefEqProofs only[go_sem,↓reduceIte]
 rw[e0]
 refine cc.use ?_
 rintro _ g ⟨k2,N2⟩
 have W2:=(W.still k1).Zc k2 (by rintro t rfl;simp[Tg.of])
 have y5:=x5.Zc k2
 have R2:=Zx N2.ZF.2 N2.pt.store.len
 have JR:=Za N2.ZF.2
 have m5:=Za y5.2
 have q5:hc g ⟨h.size,5,none⟩=some (.int .i64 l.v.slot):=Zh y5.2
 have ek:(notes n l).known=n.known:=by unfold notes;split<;>rfl
 have eme:(notes n l).me=n.me:=by unfold notes;split<;>rfl
 have lk:=fun (K:Value→Hp→Prop)=>Yt (K:=K) (n:=l.v.slot) (c:=true) VN OD N2.pt.known.2
 have Vm:=fun (K:Value→Hp→Prop) (x:Obj)=>Yt (h:=g.push x) (K:=K) (n:=l.v.slot) (c:=true) VN OD ((Zr (Za N2.pt.known.2)).trans N2.pt.known.2)
 rw[Xn,ek]at lk
 simp only[Xn,ek]at Vm
 have gp:∀x:Obj,(g.push x)[g.size]? = some x:=fun x=>Zb
 simp -implicitDefEqProofs only[go_sem,↓reduceIte]
 cases hx:Yr n.known l.v.slot with
 | none=>
  have eP:Wc n l=⟨notes n l,[],[]⟩:=by unfold Wc;rw[hx]
  rw[eP,List.append_nil]
  rw[hx]at lk
  simp only[hx,Option.map_none,Option.getD_none,Option.isSome_none,↓reduceIte]at lk Vm
  refine VS.mono (N:=fun F' g'=>Zg g.size g g'∧F' 7=.bool false) ?_ ?_ (fun _ _ _ h=>h) (fun _ _ h=>h)
  ·refine VS.z (g.size) [7,12] (.p 0 (.p 1 (.p 2 (.q 3 (.p 4 (.p 5 (.q 6 (.or 7 (.p 8 (.p 9 (.p 10 (.s 11 (.w 12 (.p 13 .nil)))))) (.s 11 (.w 7 (.p 8 (.p 9 (.p 10 (.w 12 (.p 13 .nil))))))))))))))) mixed (by kernel_rfl) ?_
   simp -implicitDefEqProofs only[go_sem,↓reduceIte,R2.known,q5,JR,m5,lk,Vm]
   repeat' (first|exact Zg.refl _ _|exact Zg.push (Nat.le_refl _) _|refine And.intro ?_ ?_)
  ·rintro F' g' ⟨b,f7⟩
   simp -implicitDefEqProofs only[go_sem,↓reduceIte,f7]
   exact⟨o,a,YH,((ZE k1).trans (k2.mono fun t q=>.inr (.inr q))).Ya b,N2.still (ZC k2.ZW b),W2.still (ZC k2.ZW b)⟩
 | some y=>
  have eP:Wc n l=⟨notes n l,[⟨6,n.me,l.Jt,Jn,TK l.v.slot Jn y,[]⟩],[]⟩:=by unfold Wc;rw[hx]
  rw[eP]
  rw[hx]at lk
  simp only[hx,Option.map_some,Option.getD_some,Option.isSome_some,↓reduceIte]at lk Vm
  refine VS.mono (N:=fun F' g'=>Zg g.size g g'∧F' 0=.pointer (some ⟨wb,0,none⟩)∧F' 1=.pointer (some ⟨nb,0,none⟩)∧F' 5=.pointer (some ⟨h.size,0,none⟩)∧F' 7=.bool true∧F' 6=.pointer (some ⟨g.size,0,none⟩)∧g'[g.size]? = some (.cells y.C.toArray 49)) ?_ ?_ (fun _ _ _ h=>h) (fun _ _ h=>h)
  ·refine VS.z (g.size) [7,12] (.p 0 (.p 1 (.p 2 (.q 3 (.p 4 (.p 5 (.q 6 (.or 7 (.p 8 (.p 9 (.p 10 (.s 11 (.w 12 (.p 13 .nil)))))) (.s 11 (.w 7 (.p 8 (.p 9 (.p 10 (.w 12 (.p 13 .nil))))))))))))))) mixed (by kernel_rfl) ?_
   simp -implicitDefEqProofs only[go_sem,↓reduceIte,R2.known,q5,JR,m5,lk,Vm,WU]
   repeat' (first|exact Zg.refl _ _|exact Zg.push (Nat.le_refl _) _|exact gp _|refine And.intro ?_ ?_)
  ·rintro F' g' ⟨b,f0,f1,f5,f7,f6,yy⟩
   have kb:=ZC k2.ZW b
   have N3:=N2.still kb
   have W3:=W2.still kb
   have z5:=y5.Zc kb
   have R3:=Zx N3.ZF.2 N3.pt.store.len
   have p1:hc g' ⟨h.size,1,none⟩=some (.int .i64 l.Jt):=Zh z5.2
   have p5:hc g' ⟨h.size,5,none⟩=some (.int .i64 l.v.slot):=Zh z5.2
   have p6:rd g' ⟨g.size,0,none⟩ 5=some [.int .i64 y.k,.int .i64 y.c,.int .i64 y.s,.int .i64 y.n,.int .i64 y.v]:=Zp yy rfl
   simp -implicitDefEqProofs only[go_sem,↓reduceIte,f0,f1,f5,f7,f6,p1,p5,p6]
   refine (UM T g' o wb nb Z8 n.me YH fl bad told l.Jt ⟨6,0,0,Jn,TK l.v.slot Jn y,[]⟩ (.slice none 0 0) kb.ZW W3 (by rw[←eme];exact R3.me) (Za N3.ZF.2) (Im.nil _ _ _ _) Yp).use ?_
   rintro v' h' ⟨o',Xu,k,_,W'⟩
   simp -implicitDefEqProofs only[go_sem,↓reduceIte]
   exact⟨o',a,Xu,(((ZE k1).trans (k2.mono fun t q=>.inr (.inr q))).trans (ZE kb)).trans (k.mono fun t q=>q.elim .inl fun q=>.inr (.inl q)),N3.Zc k (by rintro t (rfl|rfl)<;>simp[Tg.of]),W'⟩
section
variable {K:Value→Hp→Prop} {X:Hp}
theorem HW {t e:TypeId} (ht:bM Tryz.prog t=some e) {b:Nat} (hb:b=X.size) {l:List (Int × Value)} {n:Int} {x:Value} :
  NM Tryz.prog t (.map (some b)) (.int .i64 n) x K (X.push (Xo l))=K undef (X.push (Xo (ins l n x))):=by
 subst hb
 rw[XP ht Zb]
 congr 1
 apply Array.ext_getElem?
 intro j
 rw[Array.getElem?_setIfInBounds,Array.getElem?_push,Array.getElem?_push]
 by_cases hj:X.size=j
 ·subst hj;simp
 ·rw[if_neg hj,if_neg (fun e=>hj e.symm),if_neg (fun e=>hj e.symm)]
theorem ae {t e:TypeId} (ht:bM Tryz.prog t=some e) {b:Nat} (hb:b=X.size) {n:Int} {x:Value} :
  NM Tryz.prog t (.map (some b)) (.int .i64 n) x K (X.push (.map #[] 0))=K undef (X.push (Xo [(n,x)])):=HW (l:=[]) ht hb
theorem af {t e:TypeId} {z:Value} (ht:bM Tryz.prog t=some e) (hz:xf Tryz.prog e=some z) {b:Nat} (hb:b=X.size) {l:List (Int × Value)} {n:Int} {x:Value} (hx:Yr l n=some x) :
  NK Tryz.prog t (.map (some b)) (.int .i64 n) false K (X.push (Xo l))=K x (X.push (Xo l)):=by
 subst hb
 rw[Yt ht hz Zb,hx];rfl
end
theorem DZ (n:Nd) (l:Y3):(YR n l).ts=[]:=by
 unfold YR
 repeat' split
 all_goals rfl
theorem oR (n:Nd) (l:Y3):(asked n l).ts=[]:=by
 unfold asked
 repeat' split
 all_goals rfl
theorem oS (n:Nd) (l:Y3):(Wc n l).ts=[]:=by
 unfold Wc
 split<;>rfl
theorem oU (n:Nd) (s:Int) (x:Cm):(Un n s x).ls=[]:=rfl
theorem Mr (n:Nd) (l:Y3):(Yv n l).ls=[]:=by
 unfold Yv
 repeat' split
 all_goals rfl
set_option maxHeartbeats 1000000 in
theorem ic (T:World) (h:Hp) (o:Ow) (wb i nb:Nat) (Z8:Nat→Nat) (a:NA) (n:Nd) (YH:WA) (fl:List Y3) (bad:Nat→Int) (told:List S9) (l:Y3) (w:Value) (d:Uq o h)
  (N:ZJ o h wb i nb a n) (W:ZG o h wb Z8 YH fl bad told) (iv:Wm o h w l.vs) (tb:CI o h) (ZtE:0≤l.kind∧l.kind≤7) (Yp:fl.length≤1000000000000) (nP:n.own.l.length≤1000000) (jB:n.data.length≤1000000)
  (hk:n.known.length≤100000000000) (hl:n.log.length≤100000000000) (ht:told.length≤100000000000) (hq:n.queue.length≤1000000000000) (hw:n.waiting.length≤1000000000000)
  (hv:∀r s,n.Zi=some r→((Yr r.Xt s).getD []).length≤1000000) :
  Zd Tryz.prog T 78 #[Zo wb,Zo nb,.agg (YY l w).toArray] h fun v' h'=>∃o' a' Xu,Kp (XC i) o h o' h'∧ZJ o' h' wb i nb a' (handle n l).n∧ZG o' h' wb Z8 Xu (fl++(handle n l).ls) bad (told++(handle n l).ts):=by
 obtain⟨pw,cw,rfl⟩:=iv.isSlice
 refine Zd.Zj (args:=[_,_,_]) Tryz.func78 rfl rfl rfl rfl ?_
 obtain⟨h1,YD⟩:=Zy (h.push (.cells (YY l (.slice pw l.vs.length cw)).toArray 148):Hp)
 have k1:Kp Qz o h o h1:=by rw[YD];exact ZX d _
 have x5:ZN o h1 h.size (.cells (YY l (.slice pw l.vs.length cw)).toArray 148):=⟨d _ (Nat.le_refl _),by rw[YD];exact Zb⟩
 have e0:=YD.symm
 have s1:h1.size=h.size+1:=by rw[YD];simp
 obtain⟨M,hM⟩:∃M:List (Int × Value),M=[(0,.func (.func 93) #[] #[]),(1,.func (.func 94) #[] #[]),(2,.func (.func 95) #[] #[]),(3,.func (.func 94) #[] #[]),(4,.func (.func 96) #[] #[]),(5,.func (.func 97) #[] #[]),(6,.func (.func 98) #[] #[]),(7,.func (.func 99) #[] #[])]:=⟨_,rfl⟩
 have k2:Kp Qz o h o (h1.push (Xo M)):=k1.push _
 have N2:=N.still k2
 have W2:=W.still k2
 have jF:=iv.Zc k2
 have BO:=tb.Zc k2
 have x2:ZN o (h1.push (Xo M)) h.size (.cells (YY l (.slice pw l.vs.length cw)).toArray 148):=x5.Zc (ZX k1.ZW _)
 have d2:Uq o (h1.push (Xo M)):=k2.ZW
 have q0:hc (h1.push (Xo M)) ⟨h.size,0,none⟩=some (.int .i64 l.kind):=Zh x2.2
 have uT:rd (h1.push (Xo M)) ⟨h.size,0,none⟩ 14=some (YY l (.slice pw l.vs.length cw)):=Zp x2.2 rfl
 have eM:ins (ins (ins (ins (ins (ins (ins [((0:Int),Value.func (.func 93) #[] #[])] 1 (.func (.func 94) #[] #[])) 2 (.func (.func 95) #[] #[])) 3 (.func (.func 94) #[] #[])) 4 (.func (.func 96) #[] #[])) 5 (.func (.func 97) #[] #[])) 6 (.func (.func 98) #[] #[])) 7 (.func (.func 99) #[] #[])=M:=by rw[hM];rfl
 have u0:=fun (K:Value→Hp→Prop) (n:Int) (x:Value)=>ae (K:=K) (X:=h1) om (b:=h1.size) rfl (n:=n) (x:=x)
 have u1:=fun (K:Value→Hp→Prop) (l:List (Int × Value)) (n:Int) (x:Value)=>HW (K:=K) (X:=h1) om (b:=h1.size) rfl (l:=l) (n:=n) (x:=x)
 have lk:=fun (K:Value→Hp→Prop) (x:Value) (hx:Yr M l.kind=some x)=>af (K:=K) (X:=h1) om Zfv (b:=h1.size) rfl hx
 unfold Zo YY
 unfold YY at e0 uT
 have KH:l.kind=0∨l.kind=1∨l.kind=2∨l.kind=3∨l.kind=4∨l.kind=5∨l.kind=6∨l.kind=7:=by omega
 rcases KH with Oy|Oy|Oy|Oy|Oy|Oy|Oy|Oy
 ·have hf:handle n l=YR n l:=by unfold handle;simp[Oy]
  rw[hf]
  have ag:=fun (K:Value→Hp→Prop)=>lk K (.func (.func 93) #[] #[]) (by rw[Oy,hM];rfl)
  have cc:=DT T _ o wb i nb Z8 a n YH fl bad told l _ d2 N2 W2 jF Yp nP jB BO
  unfold YY Zo at cc
  simp -implicitDefEqProofs only[go_sem,↓reduceIte,e0,u0,u1,eM,q0,uT,ag]
  refine cc.use ?_
  rintro v' h' ⟨o',a',Xu,k,N',W'⟩
  simp -implicitDefEqProofs only[go_sem,↓reduceIte]
  exact⟨o',a',Xu,(ZE k2).trans (k.mono fun t q=>by rcases q with rfl|rfl|rfl<;>simp[XC,Tg.of]),N',by rw[DZ,List.append_nil];exact W'⟩
 ·have hf:handle n l=Yv n l:=by unfold handle;simp[Oy]
  rw[hf]
  have ag:=fun (K:Value→Hp→Prop)=>lk K (.func (.func 94) #[] #[]) (by rw[Oy,hM];rfl)
  have cc:=Mq T _ o wb i nb Z8 a n YH fl bad told l _ d2 N2 W2 jF hk hl ht hq hw hv
  unfold YY Zo at cc
  simp -implicitDefEqProofs only[go_sem,↓reduceIte,e0,u0,u1,eM,q0,uT,ag]
  refine cc.use ?_
  rintro v' h' ⟨o',a',Xu,k,N',W'⟩
  simp -implicitDefEqProofs only[go_sem,↓reduceIte]
  exact⟨o',a',Xu,(ZE k2).trans (k.mono fun t q=>DX q),N',by rw[Mr,List.append_nil];exact W'⟩
 ·have hf:handle n l=asked n l:=by unfold handle;simp[Oy]
  rw[hf]
  have ag:=fun (K:Value→Hp→Prop)=>lk K (.func (.func 95) #[] #[]) (by rw[Oy,hM];rfl)
  have cc:=oM T _ o wb i nb Z8 a n YH fl bad told l _ d2 N2 W2 jF Yp nP jB BO
  unfold YY Zo at cc
  simp -implicitDefEqProofs only[go_sem,↓reduceIte,e0,u0,u1,eM,q0,uT,ag]
  refine cc.use ?_
  rintro v' h' ⟨o',a',Xu,k,N',W'⟩
  simp -implicitDefEqProofs only[go_sem,↓reduceIte]
  exact⟨o',a',Xu,(ZE k2).trans (k.mono fun t q=>by rcases q with rfl|rfl|rfl<;>simp[XC,Tg.of]),N',by rw[oR,List.append_nil];exact W'⟩
 ·have hf:handle n l=Yv n l:=by unfold handle;simp[Oy]
  rw[hf]
  have ag:=fun (K:Value→Hp→Prop)=>lk K (.func (.func 94) #[] #[]) (by rw[Oy,hM];rfl)
  have cc:=Mq T _ o wb i nb Z8 a n YH fl bad told l _ d2 N2 W2 jF hk hl ht hq hw hv
  unfold YY Zo at cc
  simp -implicitDefEqProofs only[go_sem,↓reduceIte,e0,u0,u1,eM,q0,uT,ag]
  refine cc.use ?_
  rintro v' h' ⟨o',a',Xu,k,N',W'⟩
  simp -implicitDefEqProofs only[go_sem,↓reduceIte]
  exact⟨o',a',Xu,(ZE k2).trans (k.mono fun t q=>DX q),N',by rw[Mr,List.append_nil];exact W'⟩
 ·have hf:handle n l=⟨add n l.v.cm,[],[]⟩:=by unfold handle;simp[Oy]
  rw[hf]
  have ag:=fun (K:Value→Hp→Prop)=>lk K (.func (.func 96) #[] #[]) (by rw[Oy,hM];rfl)
  have cc:=oP T _ o wb i nb a n l _ d2 N2 jF hq (by omega)
  unfold YY Zo at cc
  simp -implicitDefEqProofs only[go_sem,↓reduceIte,e0,u0,u1,eM,q0,uT,ag]
  refine cc.use ?_
  rintro v' h' ⟨o',a',k,N'⟩
  simp -implicitDefEqProofs only[go_sem,↓reduceIte]
  exact⟨o',a',YH,(ZE k2).trans (k.mono fun t q=>by rcases q with rfl|rfl<;>simp[XC,Tg.of]),N',by rw[List.append_nil,List.append_nil];exact W2.Zc k (by rintro t (rfl|rfl)<;>simp[Tg.of])⟩
 ·have hf:handle n l=Wc n l:=by unfold handle;simp[Oy]
  rw[hf]
  have ag:=fun (K:Value→Hp→Prop)=>lk K (.func (.func 97) #[] #[]) (by rw[Oy,hM];rfl)
  have cc:=oQ T _ o wb i nb Z8 a n YH fl bad told l _ d2 N2 W2 jF Yp
  unfold YY Zo at cc
  simp -implicitDefEqProofs only[go_sem,↓reduceIte,e0,u0,u1,eM,q0,uT,ag]
  refine cc.use ?_
  rintro v' h' ⟨o',a',Xu,k,N',W'⟩
  simp -implicitDefEqProofs only[go_sem,↓reduceIte]
  exact⟨o',a',Xu,(ZE k2).trans (k.mono fun t q=>by rcases q with rfl|rfl|rfl<;>simp[XC,Tg.of]),N',by rw[oS,List.append_nil];exact W'⟩
 ·have hf:handle n l=Un n l.v.slot l.v.cm:=by unfold handle;simp[Oy]
  rw[hf]
  have ag:=fun (K:Value→Hp→Prop)=>lk K (.func (.func 98) #[] #[]) (by rw[Oy,hM];rfl)
  have cc:=ib T _ o wb i nb Z8 a n YH fl bad told l _ d2 N2 W2 jF hk hl ht hq hw
  unfold YY Zo at cc
  simp -implicitDefEqProofs only[go_sem,↓reduceIte,e0,u0,u1,eM,q0,uT,ag]
  refine cc.use ?_
  rintro v' h' ⟨o',a',Xu,k,N',W'⟩
  simp -implicitDefEqProofs only[go_sem,↓reduceIte]
  exact⟨o',a',Xu,(ZE k2).trans (k.mono fun t q=>KF q),N',by rw[oU,List.append_nil];exact W'⟩
 ·have hf:handle n l=⟨notes n l,[],[]⟩:=by unfold handle;simp[Oy]
  rw[hf]
  have ag:=fun (K:Value→Hp→Prop)=>lk K (.func (.func 99) #[] #[]) (by rw[Oy,hM];rfl)
  have cc:=DY T _ o wb i nb a n l _ d2 N2 jF
  unfold YY Zo at cc
  simp -implicitDefEqProofs only[go_sem,↓reduceIte,e0,u0,u1,eM,q0,uT,ag]
  refine cc.use ?_
  rintro v' h' ⟨k,N'⟩
  simp -implicitDefEqProofs only[go_sem,↓reduceIte]
  exact⟨o,a,YH,(ZE k2).trans (k.mono fun t q=>by rw[q];simp[XC,Tg.of]),N',by rw[List.append_nil,List.append_nil];exact W2.Zc k (by rintro t rfl;simp[Tg.of])⟩
@[go_sem] theorem Zos (x:Cm):List.take 5 x.C=x.C:=rfl
def UC (n:Nd) (r:Jj) (x:Cm):Int:=match free n r x with|some s=>(s:Int)|none=>0
theorem YL.rr {o:Ow} {i:Nat} {h:Hp} {ra:RA} {r:Jj} (s:YL o i h ra r):rd h ⟨ra.rb,0,none⟩ 2=some (Je r.b)∧hc h ⟨ra.rb,2,none⟩=some (.map (some ra.pb))∧hc h ⟨ra.rb,3,none⟩=some (.bool r.begun)∧hc h ⟨ra.rb,4,none⟩=some (.map (some ra.qb))∧hc h ⟨ra.rb,5,none⟩=some (.map (some ra.vb)):=
 ⟨by rw[Z5 s.ZF.2 (by simp[A7])];rfl,Zh s.ZF.2,Zh s.ZF.2,Zh s.ZF.2,Zh s.ZF.2⟩
set_option maxHeartbeats 1000000 in
theorem uU (T:World) (h:Hp) (o:Ow) (wb i nb:Nat) (a:NA) (n:Nd) (ra:RA) (r:Jj) (x:Cm) (d:Uq o h) (N:ZJ o h wb i nb a n) (R:YL o i h ra r) (hl:n.log.length≤1000000000000) :
  Zd Tryz.prog T 121 #[Zo nb,Zo ra.rb,WU x] h fun v' h'=>v'=.tuple #[.int .i64 (UC n r x),.bool (free n r x).isSome]∧Zg h.size h h':=by
 have Wo:=Za N.ZF.2
 have A9:=Za R.ZF.2
 refine Zd.XO (args:=[_,_,_]) Tryz.func121 rfl rfl rfl rfl ?_
 unfold Zo WU
 obtain⟨h1,YD⟩:=Zy (h.push (.cells x.C.toArray 49):Hp)
 have k1:Kp Qz o h o h1:=by rw[YD];exact ZX d _
 have b1:Zg h.size h h1:=by rw[YD];exact Zg.push (Nat.le_refl _) _
 have x1:ZN o h1 h.size (.cells x.C.toArray 49):=⟨d _ (Nat.le_refl _),by rw[YD];exact Zb⟩
 have e0:=YD.symm
 have N1:=N.still k1
 have R1:=R.Zc k1 (fun _ _ q=>q)
 have P1:=Zx N1.ZF.2 N1.pt.store.len
 have P0:=Zx N.ZF.2 N.pt.store.len
 obtain⟨lp,lc,IU,hlc⟩:=YB.isSlice N1.pt.log
 have P11:=P1.log
 rw[IU]at P11
 have JN:=Za N1.ZF.2
 have e3:((n.log.length:Nat):Int)=(n.log.length:Int):=rfl
 simp -implicitDefEqProofs only[go_sem,↓reduceIte,e0,P11]
 refine VS.ZV (fun F g=>Zg h1.size h1 g∧F 0=.pointer (some ⟨nb,0,none⟩)∧F 1=.pointer (some ⟨ra.rb,0,none⟩)∧F 5=.pointer (some ⟨h.size,0,none⟩)∧∃s:Nat,F 8=.int .i64 s∧n.log.length≤s∧QH n r x (40-n.log.length) n.log.length=QH n r x (40-s) s)
  (fun F _=>40-(vi (F 8)).toNat) rfl ⟨Zg.refl _ _,rfl,rfl,rfl,n.log.length,rfl,Nat.le_refl _,rfl⟩ ?_
 rintro F g ⟨hg,f0,f1,f5,s,f8,hs,he⟩
 have kg:=ZC k1.ZW hg
 have N2:=N1.still kg
 have R2:=R1.Zc kg (fun _ _ q=>q)
 have y1:=x1.Zc kg
 have P2:=Zx N2.ZF.2 N2.pt.store.len
 obtain⟨_,_,_,q4,_⟩:=R2.rr
 have gs:=hg.size
 have JR:=Za N2.ZF.2
 have DW:=Za R2.ZF.2
 have bb:Zg h.size h g:=b1.trans (hg.mono b1.size)
 have eF:free n r x=QH n r x (40-s) s:=he
 by_cases ZD:s<40
 ·have ZL:(s:Int)<40:=by omega
  obtain⟨f,hf⟩:∃f,40-s=f+1:=⟨39-s,by omega⟩
  have ef:f=40-(s+1):=by omega
  rw[hf]at eF he
  have HX:=fun (K:Value→Hp→Prop)=>Yt (K:=K) (n:=(s:Int)) (c:=true) VN OD R2.prop.2
  rw[Xn]at HX
  have Vm:=fun (K:Value→Hp→Prop) (z:Obj)=>Yt (h:=g.push z) (K:=K) (n:=(s:Int)) (c:=true) VN OD ((Zr (Za N2.pt.known.2)).trans N2.pt.known.2)
  simp only[Xn]at Vm
  have fz:∀c:Cm,rd g ⟨h.size,0,none⟩ 5=some x.C:=fun _=>Zp y1.2 rfl
  have fx:rd g ⟨h.size,0,none⟩ 5=some x.C:=Zp y1.2 rfl
  have zN:=Za y1.2
  have n1:¬h.size=g.size:=by omega
  have n2:¬h.size=g.size+1:=by omega
  have n3:¬nb=g.size:=by omega
  unfold QH at eF
  cases c1:Yr r.prop (s:Int) with
  | none=>
   simp only[c1,Option.map_none,Option.getD_none,Option.isSome_none,↓reduceIte]at HX
   cases c2:Yr n.known (s:Int) with
   | none=>
    simp only[c2,Option.map_none,Option.getD_none,Option.isSome_none,↓reduceIte]at Vm
    have e4:free n r x=some s:=by rw[eF,if_neg (by rw[c1,c2];simp),if_pos ⟨c1,c2⟩]
    have e5:UC n r x=s:=by unfold UC;rw[e4]
    rw[e5,e4]
    simp -implicitDefEqProofs only[go_sem,↓reduceIte,f0,f1,f5,f8,ZL,q4,HX,Vm,P2.known,n1,n2,n3,fx,WU,Option.isSome_some]
    exact (bb.Yh (by omega) _).Yh (by simp;omega) _
   | some z=>
    simp only[c2,Option.map_some,Option.getD_some,Option.isSome_some,↓reduceIte]at Vm
    by_cases qz:z=x
    ·have e4:free n r x=none:=by rw[eF,if_pos (.inr (by rw[c2,qz]))]
     have e5:UC n r x=0:=by unfold UC;rw[e4]
     rw[e5,e4]
     simp -implicitDefEqProofs only[go_sem,↓reduceIte,f0,f1,f5,f8,ZL,q4,HX,Vm,P2.known,n1,n2,n3,fx,WU,qz,Option.isSome_none]
     exact (bb.Yh (by omega) _).Yh (by simp;omega) _
    ·have qz':¬some z=some x:=fun e=>qz (Option.some.inj e)
     simp -implicitDefEqProofs only[go_sem,↓reduceIte,f0,f1,f5,f8,ZL,q4,HX,Vm,P2.known,n1,n2,n3,fx,WU,qz]
     unfold Y4
     refine⟨⟨(hg.Yh (by omega) _).Yh (by simp;omega) _,f0,f1,f5,s+1,rfl,by omega,?_⟩,?_⟩
     ·rw[he,←ef,QH,if_neg (by rw[c1,c2];simp[qz]),if_neg (by rw[c2];simp)]
     ·simp only[vi,Zk,↓reduceIte,f8];omega
  | some y=>
   simp only[c1,Option.map_some,Option.getD_some,Option.isSome_some,↓reduceIte]at HX
   by_cases qy:y=x
   ·have e4:free n r x=none:=by rw[eF,if_pos (.inl (by rw[c1,qy]))]
    have e5:UC n r x=0:=by unfold UC;rw[e4]
    rw[e5,e4]
    cases c2:Yr n.known (s:Int) with
    | none=>
     simp only[c2,Option.map_none,Option.getD_none,Option.isSome_none,↓reduceIte]at Vm
     simp -implicitDefEqProofs only[go_sem,↓reduceIte,f0,f1,f5,f8,ZL,q4,HX,Vm,P2.known,n1,n2,n3,fx,WU,qy,Option.isSome_none]
     exact (bb.Yh (by omega) _).Yh (by simp;omega) _
    | some z=>
     simp only[c2,Option.map_some,Option.getD_some,Option.isSome_some,↓reduceIte]at Vm
     simp -implicitDefEqProofs only[go_sem,↓reduceIte,f0,f1,f5,f8,ZL,q4,HX,Vm,P2.known,n1,n2,n3,fx,WU,qy,Option.isSome_none]
     exact (bb.Yh (by omega) _).Yh (by simp;omega) _
   ·cases c2:Yr n.known (s:Int) with
    | none=>
     simp only[c2,Option.map_none,Option.getD_none,Option.isSome_none,↓reduceIte]at Vm
     simp -implicitDefEqProofs only[go_sem,↓reduceIte,f0,f1,f5,f8,ZL,q4,HX,Vm,P2.known,n1,n2,n3,fx,WU,qy]
     unfold Y4
     refine⟨⟨(hg.Yh (by omega) _).Yh (by simp;omega) _,f0,f1,f5,s+1,rfl,by omega,?_⟩,?_⟩
     ·rw[he,←ef,QH,if_neg (by rw[c1,c2];simp[qy]),if_neg (by rw[c1];simp)]
     ·simp only[vi,Zk,↓reduceIte,f8];omega
    | some z=>
     simp only[c2,Option.map_some,Option.getD_some,Option.isSome_some,↓reduceIte]at Vm
     by_cases qz:z=x
     ·have e4:free n r x=none:=by rw[eF,if_pos (.inr (by rw[c2,qz]))]
      have e5:UC n r x=0:=by unfold UC;rw[e4]
      rw[e5,e4]
      simp -implicitDefEqProofs only[go_sem,↓reduceIte,f0,f1,f5,f8,ZL,q4,HX,Vm,P2.known,n1,n2,n3,fx,WU,qy,qz,Option.isSome_none]
      exact (bb.Yh (by omega) _).Yh (by simp;omega) _
     ·
      simp -implicitDefEqProofs only[go_sem,↓reduceIte,f0,f1,f5,f8,ZL,q4,HX,Vm,P2.known,n1,n2,n3,fx,WU,qy,qz]
      unfold Y4
      refine⟨⟨(hg.Yh (by omega) _).Yh (by simp;omega) _,f0,f1,f5,s+1,rfl,by omega,?_⟩,?_⟩
      ·rw[he,←ef,QH,if_neg (by rw[c1,c2];simp[qy,qz]),if_neg (by rw[c1];simp)]
      ·simp only[vi,Zk,↓reduceIte,f8];omega
 ·have YJ:¬(s:Int)<40:=by omega
  have e4:free n r x=none:=by rw[eF,show 40-s=0 by omega];rfl
  have e5:UC n r x=0:=by unfold UC;rw[e4]
  rw[e5,e4]
  simp -implicitDefEqProofs only[go_sem,↓reduceIte,f8,YJ,bb,Option.isSome_none]
def Za0 (B:Nat) (o:Ow) (h0 h:Hp) (u:Value) (LL:List (List Vt)):Prop:=
 ∃ws:List Value,Qs B 103 1 h u LL.length ws∧Cz (fun w l=>Wm o h0 w l∧l.length≤1000000) ws LL
def ah (o:Ow) (h:Hp) (u:Value) (LL:List (List Vt)):Prop:=∃p c,u=.slice p LL.length c∧(LL≠[]→∃b off,p=some ⟨b,off,none⟩∧b<h.size∧o b=none∧∀i (hi:i<LL.length),∃w,hc h ⟨b,off+i,none⟩=some w∧Wm o h w LL[i]∧LL[i].length≤1000000)
theorem ah.vss {o:Ow} {h:Hp} {u:Value} {LL:List (List Vt)} (s:ah o h u LL):Vss h u LL:=by
 obtain⟨p,c,hv,hh⟩:=s
 refine⟨p,c,hv,fun Yw=>?_⟩
 obtain⟨b,off,h1,h2,h3,h4⟩:=hh Yw
 refine⟨b,off,h1,h2,fun i hi=>?_⟩
 obtain⟨w,g1,g2,g3⟩:=h4 i hi
 exact⟨w,g1,g2.ts,by omega⟩
theorem ah.Zc {S:Tg→Prop} {o o':Ow} {h h':Hp} {u:Value} {LL:List (List Vt)} (s:ah o h u LL) (k:Kp S o h o' h'):ah o' h' u LL:=by
 obtain⟨p,c,hv,hh⟩:=s
 refine⟨p,c,hv,fun Yw=>?_⟩
 obtain⟨b,off,h1,h2,h3,h4⟩:=hh Yw
 obtain⟨q1,q2⟩:=k.Zc b h2 fun t ht=>by rw[h3]at ht;cases ht
 refine⟨b,off,h1,Nat.lt_of_lt_of_le h2 k.size,q2.trans h3,fun i hi=>?_⟩
 obtain⟨w,g1,g2,g3⟩:=h4 i hi
 refine⟨w,?_,g2.Zc k,g3⟩
 unfold hc at g1 ⊢
 rw[q1];exact g1
theorem Za0.Zot {o:Ow} {h0 h:Hp} {u:Value} {LL:List (List Vt)} (s:Za0 h0.size o h0 h u LL) (d:Uq o h0) (hb:Zg h0.size h0 h):ah o h u LL:=by
 obtain⟨ws,own,al⟩:=s
 have uV:ws.length=LL.length:=by
  clear own
  induction al with
  | nil=>rfl
  | cons _ _ ih=>simp[ih]
 have Zou:∀i (hi:i<LL.length),∃w,ws[i]? = some w∧Wm o h0 w LL[i]∧LL[i].length≤1000000:=by
  clear own uV
  induction al with
  | nil=>intro i hi;simp at hi
  | cons Gx _ ih=>
   intro i hi
   cases i with
   | zero=>exact⟨_,rfl,Gx⟩
   | succ i=>exact ih i (by simpa using hi)
 obtain⟨p,c,hv,hl,YV⟩:=own.sl
 refine⟨p,c,hv,fun Yw=>?_⟩
 have Lm:0<LL.length:=List.length_pos_iff.2 Yw
 obtain⟨b,off,rfl,Ha⟩:=YV (by intro e;rw[e]at uV;simp at uV;omega)
 have hbB:h0.size≤b:=by
  refine own.ZF b ?_
  rcases own with⟨⟨q,h1⟩,h2,h3⟩|⟨b',cap,sp,_,h1,_,_,_,hm⟩
  ·subst h3;simp at uV;omega
  ·rw[hv]at h1
   simp only[Value.slice.injEq,Option.some.injEq,Addr.mk.injEq]at h1
   obtain⟨⟨rfl,_,_⟩,h12,h13⟩:=h1
   rw[hv]
   have:c≠0:=by omega
   simp[ZO,this]
 refine⟨b,off,rfl,Uc (Ha 0 (by omega)),d b hbB,fun i hi=>?_⟩
 obtain⟨w,h1,h2,h3⟩:=Zou i hi
 have bH:i<ws.length:=by omega
 rw[List.getElem?_eq_getElem bH]at h1
 exact⟨w,by rw[Ha i bH,Option.some.inj h1],h2.Zc (ZC d hb),h3⟩
theorem D0 {α β:Type} {R:α→β→Prop} {l:List α} {k:List β} (s:Cz R l k) {a:α} {b:β} (h:R a b):Cz R (l++[a]) (k++[b]):=by
 induction s with
 | nil=>exact .cons h .nil
 | cons x _ ih=>exact .cons x ih
theorem ie (l:List Vt) (v:Vt):RW (l++[v])=if RW l<v.slot then v.slot else RW l:=by
 unfold RW;rw[List.foldl_append];rfl
theorem YL.dg {o:Ow} {i:Nat} {h:Hp} {ra:RA} {r:Jj} (s:YL o i h ra r) (d:Uq o h) {k:Int} {x:Cm} :
  Kp (fun t=>t=.prop i) o h o (h.setIfInBounds ra.qb (Xo (ins (Uw WU r.prop) k (.agg x.C.toArray))))∧YL o i (h.setIfInBounds ra.qb (Xo (ins (Uw WU r.prop) k (.agg x.C.toArray)))) ra { r with prop:=ins r.prop k x }:=by
 have kk:Kp (fun t=>t=.prop i) o h o (h.setIfInBounds ra.qb (Xo (ins (Uw WU r.prop) k (.agg x.C.toArray)))):=(Kp.refl d (fun t=>t=.prop i)).set s.prop.1 rfl _
 exact⟨kk,s.ZF.Zc kk (by intro e;cases e),s.prom.Zc kk (by intro e;cases e),s.So.Zc kk,⟨s.prop.1,by rw[Zv s.prop.2,TW];rfl⟩,s.Xt.Zc kk (by intro e;cases e),s.VO.Zc kk (fun _ e=>by cases e),s.keys⟩
theorem Tw (r:Jj):(Z3 r).length=5:=rfl
theorem HY (r:Jj) (m:Nat) (hm:m<(Z3 r).length):(Z3 r)[m]=(Yr r.prom (m:Int)).getD []:=by
 simp only[Z3,List.getElem_map,List.getElem_range]
theorem YL.list {o:Ow} {i:Nat} {h:Hp} {ra:RA} {r:Jj} (s:YL o i h ra r) (hp:∀x∈r.prom,x.2.length≤1000000) (m:Int):∃p c vs,(Yr ra.pv m).getD (.slice none 0 0)=.slice p vs.length c∧(Yr r.prom m).getD []=vs∧Wm o h (.slice p vs.length c) vs∧vs.length≤1000000:=by
 rcases s.So.Yr m with⟨h1,h2⟩|⟨w,vs,h1,h2,iv⟩
 ·exact⟨none,0,[],by rw[h1];rfl,by rw[h2];rfl,Im.nil _ _ _ _,by simp⟩
 ·obtain⟨p,c,rfl⟩:=iv.isSlice
  exact⟨p,c,vs,by rw[h1];rfl,by rw[h2];rfl,iv,hp _ (SI h2)⟩
set_option maxHeartbeats 1000000 in
theorem oV (T:World) (h:Hp) (o:Ow) (wb i nb:Nat) (a:NA) (n:Nd) (ra:RA) (r:Jj) (d:Uq o h) (N:ZJ o h wb i nb { a with Zi:=some ra } { n with Zi:=some r }) (hp:∀x∈r.prom,x.2.length≤1000000) (hs:∀x∈r.prom,∀v∈x.2,v.slot≤1000000) (hl:n.log.length≤1000000000000) :
  Zd Tryz.prog T 120 #[Zo nb,Zo ra.rb] h fun v' h'=>∃ra',ra'.rb=ra.rb∧Kp (XF i) o h o h'∧ZJ o h' wb i nb { a with Zi:=some ra' } { n with Zi:=some (Tq n r) }:=by
 have Wo:=Za N.ZF.2
 have R:YL o i h ra r:=N.pt.Zi
 have A9:=Za R.ZF.2
 refine Zd.Zj (args:=[_,_]) Tryz.func120 rfl rfl rfl rfl ?_
 unfold Zo
 simp -implicitDefEqProofs only[go_sem,↓reduceIte]
 refine VS.ZV (fun F g=>Zg h.size h g∧F 0=.pointer (some ⟨nb,0,none⟩)∧F 1=.pointer (some ⟨ra.rb,0,none⟩)∧∃m:Nat,m≤5∧F 12=.int .i64 m∧Za0 h.size o h g (F 4) ((Z3 r).take m)∧F 5=.int .i64 (RW ((Z3 r).take m).flatten))
  (fun F _=>5-(vi (F 12)).toNat) rfl ⟨Zg.refl _ _,rfl,rfl,0,by omega,rfl,⟨[],Qs.nil _ _ _ _,.nil⟩,rfl⟩ ?_
 rintro F g ⟨hg,f0,f1,m,hm,f12,hG,f5⟩
 have kg:=ZC d hg
 have N1:=N.still kg
 have R1:=R.Zc kg (fun _ _ q=>q)
 obtain⟨_,q2,q3,q4,_⟩:=R1.rr
 have gs:=hg.size
 by_cases ZD:m<5
 ·have ZL:(m:Int)<5:=by omega
  obtain⟨pm,cm,vs,e1,e2,iv,nP⟩:=R1.list hp (m:Int)
  have hm5:m<(Z3 r).length:=by rw[Tw];exact ZD
  have e3:(Z3 r)[m]=vs:=by rw[HY,e2]
  have e4:(Z3 r).take (m+1)=(Z3 r).take m++[vs]:=by rw[Yg _ m hm5,e3]
  have lk:=fun (G:Hp) (hG:Zg g.size g G) (K:Value→Hp→Prop)=>Yt (h:=G) (K:=K) (n:=(m:Int)) (c:=false) Mj oq (hG.get (Za R1.prom.2) R1.prom.2)
  simp only[e1,Bool.false_eq_true,if_false]at lk
  have lk0:=lk g (Zg.refl _ _)
  obtain⟨ws,own,al⟩:=hG
  obtain⟨p4,c4,hF4⟩:∃p c,F 4=.slice p ((Z3 r).take m).length c:=by
   obtain⟨p,c,h1,_⟩:=own.sl;exact⟨p,c,h1⟩
  have ml:((Z3 r).take m).length=m:=by rw[List.length_take,Tw];omega
  rw[ml]at hF4 own
  rw[hF4]at own
  simp -implicitDefEqProofs only[go_sem,↓reduceIte,f0,f1,f5,f12,hF4,ZL,q2,lk0]
  have src:Sl 1 (g.push (.cells [.slice pm vs.length cm].toArray 103)) (.slice (some ⟨g.size,0,none⟩) 1 1) 1 [.slice pm vs.length cm]:=Sl.made (by simp) 1
  refine NJ (E:=103) (n:=1) (B:=h.size) (bytes:=24) (m:=m) (k:=1) (cs:=ws) zH Tryz.underlying240 ZdQ ZdS rfl ZdR (own.push _) (by simp;omega) src rfl (by omega) (by omega) ?_
  intro u3 g3 ZfQ Zow _
  have ai:Zg h.size h g3:=(hg.Yh (by omega) _).trans (Zow.Ya (by simp;omega) (own.push (.cells [.slice pm vs.length cm].toArray 103)).ZF)
  have kg3:=ZC d ai
  have R3:=R.Zc kg3 (fun _ _ q=>q)
  obtain⟨_,q23,_,_,_⟩:=R3.rr
  have lk3:=fun (K:Value→Hp→Prop)=>Yt (K:=K) (n:=(m:Int)) (c:=false) Mj oq R3.prom.2
  simp only[e1,Bool.false_eq_true,if_false]at lk3
  obtain⟨p5,c5,rfl⟩:∃p c,u3=.slice p (m+1) c:=by obtain⟨p,c,h1,_⟩:=ZfQ.sl;exact⟨p,c,h1⟩
  have iv0:Wm o h (.slice pm vs.length cm) vs:=by
   obtain⟨pm',cm',wG,x1,x2,iv',_⟩:=R.list hp (m:Int)
   rw[e1]at x1
   rw[e2]at x2
   subst x2
   rw[←x1]at iv'
   exact iv'
  have al3:Cz (fun w l=>Wm o h w l∧l.length≤1000000) (ws++[.slice pm vs.length cm]) ((Z3 r).take m++[vs]):=by
   exact D0 al ⟨iv0,nP⟩
  simp -implicitDefEqProofs only[go_sem,↓reduceIte,f0,f1,f5,f12,ZL,q23,lk3]
  obtain⟨LL,hLL⟩:=Zy (((Z3 r).take m).flatten)
  have ue:((Z3 r).take (m+1)).flatten=LL++vs:=by rw[e4,List.flatten_append,←hLL];simp
  rw[←hLL]at f5
  have ivo:=fun g' (hb:Zg h.size h g')=>KA (iv0.Zc (ZC d hb)).ts
  refine VS.ZV (fun F' g'=>Zg h.size h g'∧F' 0=.pointer (some ⟨nb,0,none⟩)∧F' 1=.pointer (some ⟨ra.rb,0,none⟩)∧F' 12=.int .i64 m∧F' 29=.slice pm vs.length cm∧F' 30=.int .i64 vs.length∧F' 4=.slice p5 (m+1) c5∧Qs h.size 103 1 g' (.slice p5 (m+1) c5) (m+1) (ws++[.slice pm vs.length cm])∧∃j:Nat,j≤vs.length∧F' 31=.int .i64 j∧F' 5=.int .i64 (RW (LL++vs.take j)))
   (fun F' _=>vs.length-(vi (F' 31)).toNat) rfl ⟨ai,f0,f1,f12,rfl,rfl,rfl,ZfQ,0,by omega,rfl,by rw[List.take_zero,List.append_nil];exact f5⟩ ?_
  rintro F2 g4 ⟨OI,f0,f1,f12,f29,f30,f4,ZfR,j,hj,f31,f5⟩
  by_cases CS:j<vs.length
  ·have Zox:(j:Int)<vs.length:=by omega
   obtain⟨pp,cc,yc,nz⟩:=ivo g4 OI
   obtain⟨bb,oo,hpp,U6,OJ⟩:=nz (by intro e;rw[e]at CS;simp at CS)
   simp only[Value.slice.injEq]at yc
   obtain⟨rfl,_,rfl⟩:=yc
   subst hpp
   have r1:=OJ j CS
   unfold Zn at r1
   simp -implicitDefEqProofs only[go_sem,↓reduceIte,f0,f1,f12,f29,f30,f4,f31,f5,Zox,r1]
   unfold Y4
   refine⟨⟨OI.Yh OI.size _,f0,f1,f12,f29,f30,f4,ZfR.push _,j+1,CS,rfl,?_⟩,?_⟩
   ·show Value.int .i64 _=_
    rw[Yg vs j CS,←List.append_assoc,ie]
   ·simp only[vi,Zk,↓reduceIte,f31];omega
  ·have YJ:¬(j:Int)<vs.length:=by omega
   obtain rfl:j=vs.length:=by omega
   rw[List.take_length]at f5
   simp -implicitDefEqProofs only[go_sem,↓reduceIte,f30,f31,YJ,f12]
   unfold Y4
   refine⟨⟨OI,f0,f1,m+1,ZD,rfl,⟨_,?_,by rw[e4];exact al3⟩,by rw[ue];exact f5⟩,?_⟩
   ·show Qs _ _ _ _ (F2 4) _ _
    rw[f4,e4,List.length_append,ml]
    exact ZfR
   ·simp only[vi,Zk,↓reduceIte,f12];omega
 ·have YJ:¬(m:Int)<5:=by omega
  obtain rfl:m=5:=by omega
  have ht5:(Z3 r).take 5=Z3 r:=by rw[List.take_of_length_le];exact Nat.le_of_eq (Tw r)
  rw[ht5]at hG f5
  have P1:=Zx N1.ZF.2 N1.pt.store.len
  have JN:=Za N1.ZF.2
  obtain⟨lp,lc,IU,_⟩:=YB.isSlice N1.pt.log
  have P11:=P1.log
  rw[IU]at P11
  have ig:=hG.Zot d hg
  obtain⟨u,hu⟩:=Zy (F 4)
  rw[←hu]at ig hG
  obtain⟨top,Ff⟩:=Zy (RW (Z3 r).flatten)
  rw[←Ff]at f5
  have htl:top≤1000000:=by
   rw[Ff]
   have key:∀(l:List Vt) (t:Int),t≤1000000→(∀v∈l,v.slot≤1000000)→l.foldl (fun t v=>if t<v.slot then v.slot else t) t≤1000000:=by
    intro l
    induction l with
    | nil=>intro t ht _;exact ht
    | cons x l ih=>
     intro t ht hh
     refine ih _ ?_ (fun v hv=>hh v (List.mem_cons_of_mem _ hv))
     show (if t<x.slot then x.slot else t)≤1000000
     split
     ·exact hh x List.mem_cons_self
     ·exact ht
   refine key _ _ (by omega) ?_
   intro v hv
   simp only[List.mem_flatten]at hv
   obtain⟨l,mG,Gi⟩:=hv
   obtain⟨k,hk,rfl⟩:=List.getElem_of_mem mG
   rw[HY]at Gi
   cases hx:Yr r.prom (k:Int) with
   | none=>rw[hx]at Gi;cases Gi
   | some y=>rw[hx]at Gi;exact hs _ (SI hx) v Gi
  clear hG
  obtain⟨LL,hLL⟩:=Zy (Z3 r)
  rw[←hLL]at ig Ff
  obtain⟨C,hC⟩:=Zy ((top+1).toNat-n.log.length)
  have Ax:Tq n r = { r with prop:=(List.range' n.log.length C).foldl (XJ n LL) r.prop,begun:=true }:=by
   unfold Tq;rw[hC,Ff,hLL]
  rw[Ax]
  have hu':=hu.symm
  simp -implicitDefEqProofs only[go_sem,↓reduceIte,f0,f1,f5,f12,YJ,P11]
  refine VS.ZV (fun F' g'=>Kp (XF i) o h o g'∧F' 0=.pointer (some ⟨nb,0,none⟩)∧F' 1=.pointer (some ⟨ra.rb,0,none⟩)∧F' 4=u∧F' 5=.int .i64 top∧ah o g' u LL∧∃k:Nat,k≤C∧F' 9=.int .i64 ((n.log.length+k:Nat):Int)∧ZJ o g' wb i nb { a with Zi:=some ra } { n with Zi:=some { r with prop:=(List.range' n.log.length k).foldl (XJ n LL) r.prop } })
   (fun F' _=>n.log.length+C-(vi (F' 9)).toNat) rfl ⟨ZE kg,f0,f1,hu',f5,ig,0,by omega,rfl,N1⟩ ?_
  rintro F2 g2 ⟨K2,f0,f1,f4,f5,ig,k,hk,f9,N2⟩
  obtain⟨pk,tO⟩:=Zy ((List.range' n.log.length k).foldl (XJ n LL) r.prop)
  rw[←tO]at N2
  have R2:YL o i g2 ra { r with prop:=pk }:=N2.pt.Zi
  obtain⟨_,_,_,q4,_⟩:=R2.rr
  have P2:=Zx N2.ZF.2 N2.pt.store.len
  have JR:=Za N2.ZF.2
  have DW:=Za R2.ZF.2
  by_cases hkc:k<C
  ·have hle:(((n.log.length+k:Nat):Int))≤top:=by omega
   have lk:=fun (K:Value→Hp→Prop)=>Yt (K:=K) (n:=((n.log.length+k:Nat):Int)) (c:=true) VN OD N2.pt.known.2
   rw[Xn]at lk
   have YA:(List.range' n.log.length (k+1)).foldl (XJ n LL) r.prop=XJ n LL pk (n.log.length+k):=by
    rw[List.range'_concat,List.foldl_append,←tO];simp
   cases hx:Yr n.known ((n.log.length+k:Nat):Int) with
   | some y=>
    have e6:XJ n LL pk (n.log.length+k)=pk:=by unfold XJ;rw[if_neg (by rw[hx];simp)]
    simp only[show ({ n with Zi:=some { r with prop:=pk } }:Nd).known=n.known from rfl,hx,Option.map_some,Option.getD_some,Option.isSome_some,↓reduceIte]at lk
    simp -implicitDefEqProofs only[go_sem,↓reduceIte,f0,f1,f4,f5,f9,hle,P2.known,lk,WU]
    have kx:=ZX K2.ZW (.cells y.C.toArray 49)
    unfold Y4
    refine⟨⟨K2.push _,f0,f1,f4,f5,ig.Zc kx,k+1,hkc,?_,by rw[YA,e6];exact N2.still kx⟩,?_⟩
    ·show Value.int .i64 _=Value.int .i64 _
     congr 1
    ·simp only[vi,Zk,↓reduceIte,f9];omega
   | none=>
    have e6:XJ n LL pk (n.log.length+k)=ins pk ((n.log.length+k:Nat):Int) (Sn LL ((n.log.length+k:Nat):Int)):=by unfold XJ;rw[if_pos hx]
    simp only[show ({ n with Zi:=some { r with prop:=pk } }:Nd).known=n.known from rfl,hx,Option.map_none,Option.getD_none,Option.isSome_none,↓reduceIte]at lk
    simp -implicitDefEqProofs only[go_sem,↓reduceIte,f0,f1,f4,f5,f9,hle,P2.known,lk]
    obtain⟨g3,ai⟩:=Zy (g2.push (.cells Ks.C.toArray 49):Hp)
    have kx:Kp Qz o g2 o g3:=by rw[ai];exact ZX K2.ZW _
    rw[←ai]
    have N3:=N2.still kx
    have R3:YL o i g3 ra { r with prop:=pk }:=N3.pt.Zi
    obtain⟨_,_,_,q43,_⟩:=R3.rr
    have Zoy:=Za R3.ZF.2
    have hv3:=ig.Zc kx
    have LLl:LL.length≤4611686018427387904:=by rw[hLL,Tw];omega
    refine VS.z (g3.size) [12] (.p 0 (.p 1 (.p 2 (.q 3 (.p 4 (.p 5 (.p 6 (.s 7 (.p 8 (.p 9 (.p 10 (.p 11 (.w 12 .nil))))))))))))) mixed (by kernel_rfl) ?_
    simp -implicitDefEqProofs only[go_sem,↓reduceIte,f0,f1,f4,f5,f9,q43,Zoy]
    refine (tM T g3 u LL ((n.log.length+k:Nat):Int) hv3.vss LLl).use ?_
    rintro _ g4 ⟨uc,b4⟩
    unfold Fa at uc
    subst uc
    have k4:=ZC kx.ZW b4
    have N4:=N3.still k4
    have R4:YL o i g4 ra { r with prop:=pk }:=N4.pt.Zi
    have eC:G9 (if WR ((n.log.length+k:Nat):Int) LL.flatten=0 then QW ((n.log.length+k:Nat):Int) LL.flatten else VX)=(Sn LL ((n.log.length+k:Nat):Int)).C:=by
     unfold Sn;split<;>rfl
    rw[eC]
    simp -implicitDefEqProofs only[go_sem,↓reduceIte,b4,f0,f1,f4,f5,f9]
    rw[XP VN R4.prop.2]
    obtain⟨k5,R5⟩:=R4.dg k4.ZW (k:=((n.log.length+k:Nat):Int)) (x:=Sn LL ((n.log.length+k:Nat):Int))
    have k5':Kp (XF i) o g4 o _:=k5.mono fun t q=>.inr (.inr (.inl q))
    simp -implicitDefEqProofs only[go_sem,↓reduceIte,f9]
    unfold Y4
    refine⟨⟨(K2.trans ((ZE kx).trans (ZE k4))).trans k5',f0,f1,f4,f5,(hv3.Zc k4).Zc k5',k+1,hkc,?_,?_⟩,?_⟩
    ·show Value.int .i64 _=Value.int .i64 _
     congr 1
    ·rw[YA,e6]
     exact⟨N4.ZF.Zc k5 (by intro e;cases e),ZU.Qr N4.pt k5' rfl rfl R5⟩
    ·simp only[vi,Zk,↓reduceIte,f9];omega
  ·have hgt:¬(((n.log.length+k:Nat):Int))≤top:=by omega
   obtain rfl:k=C:=by omega
   obtain⟨g4,w4,h4⟩:∃g4,Jx g2 ⟨ra.rb,3,none⟩ (.bool true)=some g4∧g4=g2.setIfInBounds ra.rb (.cells (A7 { r with prop:=pk,begun:=true } ra).toArray 169):=by
    refine⟨_,?_,rfl⟩
    rw[Yz R2.ZF.2,if_pos ⟨by simp[A7],rfl⟩];rfl
   simp -implicitDefEqProofs only[go_sem,↓reduceIte,f0,f1,f4,f5,f9,hgt,DW,w4]
   have kk:Kp (fun t=>t=.Zi i) o g2 o g4:=by rw[h4];exact (Kp.refl K2.ZW (fun t=>t=.Zi i)).set R2.ZF.1 rfl _
   have R4:YL o i g4 ra { r with prop:=pk,begun:=true }:=⟨⟨R2.ZF.1,by rw[h4];exact Zv R2.ZF.2⟩,R2.prom.Zc kk (by intro e;cases e),R2.So.Zc kk,R2.prop.Zc kk (by intro e;cases e),R2.Xt.Zc kk (by intro e;cases e),R2.VO.Zc kk (fun _ e=>by cases e),R2.keys⟩
   rw[←tO]
   refine⟨ra,rfl,K2.trans (kk.mono fun t q=>.inl q),N2.ZF.Zc kk (by intro e;cases e),ZU.Qr N2.pt (kk.mono fun t q=>.inl q) rfl rfl R4⟩
end Go.Proofs.YtpomedigibbeeaaGreatDoor
