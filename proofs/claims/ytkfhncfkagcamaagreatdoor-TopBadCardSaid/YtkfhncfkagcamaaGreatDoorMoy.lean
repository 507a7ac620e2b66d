/- A node is asked for a promise. -/
import Derived.Test.YtkfhncfkagcamaaGreatDoorMop
import Derived.Test.YtkfhncfkagcamaaGreatDoorOpn
namespace Go.Proofs.YtkfhncfkagcamaaGreatDoor
open Go Go.V
set_option linter.unusedSimpArgs false
set_option linter.unusedVariables false
set_option maxRecDepth 100000
theorem hQ (G:Hp) (X Y:Obj):((G.push X).push Y)[G.size]? = some X:=by rw[Zq (by simp),Zb]
theorem gs2 (G:Hp) (k:Nat) (X Y:Obj):((G.setIfInBounds k X).push Y)[G.size]? = some Y:=by
 have:=Zb (h:=G.setIfInBounds k X) (o:=Y);rwa [Array.size_setIfInBounds]at this
theorem jy (G:Hp) (X Y:Obj):((G.push X).push Y)[G.size+1]? = some Y:=by
 have:=Zb (h:=G.push X) (o:=Y);rwa [Array.size_push]at this
def di (B:Nat) (g':Hp) (A C:Value) (p:XO) (l:List Vt) (b:XO):Prop:=
 ∃ka kc w1 w2,A=Zn ka∧C=Zn kc∧B≤ka∧B≤kc∧g'[ka]? = some (.cells (YJ (if Yv p l b=0 then b else ⟨0,0⟩) w1).toArray 131)∧g'[kc]? = some (.cells [w2].toArray 129) ∧
  Jh B 161 Zm 8 g' w1 (if Yv p l b=0 then l else [])∧Jh B 161 Zm 8 g' w2 (if Yv p l b=0 then l else [])
def HI (B:Nat) (g':Hp) (A:Value) (l:List Nat) (n:Int) (E:Int) (add:List Nat):Prop:=
 ∃ka w,A=.pointer (some ⟨ka,0,none⟩)∧B≤ka∧g'[ka]? = some (.cells [w,.int .i64 (if E=0 then n else 0)].toArray 126)∧Z1 B 5 g' w (if E=0 then l++add else [])
set_option maxHeartbeats 1000000 in
theorem DS (T:World) (h:Hp) (o:Ow) (wb i nb:Nat) (Z7:Nat→Nat) (a:NA) (n:Nd) (YC:WA) (fl:List Y9) (bad:Nat→Int) (told:List Sd) (l:Y9) (w:Value) (d:Ug o h)
  (N:ZI o h wb i nb a n) (W:ZE o h wb Z7 YC fl bad told) (iv:Wc o h w l.vs) (Ym:fl.length≤1000000000000) (nz:n.own.l.length≤1000000) (gE:n.data.length≤1000000) (tb:Fb o h) :
  Zd Tryz.prog T 104 #[Zn wb,Zn nb,.agg (YS l w).toArray] h fun v' h'=>∃o' a' Xn,Kp (fun t=>t=.world∨t=.Zj∨t=.node i) o h o' h'∧ZI o' h' wb i nb a' (Y2 n l).n∧ZE o' h' wb Z7 Xn (fl++(Y2 n l).ls) bad told:=by
 obtain⟨pw,cw,rfl⟩:=iv.isSlice
 refine Zd.Zi (args:=[_,_,_]) Tryz.func104 rfl rfl rfl rfl ?_
 unfold Zn YS
 simp -implicitDefEqProofs only[go_sem,↓reduceIte]
 obtain⟨h1,YF⟩:=Zu (((h.push (.cells [Zn wb].toArray 117)).push (.cells [Zn nb].toArray 124)).push (.cells (YS l (.slice pw l.vs.length cw)).toArray 163):Hp)
 have k1:Kp JK o h o h1:=by rw[YF];exact ((Kp.refl d _).push _ |>.push _).push _
 have s1:h1.size=h.size+3:=by rw[YF];simp
 have d1:∀b,h.size≤b→o b=none:=d
 have x3:ZL o h1 h.size (.cells [Zn wb].toArray 117):=⟨d _ (by omega),by rw[YF,Zq (by simp;omega),hQ]⟩
 have x4:ZL o h1 (h.size+1) (.cells [Zn nb].toArray 124):=⟨d _ (by omega),by rw[YF,Zq (by simp),jy]⟩
 have x5:ZL o h1 (h.size+2) (.cells (YS l (.slice pw l.vs.length cw)).toArray 163):=⟨d _ (by omega),by
  have:=Zb (h:=(h.push (.cells [Zn wb].toArray 117)).push (.cells [Zn nb].toArray 124)) (o:=.cells (YS l (.slice pw l.vs.length cw)).toArray 163)
  rw[YF];simpa using this⟩
 have e0:((h.push (.cells [Zn wb].toArray 117)).push (.cells [Zn nb].toArray 124)).push (.cells (YS l (.slice pw l.vs.length cw)).toArray 163)=h1:=YF.symm
 unfold Zn YS at e0
 rw[e0]
 clear e0 YF
 have N1:=N.still k1
 have W1:=W.still k1
 have uJ:=iv.Zc k1
 have R1:=Zy N1.ZD.2 N1.pt.store.len
 have JF:=Za N1.ZD.2
 have l3:=Za x3.2
 have l4:=Za x4.2
 have l5:=Za x5.2
 have r3:hc h1 ⟨h.size,0,none⟩=some (Zn wb):=Zg x3.2
 have r4:hc h1 ⟨h.size+1,0,none⟩=some (Zn nb):=Zg x4.2
 have r53:rd h1 ⟨h.size+2,3,none⟩ 2=some [.int .i64 l.b.r,.int .i64 l.b.n]:=by rw[Z0 x5.2 (by simp[YS])];rfl
 have r51:hc h1 ⟨h.size+2,1,none⟩=some (.int .i64 l.Ju):=Zg x5.2
 unfold Zn at r3 r4
 have Kx:=R1.own
 obtain⟨pv,cv,DT⟩:=N1.pt.YL.isSlice
 rw[DT]at Kx
 have call:∀G,Ze h1.size h1 G→Zd Tryz.prog T 114 #[.agg #[.int .i64 n.own.p.r,.int .i64 n.own.p.n,.slice pv n.own.l.length cv],.agg #[.int .i64 l.b.r,.int .i64 l.b.n]] G fun v' h'=>EN G.size h' v' n.own.p n.own.l l.b∧Ze G.size G h':=fun G hG=>
  Tc T G n.own.p _ n.own.l l.b (by rw[←DT];exact N1.pt.YL.ts.Z4 hG) (by omega)
 obtain⟨E,hE⟩:=Zu (Yv n.own.p n.own.l l.b)
 have wA:∀(G:Hp) (k:Nat) (r m:Int) (p:Option Addr) (L c:Nat),G[k]? = some (.cells [.int .i64 0,.int .i64 0,.slice none 0 0].toArray 131)→wr G ⟨k,0,none⟩ [.int .i64 r,.int .i64 m,.slice p L c]=some (G.setIfInBounds k (.cells [.int .i64 r,.int .i64 m,.slice p L c].toArray 131)):=fun G k r m p L c hx=>by
  rw[ZP hx 0 _];rfl
 have wB:∀(G:Hp) (k:Nat) (p:Option Addr) (L c:Nat),G[k]? = some (.cells [.slice none 0 0].toArray 129)→Jn G ⟨k,0,none⟩ (.slice p L c)=some (G.setIfInBounds k (.cells [.slice p L c].toArray 129)):=fun G k p L c hx=>by
  rw[Yq hx 0 _];rfl
 refine VS.mono (N:=fun F' g'=>Ze h1.size h1 g'∧F' 3=.pointer (some ⟨h.size,0,none⟩)∧F' 4=.pointer (some ⟨h.size+1,0,none⟩)∧F' 5=.pointer (some ⟨h.size+2,0,none⟩)∧F' 8=.int .i64 E∧di h1.size g' (F' 6) (F' 7) n.own.p n.own.l l.b) ?_ ?_ (fun _ _ _ h=>h) (fun _ _ h=>h)
 ·refine VS.z (h1.size) [6,13,14] (.q 0 (.p 1 (.p 2 (.q 3 (.p 4 (.q 5 (.or 6 (.p 7 (.p 8 (.p 9 (.p 10 (.or 11 (.s 12 (.w 13 (.w 14 (.p 15 .nil)))) (.s 12 (.s 11 (.w 13 (.w 14 (.p 15 .nil)))))))))) (.or 11 (.or 6 (.p 7 (.p 8 (.p 9 (.p 10 (.s 12 (.w 13 (.w 14 (.p 15 .nil)))))))) (.s 12 (.w 6 (.p 7 (.p 8 (.p 9 (.p 10 (.w 13 (.w 14 (.p 15 .nil)))))))))) (.s 12 (.or 6 (.p 7 (.p 8 (.p 9 (.p 10 (.s 11 (.w 13 (.w 14 (.p 15 .nil)))))))) (.s 11 (.w 6 (.p 7 (.p 8 (.p 9 (.p 10 (.w 13 (.w 14 (.p 15 .nil))))))))))))))))))) mixed (by kernel_rfl) ?_
  simp -implicitDefEqProofs only[go_sem,↓reduceIte,r4,Kx,r53,JF,l4,l5]
  unfold di Zn YJ
  repeat' (first|with_reducible exact Ze.refl _ _|with_reducible exact Ze.push (by omega) _|with_reducible refine And.intro ?_ ?_)
  all_goals first
   | (refine (call h1 (Ze.refl _ _)).use ?_
      rintro _ g5 ⟨⟨w1,w2,rfl,o1,o2⟩,b5⟩
      obtain⟨p1,c1,rfl,_⟩:=o1.open
      obtain⟨p2,c2,rfl,_⟩:=o2.open
      rw[←hE]at *
      have s5:=b5.size
      unfold YJ
      simp -implicitDefEqProofs only[go_sem,↓reduceIte,b5]
      refine⟨⟨_,_,_,_,rfl,rfl,s5,by omega,hQ _ _ _,jy _ _ _,(o1.push _).push _,(o2.push _).push _⟩,⟨_,_,_,_,rfl,rfl,by omega,s5,jy _ _ _,hQ _ _ _,(o1.push _).push _,(o2.push _).push _⟩⟩)
   | (refine (call (h1.push (.cells _ 131)) (Ze.push (Nat.le_refl _) _)).use ?_
      rintro _ g5 ⟨⟨w1,w2,rfl,o1,o2⟩,b5⟩
      obtain⟨p1,c1,rfl,_⟩:=o1.open
      obtain⟨p2,c2,rfl,_⟩:=o2.open
      rw[←hE]at *
      have s5:=b5.size
      rw[Array.size_push]at s5
      have B5:Ze h1.size h1 g5:=(Ze.push (Nat.le_refl _) _).trans (b5.mono (by simp))
      have xA:=b5.get (k:=h1.size) (by simp) Zb
      have Tx:=wA _ _ (if E=0 then l.b else ⟨0,0⟩).r (if E=0 then l.b else ⟨0,0⟩).n p1 (if E=0 then n.own.l else []).length c1 xA
      have zA:=Za xA
      unfold YJ
      simp -implicitDefEqProofs only[go_sem,↓reduceIte,B5,Tx,zA]
      exact⟨_,_,_,_,rfl,rfl,Nat.le_refl _,by omega,by rw[Zq (by simpa using zA)];exact Zw xA,gs2 _ _ _ _,((o1.ZQ (by simp) _).push _).mono (by simp),((o2.ZQ (by simp) _).push _).mono (by simp)⟩)
   | (refine (call (h1.push (.cells _ 129)) (Ze.push (Nat.le_refl _) _)).use ?_
      rintro _ g5 ⟨⟨w1,w2,rfl,o1,o2⟩,b5⟩
      obtain⟨p1,c1,rfl,_⟩:=o1.open
      obtain⟨p2,c2,rfl,_⟩:=o2.open
      rw[←hE]at *
      have s5:=b5.size
      rw[Array.size_push]at s5
      have B5:Ze h1.size h1 g5:=(Ze.push (Nat.le_refl _) _).trans (b5.mono (by simp))
      have xB:=b5.get (k:=h1.size) (by simp) Zb
      have Kw:=wB _ _ p2 (if E=0 then n.own.l else []).length c2 xB
      have zB:=Za xB
      unfold YJ
      simp -implicitDefEqProofs only[go_sem,↓reduceIte,B5,Kw,zB]
      exact⟨_,_,_,_,rfl,rfl,by omega,Nat.le_refl _,gs2 _ _ _ _,by rw[Zq (by simpa using zB)];exact Zw xB,((o1.ZQ (by simp) _).push _).mono (by simp),((o2.ZQ (by simp) _).push _).mono (by simp)⟩)
   | (refine (call ((h1.push (.cells _ 131)).push (.cells _ 129)) ((Ze.push (Nat.le_refl _) _).Yg (by simp) _)).use ?_
      rintro _ g5 ⟨⟨w1,w2,rfl,o1,o2⟩,b5⟩
      obtain⟨p1,c1,rfl,_⟩:=o1.open
      obtain⟨p2,c2,rfl,_⟩:=o2.open
      rw[←hE]at *
      have s5:=b5.size
      rw[Array.size_push,Array.size_push]at s5
      have B5:Ze h1.size h1 g5:=((Ze.push (Nat.le_refl _) _).Yg (by simp) _).trans (b5.mono (by simp;omega))
      have xA:=b5.get (k:=h1.size) (by simp;omega) (hQ _ _ _)
      have xB:=b5.get (k:=h1.size+1) (by simp) (jy _ _ _)
      have Tx:=wA _ _ (if E=0 then l.b else ⟨0,0⟩).r (if E=0 then l.b else ⟨0,0⟩).n p1 (if E=0 then n.own.l else []).length c1 xA
      have zA:=Za xA
      have OU:=fun o:Obj=>(Yh (o:=o) (show h1.size≠h1.size+1 by omega)).trans xB
      have Kw:=fun o:Obj=>wB _ _ p2 (if E=0 then n.own.l else []).length c2 (OU o)
      have zB:h1.size+1<g5.size:=Za xB
      unfold YJ
      simp -implicitDefEqProofs only[go_sem,↓reduceIte,B5,Tx,zA,Kw,zB]
      exact⟨_,_,_,_,rfl,rfl,by omega,by omega,(Yh (by omega)).trans (Zw xA),Zw (OU _),((o1.ZQ (by simp;omega) _).ZQ (by simp) _).mono (by simp;omega),((o2.ZQ (by simp;omega) _).ZQ (by simp) _).mono (by simp;omega)⟩)
   | (refine (call ((h1.push (.cells _ 129)).push (.cells _ 131)) ((Ze.push (Nat.le_refl _) _).Yg (by simp) _)).use ?_
      rintro _ g5 ⟨⟨w1,w2,rfl,o1,o2⟩,b5⟩
      obtain⟨p1,c1,rfl,_⟩:=o1.open
      obtain⟨p2,c2,rfl,_⟩:=o2.open
      rw[←hE]at *
      have s5:=b5.size
      rw[Array.size_push,Array.size_push]at s5
      have B5:Ze h1.size h1 g5:=((Ze.push (Nat.le_refl _) _).Yg (by simp) _).trans (b5.mono (by simp;omega))
      have xB:=b5.get (k:=h1.size) (by simp;omega) (hQ _ _ _)
      have xA:=b5.get (k:=h1.size+1) (by simp) (jy _ _ _)
      have Tx:=wA _ _ (if E=0 then l.b else ⟨0,0⟩).r (if E=0 then l.b else ⟨0,0⟩).n p1 (if E=0 then n.own.l else []).length c1 xA
      have zA:=Za xA
      have OU:=fun o:Obj=>(Yh (o:=o) (show h1.size+1≠h1.size by omega)).trans xB
      have Kw:=fun o:Obj=>wB _ _ p2 (if E=0 then n.own.l else []).length c2 (OU o)
      have zB:h1.size<g5.size:=Za xB
      unfold YJ
      simp -implicitDefEqProofs only[go_sem,↓reduceIte,B5,Tx,zA,Kw,zB]
      exact⟨_,_,_,_,rfl,rfl,by omega,by omega,(Yh (by omega)).trans (Zw xA),Zw (OU _),((o1.ZQ (by simp) _).ZQ (by simp;omega) _).mono (by simp;omega),((o2.ZQ (by simp) _).ZQ (by simp;omega) _).mono (by simp;omega)⟩)
 ·rintro F1 g1 ⟨b1,f3,f4,f5,f8,ka,kc,w1,w2,fA,fC,ge1,ge2,yA,yC,o1,o2⟩
  rw[←hE]at yA o1 o2
  have kb:=Zs k1.ZV b1
  have N2:=N1.still kb
  have W2:=W1.still kb
  have K2:Kp JK o h o g1:=k1.Z4 b1
  have y3:=x3.Zc kb
  have y4:=x4.Zc kb
  have y5:=x5.Zc kb
  have jw:=uJ.Zc kb
  have Hb:=(tb.Zc k1).Zc kb
  have R2:=Zy N2.ZD.2 N2.pt.store.len
  have m3:=Za y3.2
  have m4:=Za y4.2
  have m5:=Za y5.2
  have JL:=Za N2.ZD.2
  have q3:hc g1 ⟨h.size,0,none⟩=some (Zn wb):=Zg y3.2
  have q4:hc g1 ⟨h.size+1,0,none⟩=some (Zn nb):=Zg y4.2
  have dj:rd g1 ⟨h.size+2,3,none⟩ 2=some [.int .i64 l.b.r,.int .i64 l.b.n]:=by rw[Z0 y5.2 (by simp[YS])];rfl
  have q51:hc g1 ⟨h.size+2,1,none⟩=some (.int .i64 l.Ju):=Zg y5.2
  unfold Zn at q3 q4
  have R2p:=R2.DM
  by_cases e:E=0
  case neg=>
   have eP:Y2 n l=⟨n,[⟨7,n.me,l.Ju,n.own.p,T9,[]⟩],[]⟩:=by unfold Y2;rw[←hE,if_pos e]
   rw[eP]
   simp -implicitDefEqProofs only[go_sem,↓reduceIte,f8,e]
   refine VS.z (g1.size) [10] (.q 0 (.q 1 (.p 2 (.q 3 (.q 4 (.p 5 (.p 6 (.p 7 (.q 8 (.p 9 (.w 10 .nil))))))))))) mixed (by kernel_rfl) ?_
   simp -implicitDefEqProofs only[go_sem,↓reduceIte,f3,f4,f5,q3,q4,q51,R2p,m3,m4,m5,JL]
   refine (UI T g1 o wb nb Z7 n.me YC fl bad told l.Ju ⟨7,0,0,n.own.p,T9,[]⟩ (.slice none 0 0) K2.ZV W2 R2.me JL (Im.nil _ _ _ _) Ym).use ?_
   rintro v' h' ⟨o',Xn,k,_,W'⟩
   simp -implicitDefEqProofs only[go_sem,↓reduceIte]
   exact⟨o',a,Xn,(ZC K2).trans (k.mono fun t q=>q.elim .inl fun q=>.inr (.inl q)),N2.Zc k (by rintro t (rfl|rfl)<;>simp[Tg.of]),W'⟩
  rw[if_pos e]at yA o1 o2
  have iv7:Wc o g1 w2 n.own.l:=Im.Qy o2.own (fun b hb=>k1.ZV b hb)
  have iv6:Wc o g1 w1 n.own.l:=Im.Qy o1.own (fun b hb=>k1.ZV b hb)
  unfold Zn at fA fC
  simp -implicitDefEqProofs only[go_sem,↓reduceIte,f8,e,f3,f4,f5,fC]
  obtain⟨g2,QD⟩:=Zu (g1.push (.cells [Wj 122 [h.size,h.size+1,h.size+2,kc]].toArray 1):Hp)
  have k2:=ZW K2.ZV (.cells [Wj 122 [h.size,h.size+1,h.size+2,kc]].toArray 1)
  rw[←QD]at k2
  have K3:Kp JK o h o g2:=K2.trans k2
  have x9:ZL o g2 g1.size (.cells [Wj 122 [h.size,h.size+1,h.size+2,kc]].toArray 1):=⟨K2.ZV _ (Nat.le_refl _),by rw[QD];exact Zb⟩
  have e2:g1.push (.cells [Wj 122 [h.size,h.size+1,h.size+2,kc]].toArray 1)=g2:=QD.symm
  unfold Wj at e2
  simp only[List.map]at e2
  unfold Zn at e2
  rw[e2]
  clear e2 QD
  have N3:=N2.still k2
  have W3:=W2.still k2
  have z3:=y3.Zc k2
  have z4:=y4.Zc k2
  have z5:=y5.Zc k2
  have z6:=(show ZL o g1 ka _ from⟨k1.ZV ka ge1,yA⟩).Zc k2
  have z7:=(show ZL o g1 kc _ from⟨k1.ZV kc ge2,yC⟩).Zc k2
  have iw7:=iv7.Zc k2
  have iw6:=iv6.Zc k2
  have sJ:=Hb.Zc k2
  clear R2 R2p m3 m4 m5 JL q3 q4 dj q51 R1 Kx JF l3 l4 l5 r3 r4 r53 r51
  have R3:=Zy N3.ZD.2 N3.pt.store.len
  have m3:=Za z3.2
  have m4:=Za z4.2
  have m5:=Za z5.2
  have m9:=Za x9.2
  have RM:=Za N3.ZD.2
  have q4:hc g2 ⟨h.size+1,0,none⟩=some (Zn nb):=Zg z4.2
  have dj:rd g2 ⟨h.size+2,3,none⟩ 2=some (X9 l.b):=by rw[Z0 z5.2 (by simp[YS])];rfl
  have q9:hc g2 ⟨g1.size,0,none⟩=some (Wj 122 [h.size,h.size+1,h.size+2,kc]):=Zg x9.2
  have R3p:rd g2 ⟨nb,4,none⟩ 2=some (X9 n.own.p):=R3.DM
  unfold Zn at q4
  refine VS.q mixed (by kernel_rfl) ?_
  simp -implicitDefEqProofs only[go_sem,↓reduceIte,f4,f5,q4,dj,R3p]
  by_cases ep:n.own.p=l.b
  ·have eP:Y2 n l=⟨n,[⟨1,n.me,l.Ju,l.b,T9,n.own.l⟩],[]⟩:=by unfold Y2;rw[←hE,if_neg (by omega),if_pos ep]
   rw[eP]
   unfold Wj at q9
   simp only[List.map]at q9
   unfold Zn at q9
   simp -implicitDefEqProofs only[go_sem,↓reduceIte,ep,q9]
   refine (df T g2 o wb nb Z7 n.me YC fl bad told h.size (h.size+1) (h.size+2) kc l _ w2 n.own.l K3.ZV W3 R3.me RM Ym z3 z4 z5 z7 iw7).use ?_
   rintro v' h' ⟨o',Xn,k,W'⟩
   simp -implicitDefEqProofs only[go_sem,↓reduceIte]
   exact⟨o',a,Xn,(ZC K3).trans (k.mono fun t q=>q.elim .inl fun q=>.inr (.inl q)),N3.Zc k (by rintro t (rfl|rfl)<;>simp[Tg.of]),W'⟩
  simp -implicitDefEqProofs only[go_sem,↓reduceIte,ep]
  have ov:=R3.tape
  obtain⟨pd,cd,Rg⟩:=N3.pt.data.1.isSlice
  rw[Rg]at ov
  obtain⟨E2,ib⟩:=Zu (Qv n.data n.Xs l.b)
  have call2:∀G,Ze g2.size g2 G→Zd Tryz.prog T 123 #[.agg #[.slice pd n.data.length cd,.int .i64 n.Xs],.agg #[.int .i64 l.b.r,.int .i64 l.b.n]] G fun v' h'=>Te G.size h' v' n.data n.Xs E2 (Y4 (Qw l.b))∧Ze G.size G h':=fun G hG=>by
   rw[ib]
   exact NS T G _ n.Xs n.data l.b (by rw[←Rg];exact N3.pt.data.bs.Z4 hG) (by omega) (sJ.tk.Js hG)
  have wT:∀(G:Hp) (k:Nat) (m:Int) (p:Option Addr) (L c:Nat),G[k]? = some (.cells [.slice none 0 0,.int .i64 0].toArray 126)→wr G ⟨k,0,none⟩ [.slice p L c,.int .i64 m]=some (G.setIfInBounds k (.cells [.slice p L c,.int .i64 m].toArray 126)):=fun G k m p L c hx=>by
   rw[ZP hx 0 _];rfl
  unfold X9 at dj
  refine VS.mono (N:=fun F' g'=>Ze g2.size g2 g'∧F' 3=.pointer (some ⟨h.size,0,none⟩)∧F' 4=.pointer (some ⟨h.size+1,0,none⟩)∧F' 5=.pointer (some ⟨h.size+2,0,none⟩)∧F' 6=.pointer (some ⟨ka,0,none⟩)∧F' 9=.pointer (some ⟨g1.size,0,none⟩)∧F' 8=.int .i64 E2∧HI g2.size g' (F' 10) n.data n.Xs E2 (Y4 (Qw l.b))) ?_ ?_ (fun _ _ _ h=>h) (fun _ _ h=>h)
  ·refine VS.z (g2.size) [6,11] (.q 0 (.p 1 (.p 2 (.q 3 (.p 4 (.q 5 (.or 6 (.p 7 (.p 8 (.p 9 (.s 10 (.w 11 (.p 12 .nil)))))) (.s 10 (.w 6 (.p 7 (.p 8 (.p 9 (.w 11 (.p 12 .nil)))))))))))))) mixed (by kernel_rfl) ?_
   simp -implicitDefEqProofs only[go_sem,↓reduceIte,f3,f4,f5,fA,q4,ov,dj,m4,m5,RM]
   unfold HI
   repeat' (first|with_reducible exact Ze.refl _ _|with_reducible exact Ze.push (by omega) _|with_reducible refine And.intro ?_ ?_)
   all_goals first
    | (refine (call2 g2 (Ze.refl _ _)).use ?_
       rintro _ g5 ⟨⟨w,rfl,o1⟩,b5⟩
       obtain⟨p1,c1,rfl,_⟩:=o1.bs.open
       have s5:=b5.size
       simp -implicitDefEqProofs only[go_sem,↓reduceIte,b5]
       exact⟨f3,f4,f5,fA,_,_,rfl,s5,Zb,o1.push _⟩)
    | (refine (call2 (g2.push (.cells _ 126)) (Ze.push (Nat.le_refl _) _)).use ?_
       rintro _ g5 ⟨⟨w,rfl,o1⟩,b5⟩
       obtain⟨p1,c1,rfl,_⟩:=o1.bs.open
       have B5:Ze g2.size g2 g5:=(Ze.push (Nat.le_refl _) _).trans (b5.mono (by simp))
       have xA:=b5.get (k:=g2.size) (by simp) Zb
       have Tx:=wT _ _ (if E2=0 then n.Xs else 0) p1 (if E2=0 then n.data++Y4 (Qw l.b) else []).length c1 xA
       have zA:=Za xA
       simp -implicitDefEqProofs only[go_sem,↓reduceIte,B5,Tx,zA]
       exact⟨f3,f4,f5,fA,_,_,rfl,Nat.le_refl _,Zw xA,(o1.ZQ (by simp) _).mono (by simp)⟩)
  ·rintro F2 g3 ⟨b3,f3,f4,f5,f6,f9,f8,kt,wt,fT,ge3,yT,oT⟩
   have We:=Zs K3.ZV b3
   have N4:=N3.still We
   have W4:=W3.still We
   have K4:Kp JK o h o g3:=K3.Z4 b3
   by_cases e2:E2=0
   case neg=>
    have eP:Y2 n l=⟨n,[],[]⟩:=by unfold Y2;rw[←hE,if_neg (by omega),if_neg ep,←ib,if_pos e2]
    rw[eP,List.append_nil]
    simp -implicitDefEqProofs only[go_sem,↓reduceIte,f8,e2]
    exact⟨o,a,YC,ZC K4,N4,W4⟩
   rw[if_pos e2]at yT oT
   have u3:=z3.Zc We
   have u4:=z4.Zc We
   have u5:=z5.Zc We
   have u6:=z6.Zc We
   have u7:=z7.Zc We
   have u9:=x9.Zc We
   have iu6:=iw6.Zc We
   have iu7:=iw7.Zc We
   have iT:Ti o g3 wt (n.data++Y4 (Qw l.b)):=⟨Im.Qy oT.own (fun b hb=>K3.ZV b hb),oT.byte⟩
   have eP:Y2 n l=⟨{ n with data:=n.data++Y4 (Qw l.b),ZT:=some (.G8 ⟨l.b,n.own.l⟩ l.Ju l.b n.own.l) },[],[]⟩:=by unfold Y2;rw[←hE,if_neg (by omega),if_neg ep,←ib,if_neg (by omega)]
   rw[eP,List.append_nil]
   clear R3 m3 m4 m5 m9 RM q4 dj q9 R3p ov
   obtain⟨pt,ct,rfl,_⟩:=oT.bs.open
   have q4:hc g3 ⟨h.size+1,0,none⟩=some (Zn nb):=Zg u4.2
   have qT:rd g3 ⟨kt,0,none⟩ 2=some [.slice pt (n.data++Y4 (Qw l.b)).length ct,.int .i64 n.Xs]:=Zo yT rfl
   have Mt:=Za N4.ZD.2
   obtain⟨g4,w4,N5,k5⟩:=ZS.write (a:={ a with data:=.slice pt (n.data++Y4 (Qw l.b)).length ct }) (n:={ n with data:=n.data++Y4 (Qw l.b) }) { N4.pt with data:=iT } K4.ZV N4.ZD ((YO N4.ZD.2 N4.pt.store.len).tape (.slice pt (n.data++Y4 (Qw l.b)).length ct) n.Xs rfl)
   have v4:=u4.Zc k5
   have q4':hc g4 ⟨h.size+1,0,none⟩=some (Zn nb):=Zg v4.2
   have RN:=Za N5.ZD.2
   have pn:Uf o g4 wb i nb a.Zl (Wj 124 [ka,h.size+1,g1.size]) (some (.G8 ⟨l.b,n.own.l⟩ l.Ju l.b n.own.l)):=
    ⟨ka,h.size+1,g1.size,_,rfl,⟨_,u6.Zc k5,iu6.Zc k5⟩,v4,u9.Zc k5,h.size,h.size+1,h.size+2,kc,l,_,w2,rfl,u3.Zc k5,v4,u5.Zc k5,rfl,rfl,u7.Zc k5,iu7.Zc k5⟩
   obtain⟨g6,w6,N6,k6⟩:=ZS.write (a:={ a with data:=.slice pt (n.data++Y4 (Qw l.b)).length ct,ZT:=Wj 124 [ka,h.size+1,g1.size] }) (n:={ n with data:=n.data++Y4 (Qw l.b),ZT:=some (.G8 ⟨l.b,n.own.l⟩ l.Ju l.b n.own.l) }) { N5.pt with ZT:=pn } k5.ZV N5.ZD ((YO N5.ZD.2 N5.pt.store.len).ZT (Wj 124 [ka,h.size+1,g1.size]) rfl)
   unfold Wj at w6
   simp only[List.map]at w6
   unfold Zn at q4 q4' w6
   simp -implicitDefEqProofs only[go_sem,↓reduceIte,f8,e2,f4,f6,f9,fT,q4,qT,w4,Mt,q4',w6,RN]
   have K6:Kp (fun t=>t=.world∨t=.Zj∨t=.node i) o h o g6:=((ZC K4).trans (k5.mono fun t q=>.inr (.inr q))).trans (k6.mono fun t q=>.inr (.inr q))
   exact⟨o,_,YC,K6,N6,(W4.Zc k5 (by rintro t rfl;simp[Tg.of])).Zc k6 (by rintro t rfl;simp[Tg.of])⟩
def xS (B:Nat) (g':Hp) (A:Value) (p:XO) (l:List Vt) (x:Vt):Prop:=
 ∃ka w,A=.pointer (some ⟨ka,0,none⟩)∧B≤ka∧g'[ka]? = some (.cells (YJ (if YX p l x=0 then x.b else ⟨0,0⟩) w).toArray 131)∧Jh B 161 Zm 8 g' w (if YX p l x=0 then QF l x else [])
set_option maxHeartbeats 1000000 in
theorem oy (T:World) (h:Hp) (o:Ow) (wb i nb:Nat) (Z7:Nat→Nat) (a:NA) (n:Nd) (YC:WA) (fl:List Y9) (bad:Nat→Int) (told:List Sd) (l:Y9) (w:Value) (d:Ug o h)
  (N:ZI o h wb i nb a n) (W:ZE o h wb Z7 YC fl bad told) (iv:Wc o h w l.vs) (Ym:fl.length≤1000000000000) (nz:n.own.l.length≤1000000) (gE:n.data.length≤1000000) (tb:Fb o h) :
  Zd Tryz.prog T 106 #[Zn wb,Zn nb,.agg (YS l w).toArray] h fun v' h'=>∃o' a' Xn,Kp (fun t=>t=.world∨t=.Zj∨t=.node i) o h o' h'∧ZI o' h' wb i nb a' (asked n l).n∧ZE o' h' wb Z7 Xn (fl++(asked n l).ls) bad told:=by
 obtain⟨pw,cw,rfl⟩:=iv.isSlice
 refine Zd.Zi (args:=[_,_,_]) Tryz.func106 rfl rfl rfl rfl ?_
 unfold Zn YS
 simp -implicitDefEqProofs only[go_sem,↓reduceIte]
 obtain⟨h1,YF⟩:=Zu (((h.push (.cells [Zn wb].toArray 117)).push (.cells [Zn nb].toArray 124)).push (.cells (YS l (.slice pw l.vs.length cw)).toArray 163):Hp)
 have k1:Kp JK o h o h1:=by rw[YF];exact ((Kp.refl d _).push _ |>.push _).push _
 have s1:h1.size=h.size+3:=by rw[YF];simp
 have d1:∀b,h.size≤b→o b=none:=d
 have x3:ZL o h1 h.size (.cells [Zn wb].toArray 117):=⟨d _ (by omega),by rw[YF,Zq (by simp;omega),hQ]⟩
 have x4:ZL o h1 (h.size+1) (.cells [Zn nb].toArray 124):=⟨d _ (by omega),by rw[YF,Zq (by simp),jy]⟩
 have x5:ZL o h1 (h.size+2) (.cells (YS l (.slice pw l.vs.length cw)).toArray 163):=⟨d _ (by omega),by
  have:=Zb (h:=(h.push (.cells [Zn wb].toArray 117)).push (.cells [Zn nb].toArray 124)) (o:=.cells (YS l (.slice pw l.vs.length cw)).toArray 163)
  rw[YF];simpa using this⟩
 have e0:((h.push (.cells [Zn wb].toArray 117)).push (.cells [Zn nb].toArray 124)).push (.cells (YS l (.slice pw l.vs.length cw)).toArray 163)=h1:=YF.symm
 unfold Zn YS at e0
 rw[e0]
 clear e0 YF
 have N1:=N.still k1
 have W1:=W.still k1
 have uJ:=iv.Zc k1
 have R1:=Zy N1.ZD.2 N1.pt.store.len
 have JF:=Za N1.ZD.2
 have l3:=Za x3.2
 have l4:=Za x4.2
 have l5:=Za x5.2
 have r3:hc h1 ⟨h.size,0,none⟩=some (Zn wb):=Zg x3.2
 have r4:hc h1 ⟨h.size+1,0,none⟩=some (Zn nb):=Zg x4.2
 have r53:rd h1 ⟨h.size+2,5,none⟩ 8=some (Zm l.v):=by rw[Z0 x5.2 (by simp[YS])];rfl
 have r51:hc h1 ⟨h.size+2,1,none⟩=some (.int .i64 l.Ju):=Zg x5.2
 unfold Zn at r3 r4
 have Kx:=R1.own
 obtain⟨pv,cv,DT⟩:=N1.pt.YL.isSlice
 rw[DT]at Kx
 unfold Zm at r53
 have call:∀G,Ze h1.size h1 G→Zd Tryz.prog T 116 #[.agg #[.int .i64 n.own.p.r,.int .i64 n.own.p.n,.slice pv n.own.l.length cv],.agg (Zm l.v).toArray] G fun v' h'=>cV G.size h' v' n.own.p n.own.l l.v∧Ze G.size G h':=fun G hG=>
  OP T G n.own.p _ n.own.l l.v (by rw[←DT];exact N1.pt.YL.ts.Z4 hG) (by omega)
 unfold Zm at call
 obtain⟨E,hE⟩:=Zu (YX n.own.p n.own.l l.v)
 have wA:∀(G:Hp) (k:Nat) (r m:Int) (p:Option Addr) (L c:Nat),G[k]? = some (.cells [.int .i64 0,.int .i64 0,.slice none 0 0].toArray 131)→wr G ⟨k,0,none⟩ [.int .i64 r,.int .i64 m,.slice p L c]=some (G.setIfInBounds k (.cells [.int .i64 r,.int .i64 m,.slice p L c].toArray 131)):=fun G k r m p L c hx=>by
  rw[ZP hx 0 _];rfl
 refine VS.mono (N:=fun F' g'=>Ze h1.size h1 g'∧F' 3=.pointer (some ⟨h.size,0,none⟩)∧F' 4=.pointer (some ⟨h.size+1,0,none⟩)∧F' 5=.pointer (some ⟨h.size+2,0,none⟩)∧F' 7=.int .i64 E∧xS h1.size g' (F' 6) n.own.p n.own.l l.v) ?_ ?_ (fun _ _ _ h=>h) (fun _ _ h=>h)
 ·refine VS.z (h1.size) [6,11] (.q 0 (.p 1 (.p 2 (.q 3 (.p 4 (.q 5 (.or 6 (.p 7 (.p 8 (.p 9 (.s 10 (.w 11 (.p 12 .nil)))))) (.s 10 (.w 6 (.p 7 (.p 8 (.p 9 (.w 11 (.p 12 .nil)))))))))))))) mixed (by kernel_rfl) ?_
  simp -implicitDefEqProofs only[go_sem,↓reduceIte,r4,Kx,r53,JF,l4,l5]
  unfold xS YJ
  repeat' (first|with_reducible exact Ze.refl _ _|with_reducible exact Ze.push (by omega) _|with_reducible refine And.intro ?_ ?_)
  all_goals first
   | (refine (call h1 (Ze.refl _ _)).use ?_
      rintro _ g5 ⟨⟨w1,rfl,o1⟩,b5⟩
      obtain⟨p1,c1,rfl,_⟩:=o1.open
      rw[←hE]at *
      have s5:=b5.size
      unfold YJ
      simp -implicitDefEqProofs only[go_sem,↓reduceIte,b5]
      exact⟨_,_,rfl,s5,Zb,o1.push _⟩)
   | (refine (call (h1.push (.cells _ 131)) (Ze.push (Nat.le_refl _) _)).use ?_
      rintro _ g5 ⟨⟨w1,rfl,o1⟩,b5⟩
      obtain⟨p1,c1,rfl,_⟩:=o1.open
      rw[←hE]at *
      have B5:Ze h1.size h1 g5:=(Ze.push (Nat.le_refl _) _).trans (b5.mono (by simp))
      have xA:=b5.get (k:=h1.size) (by simp) Zb
      have Tx:=wA _ _ (if E=0 then l.v.b else ⟨0,0⟩).r (if E=0 then l.v.b else ⟨0,0⟩).n p1 (if E=0 then QF n.own.l l.v else []).length c1 xA
      have zA:=Za xA
      unfold YJ
      simp -implicitDefEqProofs only[go_sem,↓reduceIte,B5,Tx,zA]
      exact⟨_,_,rfl,Nat.le_refl _,Zw xA,(o1.ZQ (by simp) _).mono (by simp)⟩)
 ·rintro F1 g1 ⟨b1,f3,f4,f5,f8,ka,w1,fA,ge1,yA,o1⟩
  rw[←hE]at yA o1
  have kb:=Zs k1.ZV b1
  have N2:=N1.still kb
  have W2:=W1.still kb
  have K2:Kp JK o h o g1:=k1.Z4 b1
  have y3:=x3.Zc kb
  have y4:=x4.Zc kb
  have y5:=x5.Zc kb
  have jw:=uJ.Zc kb
  have Hb:=(tb.Zc k1).Zc kb
  have R2:=Zy N2.ZD.2 N2.pt.store.len
  have m3:=Za y3.2
  have m4:=Za y4.2
  have m5:=Za y5.2
  have JL:=Za N2.ZD.2
  have q3:hc g1 ⟨h.size,0,none⟩=some (Zn wb):=Zg y3.2
  have q4:hc g1 ⟨h.size+1,0,none⟩=some (Zn nb):=Zg y4.2
  have q51:hc g1 ⟨h.size+2,1,none⟩=some (.int .i64 l.Ju):=Zg y5.2
  unfold Zn at q3 q4
  have R2p:=R2.DM
  by_cases e:E=0
  case neg=>
   have eP:asked n l=⟨n,[⟨7,n.me,l.Ju,n.own.p,T9,[]⟩],[]⟩:=by unfold asked;rw[←hE,if_pos e]
   rw[eP]
   simp -implicitDefEqProofs only[go_sem,↓reduceIte,f8,e]
   refine VS.z (g1.size) [10] (.q 0 (.q 1 (.p 2 (.q 3 (.q 4 (.p 5 (.p 6 (.p 7 (.q 8 (.p 9 (.w 10 .nil))))))))))) mixed (by kernel_rfl) ?_
   simp -implicitDefEqProofs only[go_sem,↓reduceIte,f3,f4,f5,q3,q4,q51,R2p,m3,m4,m5,JL]
   refine (UI T g1 o wb nb Z7 n.me YC fl bad told l.Ju ⟨7,0,0,n.own.p,T9,[]⟩ (.slice none 0 0) K2.ZV W2 R2.me JL (Im.nil _ _ _ _) Ym).use ?_
   rintro v' h' ⟨o',Xn,k,_,W'⟩
   simp -implicitDefEqProofs only[go_sem,↓reduceIte]
   exact⟨o',a,Xn,(ZC K2).trans (k.mono fun t q=>q.elim .inl fun q=>.inr (.inl q)),N2.Zc k (by rintro t (rfl|rfl)<;>simp[Tg.of]),W'⟩
  rw[if_pos e]at yA o1
  have iv6:Wc o g1 w1 (QF n.own.l l.v):=Im.Qy o1.own (fun b hb=>k1.ZV b hb)
  simp -implicitDefEqProofs only[go_sem,↓reduceIte,f8,e,f3,f4,f5]
  obtain⟨g2,QD⟩:=Zu (g1.push (.cells [Wj 127 [h.size,h.size+1,h.size+2]].toArray 1):Hp)
  have k2:=ZW K2.ZV (.cells [Wj 127 [h.size,h.size+1,h.size+2]].toArray 1)
  rw[←QD]at k2
  have K3:Kp JK o h o g2:=K2.trans k2
  have x9:ZL o g2 g1.size (.cells [Wj 127 [h.size,h.size+1,h.size+2]].toArray 1):=⟨K2.ZV _ (Nat.le_refl _),by rw[QD];exact Zb⟩
  have e2:g1.push (.cells [Wj 127 [h.size,h.size+1,h.size+2]].toArray 1)=g2:=QD.symm
  unfold Wj at e2
  simp only[List.map]at e2
  unfold Zn at e2
  rw[e2]
  clear e2 QD
  have N3:=N2.still k2
  have W3:=W2.still k2
  have z3:=y3.Zc k2
  have z4:=y4.Zc k2
  have z5:=y5.Zc k2
  have z6:=(show ZL o g1 ka _ from⟨k1.ZV ka ge1,yA⟩).Zc k2
  have iw6:=iv6.Zc k2
  have sJ:=Hb.Zc k2
  clear R2 R2p m3 m4 m5 JL q3 q4 q51 R1 Kx JF l3 l4 l5 r3 r4 r53 r51
  have R3:=Zy N3.ZD.2 N3.pt.store.len
  have m3:=Za z3.2
  have m4:=Za z4.2
  have m5:=Za z5.2
  have m9:=Za x9.2
  have RM:=Za N3.ZD.2
  have q4:hc g2 ⟨h.size+1,0,none⟩=some (Zn nb):=Zg z4.2
  have dj:rd g2 ⟨h.size+2,5,none⟩ 8=some (Zm l.v):=by rw[Z0 z5.2 (by simp[YS])];rfl
  have q9:hc g2 ⟨g1.size,0,none⟩=some (Wj 127 [h.size,h.size+1,h.size+2]):=Zg x9.2
  have R3v:=R3.YL
  have N3v:=N3.pt.YL
  unfold Zn at q4
  unfold Zm at dj
  refine VS.mono (N:=fun F' g'=>Ze g2.size g2 g'∧F' 3=.pointer (some ⟨h.size,0,none⟩)∧F' 4=.pointer (some ⟨h.size+1,0,none⟩)∧F' 5=.pointer (some ⟨h.size+2,0,none⟩)∧F' 6=.pointer (some ⟨ka,0,none⟩)∧F' 8=.pointer (some ⟨g1.size,0,none⟩)∧F' 41=.bool (decide (l.v∈n.own.l))) ?_ ?_ (fun _ _ _ h=>h) (fun _ _ h=>h)
  ·refine VS.z (g2.size) [7] (.q 0 (.p 1 (.p 2 (.p 3 (.q 4 (.p 5 (.q 6 (.w 7 .nil)))))))) mixed (by kernel_rfl) ?_
   simp -implicitDefEqProofs only[go_sem,↓reduceIte,f3,f4,f5,fA,q4,dj,R3v,m4,m5,RM]
   have cv:=IM T g2 a.YL n.own.l l.v N3v.ts (by omega)
   unfold Zm at cv
   refine cv.use ?_
   rintro _ g5 ⟨rfl,b5⟩
   simp -implicitDefEqProofs only[go_sem,↓reduceIte,b5,f3,f4,f5,fA]
  rintro F1' ag ⟨sV,f3,f4,f5,fA,f9,f41⟩
  have SW:=Zs K3.ZV sV
  replace N3:=N3.still SW
  replace W3:=W3.still SW
  replace K3:=K3.trans SW
  replace z3:=z3.Zc SW
  replace z4:=z4.Zc SW
  replace z5:=z5.Zc SW
  replace z6:=z6.Zc SW
  replace iw6:=iw6.Zc SW
  replace sJ:=sJ.Zc SW
  replace x9:=x9.Zc SW
  clear R3 m3 m4 m5 m9 RM q4 dj q9 R3v N3v
  have R3:=Zy N3.ZD.2 N3.pt.store.len
  have m3:=Za z3.2
  have m4:=Za z4.2
  have m5:=Za z5.2
  have m9:=Za x9.2
  have RM:=Za N3.ZD.2
  have q4:hc ag ⟨h.size+1,0,none⟩=some (Zn nb):=Zg z4.2
  have dj:rd ag ⟨h.size+2,5,none⟩ 8=some (Zm l.v):=by rw[Z0 z5.2 (by simp[YS])];rfl
  have q9:hc ag ⟨g1.size,0,none⟩=some (Wj 127 [h.size,h.size+1,h.size+2]):=Zg x9.2
  unfold Zn at q4
  by_cases ep:l.v∈n.own.l
  ·have eP:asked n l=⟨n,[⟨3,n.me,l.Ju,JI,l.v,[]⟩],[]⟩:=by unfold asked;rw[←hE,if_neg (by omega),if_pos ep]
   rw[eP]
   unfold Wj at q9
   simp only[List.map]at q9
   unfold Zn at q9
   simp -implicitDefEqProofs only[go_sem,↓reduceIte,f41,ep,f9,q9]
   refine (dg T ag o wb nb Z7 n.me YC fl bad told h.size (h.size+1) (h.size+2) l _ K3.ZV W3 R3.me RM Ym z3 z4 z5).use ?_
   rintro v' h' ⟨o',Xn,k,W'⟩
   simp -implicitDefEqProofs only[go_sem,↓reduceIte]
   exact⟨o',a,Xn,(ZC K3).trans (k.mono fun t q=>q.elim .inl fun q=>.inr (.inl q)),N3.Zc k (by rintro t (rfl|rfl)<;>simp[Tg.of]),W'⟩
  simp -implicitDefEqProofs only[go_sem,↓reduceIte,f41,ep]
  have ov:=R3.tape
  obtain⟨pd,cd,Rg⟩:=N3.pt.data.1.isSlice
  rw[Rg]at ov
  obtain⟨E2,ib⟩:=Zu (Un n.data n.Xs l.v)
  have call2:∀G,Ze ag.size ag G→Zd Tryz.prog T 129 #[.agg #[.slice pd n.data.length cd,.int .i64 n.Xs],.agg (Zm l.v).toArray] G fun v' h'=>Te G.size h' v' n.data n.Xs E2 (Y4 (SU l.v))∧Ze G.size G h':=fun G hG=>by
   rw[ib]
   exact nF T G _ n.Xs n.data l.v (by rw[←Rg];exact N3.pt.data.bs.Z4 hG) (by omega) (sJ.tk.Js hG)
  have wT:∀(G:Hp) (k:Nat) (m:Int) (p:Option Addr) (L c:Nat),G[k]? = some (.cells [.slice none 0 0,.int .i64 0].toArray 126)→wr G ⟨k,0,none⟩ [.slice p L c,.int .i64 m]=some (G.setIfInBounds k (.cells [.slice p L c,.int .i64 m].toArray 126)):=fun G k m p L c hx=>by
   rw[ZP hx 0 _];rfl
  unfold Zm at dj call2
  refine VS.mono (N:=fun F' g'=>Ze ag.size ag g'∧F' 3=.pointer (some ⟨h.size,0,none⟩)∧F' 4=.pointer (some ⟨h.size+1,0,none⟩)∧F' 5=.pointer (some ⟨h.size+2,0,none⟩)∧F' 6=.pointer (some ⟨ka,0,none⟩)∧F' 8=.pointer (some ⟨g1.size,0,none⟩)∧F' 7=.int .i64 E2∧HI ag.size g' (F' 9) n.data n.Xs E2 (Y4 (SU l.v))) ?_ ?_ (fun _ _ _ h=>h) (fun _ _ h=>h)
  ·refine VS.z (ag.size) [6,11] (.q 0 (.p 1 (.p 2 (.q 3 (.p 4 (.q 5 (.or 6 (.p 7 (.p 8 (.p 9 (.s 10 (.w 11 (.p 12 .nil)))))) (.s 10 (.w 6 (.p 7 (.p 8 (.p 9 (.w 11 (.p 12 .nil)))))))))))))) mixed (by kernel_rfl) ?_
   simp -implicitDefEqProofs only[go_sem,↓reduceIte,f3,f4,f5,fA,f9,q4,ov,dj,m4,m5,RM]
   unfold HI
   repeat' (first|with_reducible exact Ze.refl _ _|with_reducible exact Ze.push (by omega) _|with_reducible refine And.intro ?_ ?_)
   all_goals first
    | (refine (call2 ag (Ze.refl _ _)).use ?_
       rintro _ g5 ⟨⟨w,rfl,o1⟩,b5⟩
       obtain⟨p1,c1,rfl,_⟩:=o1.bs.open
       have s5:=b5.size
       simp -implicitDefEqProofs only[go_sem,↓reduceIte,b5]
       exact⟨f3,f4,f5,fA,f9,_,_,rfl,s5,Zb,o1.push _⟩)
    | (refine (call2 (ag.push (.cells _ 126)) (Ze.push (Nat.le_refl _) _)).use ?_
       rintro _ g5 ⟨⟨w,rfl,o1⟩,b5⟩
       obtain⟨p1,c1,rfl,_⟩:=o1.bs.open
       have B5:Ze ag.size ag g5:=(Ze.push (Nat.le_refl _) _).trans (b5.mono (by simp))
       have xA:=b5.get (k:=ag.size) (by simp) Zb
       have Tx:=wT _ _ (if E2=0 then n.Xs else 0) p1 (if E2=0 then n.data++Y4 (SU l.v) else []).length c1 xA
       have zA:=Za xA
       simp -implicitDefEqProofs only[go_sem,↓reduceIte,B5,Tx,zA]
       exact⟨f3,f4,f5,fA,f9,_,_,rfl,Nat.le_refl _,Zw xA,(o1.ZQ (by simp) _).mono (by simp)⟩)
  ·rintro F2 g3 ⟨b3,f3,f4,f5,f6,f9,f8,kt,wt,fT,ge3,yT,oT⟩
   have We:=Zs K3.ZV b3
   have N4:=N3.still We
   have W4:=W3.still We
   have K4:Kp JK o h o g3:=K3.Z4 b3
   by_cases e2:E2=0
   case neg=>
    have eP:asked n l=⟨n,[],[]⟩:=by unfold asked;rw[←hE,if_neg (by omega),if_neg ep,←ib,if_pos e2]
    rw[eP,List.append_nil]
    simp -implicitDefEqProofs only[go_sem,↓reduceIte,f8,e2]
    exact⟨o,a,YC,ZC K4,N4,W4⟩
   rw[if_pos e2]at yT oT
   have u3:=z3.Zc We
   have u4:=z4.Zc We
   have u5:=z5.Zc We
   have u6:=z6.Zc We
   have u9:=x9.Zc We
   have iu6:=iw6.Zc We
   have iT:Ti o g3 wt (n.data++Y4 (SU l.v)):=⟨Im.Qy oT.own (fun b hb=>K3.ZV b hb),oT.byte⟩
   have eP:asked n l=⟨{ n with data:=n.data++Y4 (SU l.v),ZT:=some (.G9 ⟨l.v.b,QF n.own.l l.v⟩ l.Ju l.v) },[],[]⟩:=by unfold asked;rw[←hE,if_neg (by omega),if_neg ep,←ib,if_neg (by omega)]
   rw[eP,List.append_nil]
   clear R3 m3 m4 m5 m9 RM q4 dj q9 ov
   obtain⟨pt,ct,rfl,_⟩:=oT.bs.open
   have q4:hc g3 ⟨h.size+1,0,none⟩=some (Zn nb):=Zg u4.2
   have qT:rd g3 ⟨kt,0,none⟩ 2=some [.slice pt (n.data++Y4 (SU l.v)).length ct,.int .i64 n.Xs]:=Zo yT rfl
   have Mt:=Za N4.ZD.2
   obtain⟨g4,w4,N5,k5⟩:=ZS.write (a:={ a with data:=.slice pt (n.data++Y4 (SU l.v)).length ct }) (n:={ n with data:=n.data++Y4 (SU l.v) }) { N4.pt with data:=iT } K4.ZV N4.ZD ((YO N4.ZD.2 N4.pt.store.len).tape (.slice pt (n.data++Y4 (SU l.v)).length ct) n.Xs rfl)
   have v4:=u4.Zc k5
   have q4':hc g4 ⟨h.size+1,0,none⟩=some (Zn nb):=Zg v4.2
   have RN:=Za N5.ZD.2
   have pn:Uf o g4 wb i nb a.Zl (Wj 130 [ka,h.size+1,g1.size]) (some (.G9 ⟨l.v.b,QF n.own.l l.v⟩ l.Ju l.v)):=
    ⟨ka,h.size+1,g1.size,_,rfl,⟨_,u6.Zc k5,iu6.Zc k5⟩,v4,u9.Zc k5,h.size,h.size+1,h.size+2,l,_,rfl,u3.Zc k5,v4,u5.Zc k5,rfl,rfl⟩
   obtain⟨g6,w6,N6,k6⟩:=ZS.write (a:={ a with data:=.slice pt (n.data++Y4 (SU l.v)).length ct,ZT:=Wj 130 [ka,h.size+1,g1.size] }) (n:={ n with data:=n.data++Y4 (SU l.v),ZT:=some (.G9 ⟨l.v.b,QF n.own.l l.v⟩ l.Ju l.v) }) { N5.pt with ZT:=pn } k5.ZV N5.ZD ((YO N5.ZD.2 N5.pt.store.len).ZT (Wj 130 [ka,h.size+1,g1.size]) rfl)
   unfold Wj at w6
   simp only[List.map]at w6
   unfold Zn at q4 q4' w6
   simp -implicitDefEqProofs only[go_sem,↓reduceIte,f8,e2,f4,f6,f9,fT,q4,qT,w4,Mt,q4',w6,RN]
   have K6:Kp (fun t=>t=.world∨t=.Zj∨t=.node i) o h o g6:=((ZC K4).trans (k5.mono fun t q=>.inr (.inr q))).trans (k6.mono fun t q=>.inr (.inr q))
   exact⟨o,_,YC,K6,N6,(W4.Zc k5 (by rintro t rfl;simp[Tg.of])).Zc k6 (by rintro t rfl;simp[Tg.of])⟩
theorem QL.Xe {o:Ow} {i:Nat} {h:Hp} {sv:List (Int × Nat)} {vt:List (Int × List (Int × Unit))} (s:QL o i h sv vt) (k:Int):(Go.V.Xe sv k=none∧Go.V.Xe vt k=none)∨∃b l,Go.V.Xe sv k=some b∧Go.V.Xe vt k=some l∧Qf o (.Th i k) h b (Ms l):=by
 induction s with
 | nil=>exact .inl ⟨rfl,rfl⟩
 | @cons a b l m Gi _ ih=>
  obtain⟨a1,a2⟩:=a
  obtain⟨b1,b2⟩:=b
  obtain⟨rfl,h2⟩:=Gi
  unfold Go.V.Xe
  by_cases q:a1=k
  ·rw[if_pos q,if_pos q];subst q;exact .inr ⟨_,_,rfl,rfl,h2⟩
  ·rw[if_neg q,if_neg q];exact ih
theorem QL.add {o:Ow} {i:Nat} {h:Hp} {k:Int} {b:Nat} {l:List (Int × Unit)} (hb:Qf o (.Th i k) h b (Ms l)):∀{sv:List (Int × Nat)} {vt:List (Int × List (Int × Unit))},QL o i h sv vt→Go.V.Xe sv k=none→QL o i h (ins sv k b) (ins vt k l):=by
 intro sv vt s
 induction s with
 | nil=>intro _;exact .cons ⟨rfl,hb⟩ .nil
 | @cons a b l m Gi _ ih=>
  intro hn
  obtain⟨a1,a2⟩:=a
  obtain⟨b1,b2⟩:=b
  obtain⟨rfl,h2⟩:=Gi
  unfold Go.V.Xe at hn
  split at hn
  ·cases hn
  ·rename_i q
   unfold ins
   rw[if_neg q,if_neg q]
   exact .cons ⟨rfl,h2⟩ (ih hn)
theorem QL.put {o:Ow} {i:Nat} {h h':Hp} {k:Int} {b:Nat} {l':List (Int × Unit)} (kp:Kp (fun t=>t=.Th i k) o h o h') (hb:Qf o (.Th i k) h' b (Ms l')):∀{sv:List (Int × Nat)} {vt:List (Int × List (Int × Unit))},QL o i h sv vt→(sv.map (·.1)).Nodup→Go.V.Xe sv k=some b→QL o i h' sv (ins vt k l'):=by
 intro sv vt s
 induction s with
 | nil=>intro _ h;cases h
 | @cons a c l m Gi tl ih=>
  intro hn hl
  obtain⟨a1,a2⟩:=a
  obtain⟨b1,b2⟩:=c
  obtain⟨h1,h2⟩:=Gi
  simp only at h1 h2
  subst h1
  simp only[List.map_cons,List.nodup_cons]at hn
  unfold Go.V.Xe at hl
  unfold ins
  by_cases q:a1=k
  ·rw[if_pos q]at hl ⊢
   subst q
   obtain rfl:=Option.some.inj hl
   refine .cons ⟨rfl,hb⟩ ?_
   have key:∀{l:List (Int × Nat)} {m:List (Int × List (Int × Unit))},QL o i h l m→a1 ∉ l.map (·.1)→QL o i h' l m:=by
    intro l m s
    induction s with
    | nil=>intro _;exact .nil
    | @cons x y l m hxy _ ih2=>
     intro hn
     simp only[List.map_cons,List.mem_cons,not_or]at hn
     exact .cons ⟨hxy.1,hxy.2.Zc kp (by intro e;cases e;exact hn.1 hxy.1.symm)⟩ (ih2 hn.2)
   exact key tl hn.1
  ·rw[if_neg q]at hl ⊢
   exact .cons ⟨rfl,h2.Zc kp (by intro e;cases e;exact q rfl)⟩ (ih hn.2 hl)
theorem DU {β:Type}:∀{l:List (Int × β)} {k:Int} {v:β},(l.map (·.1)).Nodup→((ins l k v).map (·.1)).Nodup∧∀x,x∈(ins l k v).map (·.1)→x=k∨x∈l.map (·.1):=by
 intro l
 induction l with
 | nil=>intro k v _;exact⟨by simp[ins],fun x hx=>by simp[ins]at hx;exact .inl hx⟩
 | cons a l ih=>
  intro k v hn
  obtain⟨a1,a2⟩:=a
  simp only[List.map_cons,List.nodup_cons]at hn
  unfold ins
  by_cases q:a1=k
  ·rw[if_pos q]
   exact⟨by simp only[List.map_cons,List.nodup_cons];exact hn,fun x hx=>.inr hx⟩
  ·rw[if_neg q]
   obtain⟨h1,h2⟩:=ih (k:=k) (v:=v) hn.2
   refine⟨?_,fun x hx=>?_⟩
   ·simp only[List.map_cons,List.nodup_cons]
    exact⟨fun hm=>(h2 _ hm).elim q hn.1,h1⟩
   ·simp only[List.map_cons,List.mem_cons]at hx ⊢
    rcases hx with hx|hx
    ·exact .inr (.inl hx)
    ·exact (h2 _ hx).elim .inl fun q=>.inr (.inr q)
theorem uK {β:Type}:∀(l:List (Int × β)) (k:Int) (u v:β),ins (ins l k u) k v=ins l k v:=by
 intro l
 induction l with
 | nil=>intro k u v;unfold ins;simp[ins]
 | cons a l ih=>
  intro k u v
  obtain⟨a1,a2⟩:=a
  have h1:∀(x:Int) (y z:β) (m:List (Int × β)),ins ((x,y) :: m) k z=if x=k then (x,z) :: m else (x,y) :: ins m k z:=fun _ _ _ _=>rfl
  rw[h1,h1]
  by_cases q:a1=k
  ·rw[if_pos q,if_pos q,h1,if_pos q]
  ·rw[if_neg q,if_neg q,h1,if_neg q,ih]
theorem YG.oB {o:Ow} {i:Nat} {h:Hp} {ra:RA} {r:Qn} (s:YG o i h ra r) (d:Ug o h) {k:Int} {b:Nat} {l l':List (Int × Unit)} (hl:Xe ra.sv k=some b) (hb:Qf o (.Th i k) h b (Ms l)) :
  Kp (fun t=>t=.Th i k) o h o (h.setIfInBounds b (Xi (Ms l')))∧YG o i (h.setIfInBounds b (Xi (Ms l'))) ra { r with Jv:=ins r.Jv k l' }:=by
 have kk:Kp (fun t=>t=.Th i k) o h o (h.setIfInBounds b (Xi (Ms l'))):=(Kp.refl d (fun t=>t=.Th i k)).set hb.1 rfl _
 exact⟨kk,s.ZD.Zc kk (by intro e;cases e),s.prom.Zc kk (by intro e;cases e),s.Si.Zc kk,s.prop.Zc kk (by intro e;cases e),s.Jv.Zc kk (by intro e;cases e),QL.put kk ⟨hb.1,Zw hb.2⟩ s.Tj s.keys hl,s.keys⟩
def ic (i:Nat) (t:Tg):Prop:=QA i t∨XA i t
set_option maxHeartbeats 1000000 in
theorem Mc (T:World) (h:Hp) (o:Ow) (wb i nb:Nat) (Z7:Nat→Nat) (a:NA) (n:Nd) (YC:WA) (fl:List Y9) (bad:Nat→Int) (told:List Sd) (l:Y9) (w:Value) (d:Ug o h)
  (N:ZI o h wb i nb a n) (W:ZE o h wb Z7 YC fl bad told) (iv:Wc o h w l.vs) (hk:n.known.length≤100000000000) (hl:n.log.length≤100000000000) (ht:told.length≤100000000000) (hq:n.queue.length≤1000000000000) (hw:n.waiting.length≤1000000000000)
  (hv:∀r s,n.Zl=some r→((Xe r.Jv s).getD []).length≤1000000) :
  Zd Tryz.prog T 105 #[Zn wb,Zn nb,.agg (YS l w).toArray] h fun v' h'=>∃o' a' Xn,Kp (ic i) o h o' h'∧ZI o' h' wb i nb a' (YB n l).n∧ZE o' h' wb Z7 Xn fl bad (told++(YB n l).ts):=by
 obtain⟨pw,cw,rfl⟩:=iv.isSlice
 refine Zd.Zi (args:=[_,_,_]) Tryz.func105 rfl rfl rfl rfl ?_
 unfold Zn YS
 have Vf:=Za N.ZD.2
 have R:=Zy N.ZD.2 N.pt.store.len
 obtain⟨h1,YF⟩:=Zu (h.push (.cells (YS l (.slice pw l.vs.length cw)).toArray 163):Hp)
 have k1:Kp JK o h o h1:=by rw[YF];exact ZW d _
 have x5:ZL o h1 h.size (.cells (YS l (.slice pw l.vs.length cw)).toArray 163):=⟨d _ (Nat.le_refl _),by rw[YF];exact Zb⟩
 have e0:=YF.symm
 unfold YS at e0
 have N1:=N.still k1
 have W1:=W.still k1
 have uJ:=iv.Zc k1
 have R1:=Zy N1.ZD.2 N1.pt.store.len
 have JF:=Za N1.ZD.2
 have m5:=Za x5.2
 have q0:hc h1 ⟨h.size,0,none⟩=some (.int .i64 l.kind):=Zg x5.2
 have q1:hc h1 ⟨h.size,1,none⟩=some (.int .i64 l.Ju):=Zg x5.2
 have q3:rd h1 ⟨h.size,3,none⟩ 2=some (X9 l.b):=by rw[Z0 x5.2 (by simp[YS])];rfl
 have q5:hc h1 ⟨h.size,5,none⟩=some (.int .i64 l.v.slot):=Zg x5.2
 have q6:rd h1 ⟨h.size,6,none⟩ 2=some (X9 l.v.b):=by rw[Z0 x5.2 (by simp[YS])];rfl
 have q13:hc h1 ⟨h.size,13,none⟩=some (.slice pw l.vs.length cw):=Zg x5.2
 have DW:=N1.pt.Zl
 have qI:=R.Zl
 cases hr:n.Zl with
 | none=>
  cases uL:a.Zl with
  | some ra=>rw[hr,uL]at DW;exact DW.elim
  | none=>
   have eP:YB n l=⟨n,[],[]⟩:=by unfold YB;rw[hr]
   rw[uL]at qI
   unfold RL at qI
   rw[eP,List.append_nil]
   simp -implicitDefEqProofs only[go_sem,↓reduceIte,qI]
   rw[e0]
   exact⟨o,a,YC,ZC k1,N1,W1⟩
 | some r=>
  cases uL:a.Zl with
  | none=>rw[hr,uL]at DW;exact DW.elim
  | some ra=>
   rw[hr,uL]at DW
   have RG:YG o i h1 ra r:=DW
   rw[uL]at qI
   unfold RL Zn at qI
   have mrb:=Za RG.ZD.2
   have rr0:rd h1 ⟨ra.rb,0,none⟩ 2=some (X9 r.b):=by rw[Z0 RG.ZD.2 (by simp[ad])];rfl
   have rr2:hc h1 ⟨ra.rb,2,none⟩=some (.map (some ra.pb)):=Zg RG.ZD.2
   have rr5:hc h1 ⟨ra.rb,5,none⟩=some (.map (some ra.vb)):=Zg RG.ZD.2
   by_cases c1:l.kind=1
   ·have c1b:=eq_true c1
    simp -implicitDefEqProofs only[go_sem,↓reduceIte,qI,c1b]
    rw[e0]
    refine VS.q mixed (by kernel_rfl) ?_
    simp -implicitDefEqProofs only[go_sem,↓reduceIte,q3,rr0]
    by_cases c2:l.b=r.b
    ·have eP:YB n l=⟨ZaC n r l,[],[]⟩:=by unfold YB;rw[hr];simp only;rw[if_pos c1,if_pos c2]
     rw[eP,List.append_nil]
     have xV:=eq_true c2
     simp -implicitDefEqProofs only[go_sem,↓reduceIte,xV]
     refine VS.z (h1.size) [8] (.p 0 (.p 1 (.p 2 (.q 3 (.p 4 (.q 5 (.p 6 (.q 7 (.w 8 .nil))))))))) mixed (by kernel_rfl) ?_
     simp -implicitDefEqProofs only[go_sem,↓reduceIte,rr2,q1,q13,mrb,m5]
     rw[XN NX RG.prom.2]
     simp -implicitDefEqProofs only[go_sem,↓reduceIte]
     obtain⟨k2,R2⟩:=RG.dh k1.ZV (k:=l.Ju) uJ
     refine⟨o,{ a with Zl:=some { ra with pv:=ins ra.pv l.Ju (.slice pw l.vs.length cw) } },YC,(ZC k1).trans (k2.mono fun t q=>.inr (.inr (.inl q))),⟨?_,?_⟩,W1.Zc k2 (by rintro t rfl;simp[Tg.of])⟩
     ·have:=N1.ZD.Zc k2 (by intro e;cases e)
      rw[←Mb (some { r with prom:=ins r.prom l.Ju l.vs }) uL (ra':={ ra with pv:=ins ra.pv l.Ju (.slice pw l.vs.length cw) }) rfl]at this
      exact this
     ·exact ZS.Qg N1.pt (k2.mono fun t q=>.inr (.inl q)) uL rfl R2
    ·have eP:YB n l=⟨n,[],[]⟩:=by unfold YB;rw[hr];simp only;rw[if_pos c1,if_neg c2]
     rw[eP,List.append_nil]
     simp -implicitDefEqProofs only[go_sem,↓reduceIte,c2]
     exact⟨o,a,YC,ZC k1,N1,W1⟩
   ·simp -implicitDefEqProofs only[go_sem,↓reduceIte,qI,c1]
    rw[e0]
    refine VS.q mixed (by kernel_rfl) ?_
    simp -implicitDefEqProofs only[go_sem,↓reduceIte,q6,rr0]
    by_cases c2:l.v.b=r.b
    case neg=>
     have eP:YB n l=⟨n,[],[]⟩:=by unfold YB;rw[hr];simp only;rw[if_neg c1,if_pos c2]
     rw[eP,List.append_nil]
     simp -implicitDefEqProofs only[go_sem,↓reduceIte,c2]
     exact⟨o,a,YC,ZC k1,N1,W1⟩
    have eP:YB n l=if 5<2*(TE r l).length then Uu (Mr n r l) l.v.slot l.v.cm else ⟨Mr n r l,[],[]⟩:=by unfold YB;rw[hr];simp only;rw[if_neg c1,if_neg (fun q=>q c2)]
    rw[eP]
    have hvr:=hv r l.v.slot hr
    have xV:=eq_true c2
    have lk:=fun (K:Value→Hp→Prop)=>Yn (K:=K) (n:=l.v.slot) (c:=false) Kr HC RG.Jv.2
    rw[Xh]at lk
    obtain⟨S,hS⟩:=Zu ((Xe r.Jv l.v.slot).getD [])
    have hlen:S.length≤1000000:=by rw[hS];exact hvr
    have NA1:ZI o h1 wb i nb { a with Zl:=some ra } { n with Zl:=some r }:=by
     have e1:({ a with Zl:=some ra }:NA)=a:=by rw[←uL]
     have e2:({ n with Zl:=some r }:Nd)=n:=by rw[←hr]
     rw[e1,e2];exact N1
    have KG:Kp (ic i) o h o h1:=ZC k1
    have uM:=qI
    rcases RG.Tj.Xe l.v.slot with⟨e1,e2⟩|⟨sb,S',e1,e2,xt⟩
    ·have hS0:S=[]:=by rw[hS,e2];rfl
     rw[e1]at lk
     simp only[Option.map_none,Option.getD_none,Bool.false_eq_true,if_false]at lk
     -- Tq new set
     obtain⟨h2,Wb⟩:=Zu (h1.push (Xi []):Hp)
     have eh2:h1.push (.map #[] 0)=h2:=Wb.symm
     have k2a:Kp (XA i) o h1 (Jt o h1.size (.Th i l.v.slot)) h2:=by
      rw[Wb];exact ((Kp.refl k1.ZV _).push _).TT (Nat.le_refl _) (by simp) (.inr (.inr (.inr (.inr ⟨_,rfl⟩))))
     have kx:Kp JK o h1 o h2:=by rw[Wb];exact ZW k1.ZV _
     have RGx:=RG.Zc kx (fun _ _ q=>q)
     have lo:∀b,b<h1.size→Jt o h1.size (.Th i l.v.slot) b=o b:=fun b hb=>Y0 (by omega)
     obtain⟨o2,qw⟩:=Zu (Jt o h1.size (.Th i l.v.slot))
     rw[←qw]at k2a lo
     have uN:YG o2 i h2 ra r:=by
      have lt:∀{b:Nat} {x:Obj},h1[b]? = some x→b<h1.size:=Za
      refine⟨⟨(lo _ (Za RG.ZD.2)).trans RG.ZD.1,RGx.ZD.2⟩,⟨(lo _ (Za RG.prom.2)).trans RG.prom.1,RGx.prom.2⟩,RG.Si.Zc k2a,⟨(lo _ (Za RG.prop.2)).trans RG.prop.1,RGx.prop.2⟩,⟨(lo _ (Za RG.Jv.2)).trans RG.Jv.1,RGx.Jv.2⟩,?_,RG.keys⟩
      have key:∀{sv:List (Int × Nat)} {vt:List (Int × List (Int × Unit))},QL o i h1 sv vt→QL o2 i h2 sv vt:=by
       intro sv vt s
       induction s with
       | nil=>exact .nil
       | cons x _ ih=>exact .cons ⟨x.1,⟨(lo _ (Za x.2.2)).trans x.2.1,(x.2.Zc kx id).2⟩⟩ ih
      exact key RG.Tj
     have ms:Qf o2 (.Th i l.v.slot) h2 h1.size (Ms []):=⟨by rw[qw];exact YV,by rw[Wb];exact Zb⟩
     have ZAi:ra.rb<h2.size:=by have:=kx.size;omega
     simp -implicitDefEqProofs only[go_sem,↓reduceIte,qI,xV,q5,rr5,lk,qF]
     rw[eh2,XN Kr uN.Jv.2]
     obtain⟨G,hG⟩:=Zu (h2.setIfInBounds ra.vb (Xi (ins (Ul qF ra.sv) l.v.slot (.map (some h1.size)))))
     rw[←hG]
     obtain⟨A0,ZaM⟩:∃A0:RA,A0 = { ra with sv:=ins ra.sv l.v.slot h1.size }:=⟨_,rfl⟩
     have kk:Kp (fun t=>t=.Jv i) o2 h2 o2 G:=by rw[hG];exact (Kp.refl k2a.ZV (fun t=>t=.Jv i)).set uN.Jv.1 rfl _
     have RGG:YG o2 i G A0 { r with Jv:=ins r.Jv l.v.slot [] }:=by
      rw[ZaM]
      refine⟨uN.ZD.Zc kk (by intro e;cases e),uN.prom.Zc kk (by intro e;cases e),uN.Si.Zc kk,uN.prop.Zc kk (by intro e;cases e),⟨uN.Jv.1,?_⟩,(QL.add ms uN.Tj e1).Zc kk (fun _ e=>by cases e),(DU RG.keys).1⟩
      show G[ra.vb]? = some (Xi (Ul qF (ins ra.sv l.v.slot h1.size)))
      rw[hG,Zw uN.Jv.2,TQ];rfl
     have k2b:Kp (XA i) o h1 o2 G:=k2a.trans (kk.mono fun t q=>.inr (.inr (.inr (.inl q))))
     have DX:A0.rb=ra.rb:=by rw[ZaM]
     have NG:ZI o2 G wb i nb { a with Zl:=some A0 } { n with Zl:=some { r with Jv:=ins r.Jv l.v.slot [] } }:=by
      refine⟨?_,ZS.Qg NA1.pt k2b rfl DX RGG⟩
      have:=NA1.ZD.Zc k2b (by rintro (q|q|q|q|⟨_,q⟩)<;>cases q)
      rw[show Y8 { n with Zl:=some { r with Jv:=ins r.Jv l.v.slot [] } } { a with Zl:=some A0 } = Y8 { n with Zl:=some r } { a with Zl:=some ra } from by unfold Y8 Uw RL;simp only[DX]]
      exact this
     have WG:=W1.Zc k2b (by intro t q;rw[OR q];simp)
     have XG:=x5.Zc k2b
     have KG2:Kp (ic i) o h o2 G:=(ZC k1).trans (k2b.mono fun t q=>.inr q)
     have LKS:Xe A0.sv l.v.slot=some h1.size:=by rw[ZaM];simp[bO]
     have SB:Qf o2 (.Th i l.v.slot) G h1.size (Ms S):=by rw[hS0];exact ms.Zc kk (by intro e;cases e)
     have Q5:hc G ⟨h.size,5,none⟩=some (.int .i64 l.v.slot):=Zg XG.2
     have Q1:hc G ⟨h.size,1,none⟩=some (.int .i64 l.Ju):=Zg XG.2
     have RR5:hc G ⟨ra.rb,5,none⟩=some (.map (some A0.vb)):=by rw[←DX];exact Zg RGG.ZD.2
     have MRB:ra.rb<G.size:=by rw[←DX];exact Za RGG.ZD.2
     have M5:=Za XG.2
     have LK:=fun (K:Value→Hp→Prop)=>Yn (K:=K) (n:=l.v.slot) (c:=false) Kr HC RGG.Jv.2
     rw[Xh]at LK
     simp only[LKS,Option.map_some,Option.getD_some,Bool.false_eq_true,if_false,qF]at LK
     simp -implicitDefEqProofs only[go_sem,↓reduceIte]
     refine VS.z (G.size) [9] (.p 0 (.p 1 (.p 2 (.q 3 (.p 4 (.p 6 (.q 7 (.p 8 (.s 5 (.w 9 .nil)))))))))) mixed (by kernel_rfl) ?_
     simp -implicitDefEqProofs only[go_sem,↓reduceIte,uM,xV,Q5,Q1,RR5,LK,MRB,M5]
     rw[XN Hz SB.2]
     obtain⟨k2,uO⟩:=RGG.oB KG2.ZV (l':=ins S l.Ju ()) LKS SB
     rw[show Xi (ins (Ms S) l.Ju (.agg #[]))=Xi (Ms (ins S l.Ju ())) from by unfold Ms;rw[TQ]]
     obtain⟨g2,QD⟩:=Zu (G.setIfInBounds h1.size (Xi (Ms (ins S l.Ju ()))))
     rw[←QD]at k2 uO ⊢
     have eV:({ r with Jv:=ins r.Jv l.v.slot (TE r l) }:Qn) = { ({ r with Jv:=ins r.Jv l.v.slot [] }:Qn) with Jv:=ins (ins r.Jv l.v.slot []) l.v.slot (ins S l.Ju ()) }:=by unfold TE;rw[hS,uK]
     have K2:Kp (ic i) o2 G o2 g2:=k2.mono fun t q=>.inr (.inr (.inr (.inr (.inr ⟨_,q⟩))))
     have N2:ZI o2 g2 wb i nb { a with Zl:=some A0 } (Mr n r l):=by
      refine⟨?_,?_⟩
      ·have:=NG.ZD.Zc k2 (by intro e;cases e)
       exact this
      ·have:=ZS.Qg NG.pt (k2.mono fun t q=>.inr (.inr (.inr (.inr ⟨_,q⟩)))) rfl rfl uO
       unfold Mr
       rw[eV]
       exact this
     have W2:=WG.Zc k2 (by rintro t rfl;simp[Tg.of])
     have x2:=XG.Zc k2
     have p0:rd g2 ⟨h.size,8,none⟩ 5=some l.v.cm.C:=by rw[Z0 x2.2 (by simp[YS])];rfl
     have p5:hc g2 ⟨A0.rb,5,none⟩=some (.map (some A0.vb)):=Zg uO.ZD.2
     rw[DX]at p5
     have p6:=fun (K:Value→Hp→Prop)=>Yn (K:=K) (n:=l.v.slot) (c:=false) Kr HC uO.Jv.2
     rw[Xh]at p6
     simp only[LKS,Option.map_some,Option.getD_some,Bool.false_eq_true,if_false]at p6
     have SB2:Qf o2 (.Th i l.v.slot) g2 h1.size (Ms (ins S l.Ju ())):=⟨SB.1,by rw[QD];exact Zw SB.2⟩
     have p7:=fun (K:Value→Hp→Prop) (cs:Array Bool) (ty:TypeId)=>VX (T:=T) (K:=K) (ty:=ty) (cs:=cs) Hz SB2.2
     have p8:(Ms (ins S l.Ju ())).length=(TE r l).length:=by unfold Ms TE;rw[No,hS]
     rw[p8]at p7
     simp -implicitDefEqProofs only[go_sem,↓reduceIte,uM,xV,p5,p6,p7,qF]
     refine (MO T g2 (TE r l).length (by unfold TE;rw[←hS,Rx];split<;>omega)).use ?_
     rintro _ _ ⟨rfl,rfl⟩
     by_cases c3:5<2*(TE r l).length
     ·rw[if_pos c3]
      simp -implicitDefEqProofs only[go_sem,↓reduceIte,c3,p0]
      refine (Kv T _ o2 wb i nb Z7 _ _ YC fl bad told l.v.slot l.v.cm k2.ZV N2 W2 hk hl ht hq hw).use ?_
      rintro v' h' ⟨o',a',Xn,kl,N',W'⟩
      simp -implicitDefEqProofs only[go_sem,↓reduceIte]
      exact⟨o',a',Xn,(KG2.trans K2).trans (kl.mono fun t q=>.inl q),N',W'⟩
     ·rw[if_neg c3,List.append_nil]
      simp -implicitDefEqProofs only[go_sem,↓reduceIte,c3]
      exact⟨o2,_,YC,KG2.trans K2,N2,W2⟩
    ·have hS0:S=S':=by rw[hS,e2];rfl
     subst hS0
     rw[e1]at lk
     simp only[Option.map_some,Option.getD_some,Bool.false_eq_true,if_false]at lk
     simp -implicitDefEqProofs only[go_sem,↓reduceIte,xV,q5,rr5,lk,qF,qI]
     have Vd:=fun (K:Value→Hp→Prop)=>Yn (K:=K) (n:=l.v.slot) (c:=false) Kr HC RG.Jv.2
     rw[Xh]at Vd
     simp only[e1,Option.map_some,Option.getD_some,Bool.false_eq_true,if_false,qF]at Vd
     refine VS.z (h1.size) [9] (.p 0 (.p 1 (.p 2 (.q 3 (.p 4 (.p 6 (.q 7 (.p 8 (.s 5 (.w 9 .nil)))))))))) mixed (by kernel_rfl) ?_
     simp -implicitDefEqProofs only[go_sem,↓reduceIte,uM,xV,q5,q1,rr5,Vd,mrb,m5]
     rw[XN Hz xt.2]
     obtain⟨k2,uO⟩:=RG.oB KG.ZV (l':=ins S l.Ju ()) e1 xt
     rw[show Xi (ins (Ms S) l.Ju (.agg #[]))=Xi (Ms (ins S l.Ju ())) from by unfold Ms;rw[TQ]]
     obtain⟨g2,QD⟩:=Zu (h1.setIfInBounds sb (Xi (Ms (ins S l.Ju ()))))
     rw[←QD]at k2 uO ⊢
     have eV:({ r with Jv:=ins r.Jv l.v.slot (TE r l) }:Qn) = { r with Jv:=ins r.Jv l.v.slot (ins S l.Ju ()) }:=by unfold TE;rw[hS]
     have K2:Kp (ic i) o h1 o g2:=k2.mono fun t q=>.inr (.inr (.inr (.inr (.inr ⟨_,q⟩))))
     have N2:ZI o g2 wb i nb { a with Zl:=some ra } (Mr n r l):=by
      refine⟨?_,?_⟩
      ·have:=NA1.ZD.Zc k2 (by intro e;cases e)
       exact this
      ·have:=ZS.Qg NA1.pt (k2.mono fun t q=>.inr (.inr (.inr (.inr ⟨_,q⟩)))) rfl rfl uO
       unfold Mr
       rw[eV]
       exact this
     have W2:=W1.Zc k2 (by rintro t rfl;simp[Tg.of])
     have x2:=x5.Zc k2
     have p0:rd g2 ⟨h.size,8,none⟩ 5=some l.v.cm.C:=by rw[Z0 x2.2 (by simp[YS])];rfl
     have p5:hc g2 ⟨ra.rb,5,none⟩=some (.map (some ra.vb)):=Zg uO.ZD.2
     have p6:=fun (K:Value→Hp→Prop)=>Yn (K:=K) (n:=l.v.slot) (c:=false) Kr HC uO.Jv.2
     rw[Xh]at p6
     simp only[e1,Option.map_some,Option.getD_some,Bool.false_eq_true,if_false]at p6
     have SB2:Qf o (.Th i l.v.slot) g2 sb (Ms (ins S l.Ju ())):=⟨xt.1,by rw[QD];exact Zw xt.2⟩
     have p7:=fun (K:Value→Hp→Prop) (cs:Array Bool) (ty:TypeId)=>VX (T:=T) (K:=K) (ty:=ty) (cs:=cs) Hz SB2.2
     have p8:(Ms (ins S l.Ju ())).length=(TE r l).length:=by unfold Ms TE;rw[No,hS]
     rw[p8]at p7
     simp -implicitDefEqProofs only[go_sem,↓reduceIte,uM,xV,p5,p6,p7,qF]
     refine (MO T g2 (TE r l).length (by unfold TE;rw[←hS,Rx];split<;>omega)).use ?_
     rintro _ _ ⟨rfl,rfl⟩
     by_cases c3:5<2*(TE r l).length
     ·rw[if_pos c3]
      simp -implicitDefEqProofs only[go_sem,↓reduceIte,c3,p0]
      refine (Kv T _ o wb i nb Z7 _ _ YC fl bad told l.v.slot l.v.cm k2.ZV N2 W2 hk hl ht hq hw).use ?_
      rintro v' h' ⟨o',a',Xn,kl,N',W'⟩
      simp -implicitDefEqProofs only[go_sem,↓reduceIte]
      exact⟨o',a',Xn,(KG.trans K2).trans (kl.mono fun t q=>.inl q),N',W'⟩
     ·rw[if_neg c3,List.append_nil]
      simp -implicitDefEqProofs only[go_sem,↓reduceIte,c3]
      exact⟨o,_,YC,KG.trans K2,N2,W2⟩
def Xw (i:Nat) (t:Tg):Prop:=t=.world∨t=.Zj∨t=.told∨t.of=some i
theorem Ky {i:Nat} {t:Tg} (h:QA i t):Xw i t:=by
 rcases h with rfl|rfl|rfl|rfl|rfl|rfl|rfl<;>simp[Xw,Tg.of]
theorem DY {i:Nat} {t:Tg} (h:ic i t):Xw i t:=h.elim Ky fun q=>.inr (.inr (.inr (OR q)))
theorem DZ (T:World) (h:Hp) (o:Ow) (wb i nb:Nat) (a:NA) (n:Nd) (l:Y9) (w:Value) (d:Ug o h) (N:ZI o h wb i nb a n) (iv:Wc o h w l.vs) :
  Zd Tryz.prog T 110 #[Zn wb,Zn nb,.agg (YS l w).toArray] h fun v' h'=>Kp (fun t=>t=.node i) o h o h'∧ZI o h' wb i nb a (notes n l):=by
 obtain⟨pw,cw,rfl⟩:=iv.isSlice
 refine Zd.Zi (args:=[_,_,_]) Tryz.func110 rfl rfl rfl rfl ?_
 unfold Zn YS
 have e0:∃h1:Hp,h1=h.push (.cells (YS l (.slice pw l.vs.length cw)).toArray 163):=⟨_,rfl⟩
 obtain⟨h1,YF⟩:=e0
 have k1:Kp JK o h o h1:=by rw[YF];exact ZW d _
 have x5:ZL o h1 h.size (.cells (YS l (.slice pw l.vs.length cw)).toArray 163):=⟨d _ (Nat.le_refl _),by rw[YF];exact Zb⟩
 have e0:=YF.symm
 unfold YS at e0
 have N1:=N.still k1
 have R1:=Zy N1.ZD.2 N1.pt.store.len
 have JF:=Za N1.ZD.2
 have m5:=Za x5.2
 have q3:rd h1 ⟨h.size,3,none⟩ 2=some (X9 l.b):=by rw[Z0 x5.2 (by simp[YS])];rfl
 have r7:rd h1 ⟨nb,7,none⟩ 2=some (X9 n.heard):=R1.heard
 simp -implicitDefEqProofs only[go_sem,↓reduceIte]
 rw[e0]
 refine VS.mono (N:=fun F' g'=>Ze h1.size h1 g'∧F' 1=.pointer (some ⟨nb,0,none⟩)∧F' 5=.pointer (some ⟨h.size,0,none⟩)∧F' 12=.bool (decide (below n.heard l.b))) ?_ ?_ (fun _ _ _ h=>h) (fun _ _ h=>h)
 ·refine VS.z (h1.size) [6] (.p 0 (.q 1 (.p 2 (.p 3 (.p 4 (.q 5 (.w 6 .nil))))))) mixed (by kernel_rfl) ?_
  simp -implicitDefEqProofs only[go_sem,↓reduceIte,q3,r7,JF,m5]
  refine (Of T h1 l.b n.heard).use ?_
  rintro _ g ⟨rfl,b⟩
  simp -implicitDefEqProofs only[go_sem,↓reduceIte,b]
 ·rintro F' g ⟨b,f1,f5,f12⟩
  have kb:=Zs k1.ZV b
  have N2:=N1.still kb
  have K2:=k1.trans kb
  by_cases c:below n.heard l.b
  ·have e:notes n l = { n with heard:=l.b }:=by unfold notes;rw[if_pos c]
   rw[e]
   obtain⟨g2,w2,N3,k3⟩:=ZS.write (n:={ n with heard:=l.b }) (a:=a) { N2.pt with } K2.ZV N2.ZD ((YO N2.ZD.2 N2.pt.store.len).heard l.b.r l.b.n)
   have p3:rd g ⟨h.size,3,none⟩ 2=some [.int .i64 l.b.r,.int .i64 l.b.n]:=by rw[Z0 (x5.Zc kb).2 (by simp[YS])];rfl
   have JL:=Za N2.ZD.2
   simp -implicitDefEqProofs only[go_sem,↓reduceIte,f1,f5,f12,c,p3,w2,JL]
   exact⟨(ZC K2).trans k3,N3⟩
  ·have e:notes n l=n:=by unfold notes;rw[if_neg c]
   rw[e]
   simp -implicitDefEqProofs only[go_sem,↓reduceIte,f12,c]
   exact⟨ZC K2,N2⟩
theorem ie (T:World) (h:Hp) (o:Ow) (wb i nb:Nat) (Z7:Nat→Nat) (a:NA) (n:Nd) (YC:WA) (fl:List Y9) (bad:Nat→Int) (told:List Sd) (l:Y9) (w:Value) (d:Ug o h)
  (N:ZI o h wb i nb a n) (W:ZE o h wb Z7 YC fl bad told) (iv:Wc o h w l.vs) (hk:n.known.length≤100000000000) (hl:n.log.length≤100000000000) (ht:told.length≤100000000000) (hq:n.queue.length≤1000000000000) (hw:n.waiting.length≤1000000000000) :
  Zd Tryz.prog T 109 #[Zn wb,Zn nb,.agg (YS l w).toArray] h fun v' h'=>∃o' a' Xn,Kp (QA i) o h o' h'∧ZI o' h' wb i nb a' (Uu n l.v.slot l.v.cm).n∧ZE o' h' wb Z7 Xn fl bad (told++(Uu n l.v.slot l.v.cm).ts):=by
 obtain⟨pw,cw,rfl⟩:=iv.isSlice
 refine Zd.Zi (args:=[_,_,_]) Tryz.func109 rfl rfl rfl rfl ?_
 unfold Zn YS
 obtain⟨h1,YF⟩:=Zu (h.push (.cells (YS l (.slice pw l.vs.length cw)).toArray 163):Hp)
 have k1:Kp JK o h o h1:=by rw[YF];exact ZW d _
 have e0:=YF.symm
 unfold YS at e0
 simp -implicitDefEqProofs only[go_sem,↓reduceIte]
 rw[e0]
 refine (Kv T h1 o wb i nb Z7 a n YC fl bad told l.v.slot l.v.cm k1.ZV (N.still k1) (W.still k1) hk hl ht hq hw).use ?_
 rintro v' h' ⟨o',a',Xn,k,N',W'⟩
 simp -implicitDefEqProofs only[go_sem,↓reduceIte]
 exact⟨o',a',Xn,(ZC k1).trans k,N',W'⟩
theorem oC (T:World) (h:Hp) (o:Ow) (wb i nb:Nat) (a:NA) (n:Nd) (l:Y9) (w:Value) (d:Ug o h) (N:ZI o h wb i nb a n) (iv:Wc o h w l.vs) (hq:n.queue.length≤1000000000000) (hl:n.log.length≤1000000000000) :
  Zd Tryz.prog T 107 #[Zn wb,Zn nb,.agg (YS l w).toArray] h fun v' h'=>∃o' a',Kp (ZaH i) o h o' h'∧ZI o' h' wb i nb a' (add n l.v.cm):=by
 obtain⟨pw,cw,rfl⟩:=iv.isSlice
 refine Zd.Zi (args:=[_,_,_]) Tryz.func107 rfl rfl rfl rfl ?_
 unfold Zn YS
 obtain⟨h1,YF⟩:=Zu (h.push (.cells (YS l (.slice pw l.vs.length cw)).toArray 163):Hp)
 have k1:Kp JK o h o h1:=by rw[YF];exact ZW d _
 have e0:=YF.symm
 unfold YS at e0
 simp -implicitDefEqProofs only[go_sem,↓reduceIte]
 rw[e0]
 refine (nY T h1 o wb i nb a n l.v.cm k1.ZV (N.still k1) hq hl).use ?_
 rintro v' h' ⟨o',a',k,N'⟩
 simp -implicitDefEqProofs only[go_sem,↓reduceIte]
 exact⟨o',a',(ZC k1).trans k,N'⟩
theorem oE (T:World) (h:Hp) (o:Ow) (wb i nb:Nat) (Z7:Nat→Nat) (a:NA) (n:Nd) (YC:WA) (fl:List Y9) (bad:Nat→Int) (told:List Sd) (l:Y9) (w:Value) (d:Ug o h)
  (N:ZI o h wb i nb a n) (W:ZE o h wb Z7 YC fl bad told) (iv:Wc o h w l.vs) (Ym:fl.length≤1000000000000) :
  Zd Tryz.prog T 108 #[Zn wb,Zn nb,.agg (YS l w).toArray] h fun v' h'=>∃o' a' Xn,Kp (fun t=>t=.world∨t=.Zj∨t=.node i) o h o' h'∧ZI o' h' wb i nb a' (WH n l).n∧ZE o' h' wb Z7 Xn (fl++(WH n l).ls) bad told:=by
 obtain⟨pw,cw,rfl⟩:=iv.isSlice
 refine Zd.Zi (args:=[_,_,_]) Tryz.func108 rfl rfl rfl rfl ?_
 unfold Zn YS
 obtain⟨h1,YF⟩:=Zu (h.push (.cells (YS l (.slice pw l.vs.length cw)).toArray 163):Hp)
 have k1:Kp JK o h o h1:=by rw[YF];exact ZW d _
 have x5:ZL o h1 h.size (.cells (YS l (.slice pw l.vs.length cw)).toArray 163):=⟨d _ (Nat.le_refl _),by rw[YF];exact Zb⟩
 have e0:=YF.symm
 have cc:=DZ T h1 o wb i nb a n l (.slice pw l.vs.length cw) k1.ZV (N.still k1) (iv.Zc k1)
 unfold YS at e0
 unfold YS Zn at cc
 simp -implicitDefEqProofs only[go_sem,↓reduceIte]
 rw[e0]
 refine cc.use ?_
 rintro _ g ⟨k2,N2⟩
 have W2:=(W.still k1).Zc k2 (by rintro t rfl;simp[Tg.of])
 have y5:=x5.Zc k2
 have R2:=Zy N2.ZD.2 N2.pt.store.len
 have JL:=Za N2.ZD.2
 have m5:=Za y5.2
 have q5:hc g ⟨h.size,5,none⟩=some (.int .i64 l.v.slot):=Zg y5.2
 have ek:(notes n l).known=n.known:=by unfold notes;split<;>rfl
 have eme:(notes n l).me=n.me:=by unfold notes;split<;>rfl
 have lk:=fun (K:Value→Hp→Prop)=>Yn (K:=K) (n:=l.v.slot) (c:=true) VJ Ob N2.pt.known.2
 have Vd:=fun (K:Value→Hp→Prop) (x:Obj)=>Yn (h:=g.push x) (K:=K) (n:=l.v.slot) (c:=true) VJ Ob ((Zq (Za N2.pt.known.2)).trans N2.pt.known.2)
 rw[Xh,ek]at lk
 simp only[Xh,ek]at Vd
 have gp:∀x:Obj,(g.push x)[g.size]? = some x:=fun x=>Zb
 simp -implicitDefEqProofs only[go_sem,↓reduceIte]
 cases hx:Xe n.known l.v.slot with
 | none=>
  have eP:WH n l=⟨notes n l,[],[]⟩:=by unfold WH;rw[hx]
  rw[eP,List.append_nil]
  rw[hx]at lk
  simp only[hx,Option.map_none,Option.getD_none,Option.isSome_none,↓reduceIte]at lk Vd
  refine VS.mono (N:=fun F' g'=>Ze g.size g g'∧F' 7=.bool false) ?_ ?_ (fun _ _ _ h=>h) (fun _ _ h=>h)
  ·refine VS.z (g.size) [7,12] (.p 0 (.p 1 (.p 2 (.q 3 (.p 4 (.p 5 (.q 6 (.or 7 (.p 8 (.p 9 (.p 10 (.s 11 (.w 12 (.p 13 .nil)))))) (.s 11 (.w 7 (.p 8 (.p 9 (.p 10 (.w 12 (.p 13 .nil))))))))))))))) mixed (by kernel_rfl) ?_
   simp -implicitDefEqProofs only[go_sem,↓reduceIte,R2.known,q5,JL,m5,lk,Vd]
   repeat' (first|exact Ze.refl _ _|exact Ze.push (Nat.le_refl _) _|refine And.intro ?_ ?_)
  ·rintro F' g' ⟨b,f7⟩
   simp -implicitDefEqProofs only[go_sem,↓reduceIte,f7]
   exact⟨o,a,YC,((ZC k1).trans (k2.mono fun t q=>.inr (.inr q))).Z4 b,N2.still (Zs k2.ZV b),W2.still (Zs k2.ZV b)⟩
 | some y=>
  have eP:WH n l=⟨notes n l,[⟨6,n.me,l.Ju,JI,TD l.v.slot JI y,[]⟩],[]⟩:=by unfold WH;rw[hx]
  rw[eP]
  rw[hx]at lk
  simp only[hx,Option.map_some,Option.getD_some,Option.isSome_some,↓reduceIte]at lk Vd
  refine VS.mono (N:=fun F' g'=>Ze g.size g g'∧F' 0=.pointer (some ⟨wb,0,none⟩)∧F' 1=.pointer (some ⟨nb,0,none⟩)∧F' 5=.pointer (some ⟨h.size,0,none⟩)∧F' 7=.bool true∧F' 6=.pointer (some ⟨g.size,0,none⟩)∧g'[g.size]? = some (.cells y.C.toArray 47)) ?_ ?_ (fun _ _ _ h=>h) (fun _ _ h=>h)
  ·refine VS.z (g.size) [7,12] (.p 0 (.p 1 (.p 2 (.q 3 (.p 4 (.p 5 (.q 6 (.or 7 (.p 8 (.p 9 (.p 10 (.s 11 (.w 12 (.p 13 .nil)))))) (.s 11 (.w 7 (.p 8 (.p 9 (.p 10 (.w 12 (.p 13 .nil))))))))))))))) mixed (by kernel_rfl) ?_
   simp -implicitDefEqProofs only[go_sem,↓reduceIte,R2.known,q5,JL,m5,lk,Vd,WJ]
   repeat' (first|exact Ze.refl _ _|exact Ze.push (Nat.le_refl _) _|exact gp _|refine And.intro ?_ ?_)
  ·rintro F' g' ⟨b,f0,f1,f5,f7,f6,yy⟩
   have kb:=Zs k2.ZV b
   have N3:=N2.still kb
   have W3:=W2.still kb
   have z5:=y5.Zc kb
   have R3:=Zy N3.ZD.2 N3.pt.store.len
   have p1:hc g' ⟨h.size,1,none⟩=some (.int .i64 l.Ju):=Zg z5.2
   have p5:hc g' ⟨h.size,5,none⟩=some (.int .i64 l.v.slot):=Zg z5.2
   have p6:rd g' ⟨g.size,0,none⟩ 5=some [.int .i64 y.k,.int .i64 y.c,.int .i64 y.s,.int .i64 y.n,.int .i64 y.v]:=Zo yy rfl
   simp -implicitDefEqProofs only[go_sem,↓reduceIte,f0,f1,f5,f7,f6,p1,p5,p6]
   refine (UI T g' o wb nb Z7 n.me YC fl bad told l.Ju ⟨6,0,0,JI,TD l.v.slot JI y,[]⟩ (.slice none 0 0) kb.ZV W3 (by rw[←eme];exact R3.me) (Za N3.ZD.2) (Im.nil _ _ _ _) Ym).use ?_
   rintro v' h' ⟨o',Xn,k,_,W'⟩
   simp -implicitDefEqProofs only[go_sem,↓reduceIte]
   exact⟨o',a,Xn,(((ZC k1).trans (k2.mono fun t q=>.inr (.inr q))).trans (ZC kb)).trans (k.mono fun t q=>q.elim .inl fun q=>.inr (.inl q)),N3.Zc k (by rintro t (rfl|rfl)<;>simp[Tg.of]),W'⟩
section
variable {K:Value→Hp→Prop} {X:Hp}
theorem HJ {t e:TypeId} (ht:bP Tryz.prog t=some e) {b:Nat} (hb:b=X.size) {l:List (Int × Value)} {n:Int} {x:Value} :
  Np Tryz.prog t (.map (some b)) (.int .i64 n) x K (X.push (Xi l))=K undef (X.push (Xi (ins l n x))):=by
 subst hb
 rw[XN ht Zb]
 congr 1
 apply Array.ext_getElem?
 intro j
 rw[Array.getElem?_setIfInBounds,Array.getElem?_push,Array.getElem?_push]
 by_cases hj:X.size=j
 ·subst hj;simp
 ·rw[if_neg hj,if_neg (fun e=>hj e.symm),if_neg (fun e=>hj e.symm)]
theorem ah {t e:TypeId} (ht:bP Tryz.prog t=some e) {b:Nat} (hb:b=X.size) {n:Int} {x:Value} :
  Np Tryz.prog t (.map (some b)) (.int .i64 n) x K (X.push (.map #[] 0))=K undef (X.push (Xi [(n,x)])):=HJ (l:=[]) ht hb
theorem ai {t e:TypeId} {z:Value} (ht:bP Tryz.prog t=some e) (hz:wM Tryz.prog e=some z) {b:Nat} (hb:b=X.size) {l:List (Int × Value)} {n:Int} {x:Value} (hx:Xe l n=some x) :
  Nn Tryz.prog t (.map (some b)) (.int .i64 n) false K (X.push (Xi l))=K x (X.push (Xi l)):=by
 subst hb
 rw[Yn ht hz Zb,hx];rfl
end
theorem D0 (n:Nd) (l:Y9):(Y2 n l).ts=[]:=by
 unfold Y2
 repeat' split
 all_goals rfl
theorem oF (n:Nd) (l:Y9):(asked n l).ts=[]:=by
 unfold asked
 repeat' split
 all_goals rfl
theorem oH (n:Nd) (l:Y9):(WH n l).ts=[]:=by
 unfold WH
 split<;>rfl
theorem oI (n:Nd) (s:Int) (x:Cm):(Uu n s x).ls=[]:=rfl
theorem Md (n:Nd) (l:Y9):(YB n l).ls=[]:=by
 unfold YB
 repeat' split
 all_goals rfl
set_option maxHeartbeats 1000000 in
theorem ig (T:World) (h:Hp) (o:Ow) (wb i nb:Nat) (Z7:Nat→Nat) (a:NA) (n:Nd) (YC:WA) (fl:List Y9) (bad:Nat→Int) (told:List Sd) (l:Y9) (w:Value) (d:Ug o h)
  (N:ZI o h wb i nb a n) (W:ZE o h wb Z7 YC fl bad told) (iv:Wc o h w l.vs) (tb:Fb o h) (Zug:0≤l.kind∧l.kind≤7) (Ym:fl.length≤1000000000000) (nz:n.own.l.length≤1000000) (gE:n.data.length≤1000000)
  (hk:n.known.length≤100000000000) (hl:n.log.length≤100000000000) (ht:told.length≤100000000000) (hq:n.queue.length≤1000000000000) (hw:n.waiting.length≤1000000000000)
  (hv:∀r s,n.Zl=some r→((Xe r.Jv s).getD []).length≤1000000) :
  Zd Tryz.prog T 95 #[Zn wb,Zn nb,.agg (YS l w).toArray] h fun v' h'=>∃o' a' Xn,Kp (Xw i) o h o' h'∧ZI o' h' wb i nb a' (handle n l).n∧ZE o' h' wb Z7 Xn (fl++(handle n l).ls) bad (told++(handle n l).ts):=by
 obtain⟨pw,cw,rfl⟩:=iv.isSlice
 refine Zd.Zi (args:=[_,_,_]) Tryz.func95 rfl rfl rfl rfl ?_
 obtain⟨h1,YF⟩:=Zu (h.push (.cells (YS l (.slice pw l.vs.length cw)).toArray 163):Hp)
 have k1:Kp JK o h o h1:=by rw[YF];exact ZW d _
 have x5:ZL o h1 h.size (.cells (YS l (.slice pw l.vs.length cw)).toArray 163):=⟨d _ (Nat.le_refl _),by rw[YF];exact Zb⟩
 have e0:=YF.symm
 have s1:h1.size=h.size+1:=by rw[YF];simp
 obtain⟨M,hM⟩:∃M:List (Int × Value),M=[(0,.func (.func 104) #[] #[]),(1,.func (.func 105) #[] #[]),(2,.func (.func 106) #[] #[]),(3,.func (.func 105) #[] #[]),(4,.func (.func 107) #[] #[]),(5,.func (.func 108) #[] #[]),(6,.func (.func 109) #[] #[]),(7,.func (.func 110) #[] #[])]:=⟨_,rfl⟩
 have k2:Kp JK o h o (h1.push (Xi M)):=k1.push _
 have N2:=N.still k2
 have W2:=W.still k2
 have jw:=iv.Zc k2
 have Hb:=tb.Zc k2
 have x2:ZL o (h1.push (Xi M)) h.size (.cells (YS l (.slice pw l.vs.length cw)).toArray 163):=x5.Zc (ZW k1.ZV _)
 have d2:Ug o (h1.push (Xi M)):=k2.ZV
 have q0:hc (h1.push (Xi M)) ⟨h.size,0,none⟩=some (.int .i64 l.kind):=Zg x2.2
 have uP:rd (h1.push (Xi M)) ⟨h.size,0,none⟩ 14=some (YS l (.slice pw l.vs.length cw)):=Zo x2.2 rfl
 have eM:ins (ins (ins (ins (ins (ins (ins [((0:Int),Value.func (.func 104) #[] #[])] 1 (.func (.func 105) #[] #[])) 2 (.func (.func 106) #[] #[])) 3 (.func (.func 105) #[] #[])) 4 (.func (.func 107) #[] #[])) 5 (.func (.func 108) #[] #[])) 6 (.func (.func 109) #[] #[])) 7 (.func (.func 110) #[] #[])=M:=by rw[hM];rfl
 have u0:=fun (K:Value→Hp→Prop) (n:Int) (x:Value)=>ah (K:=K) (X:=h1) nP (b:=h1.size) rfl (n:=n) (x:=x)
 have u1:=fun (K:Value→Hp→Prop) (l:List (Int × Value)) (n:Int) (x:Value)=>HJ (K:=K) (X:=h1) nP (b:=h1.size) rfl (l:=l) (n:=n) (x:=x)
 have lk:=fun (K:Value→Hp→Prop) (x:Value) (hx:Xe M l.kind=some x)=>ai (K:=K) (X:=h1) nP Zfn (b:=h1.size) rfl hx
 unfold Zn YS
 unfold YS at e0 uP
 have Kz:l.kind=0∨l.kind=1∨l.kind=2∨l.kind=3∨l.kind=4∨l.kind=5∨l.kind=6∨l.kind=7:=by omega
 rcases Kz with ON|ON|ON|ON|ON|ON|ON|ON
 ·have hf:handle n l=Y2 n l:=by unfold handle;simp[ON]
  rw[hf]
  have aj:=fun (K:Value→Hp→Prop)=>lk K (.func (.func 104) #[] #[]) (by rw[ON,hM];rfl)
  have cc:=DS T _ o wb i nb Z7 a n YC fl bad told l _ d2 N2 W2 jw Ym nz gE Hb
  unfold YS Zn at cc
  simp -implicitDefEqProofs only[go_sem,↓reduceIte,e0,u0,u1,eM,q0,uP,aj]
  refine cc.use ?_
  rintro v' h' ⟨o',a',Xn,k,N',W'⟩
  simp -implicitDefEqProofs only[go_sem,↓reduceIte]
  exact⟨o',a',Xn,(ZC k2).trans (k.mono fun t q=>by rcases q with rfl|rfl|rfl<;>simp[Xw,Tg.of]),N',by rw[D0,List.append_nil];exact W'⟩
 ·have hf:handle n l=YB n l:=by unfold handle;simp[ON]
  rw[hf]
  have aj:=fun (K:Value→Hp→Prop)=>lk K (.func (.func 105) #[] #[]) (by rw[ON,hM];rfl)
  have cc:=Mc T _ o wb i nb Z7 a n YC fl bad told l _ d2 N2 W2 jw hk hl ht hq hw hv
  unfold YS Zn at cc
  simp -implicitDefEqProofs only[go_sem,↓reduceIte,e0,u0,u1,eM,q0,uP,aj]
  refine cc.use ?_
  rintro v' h' ⟨o',a',Xn,k,N',W'⟩
  simp -implicitDefEqProofs only[go_sem,↓reduceIte]
  exact⟨o',a',Xn,(ZC k2).trans (k.mono fun t q=>DY q),N',by rw[Md,List.append_nil];exact W'⟩
 ·have hf:handle n l=asked n l:=by unfold handle;simp[ON]
  rw[hf]
  have aj:=fun (K:Value→Hp→Prop)=>lk K (.func (.func 106) #[] #[]) (by rw[ON,hM];rfl)
  have cc:=oy T _ o wb i nb Z7 a n YC fl bad told l _ d2 N2 W2 jw Ym nz gE Hb
  unfold YS Zn at cc
  simp -implicitDefEqProofs only[go_sem,↓reduceIte,e0,u0,u1,eM,q0,uP,aj]
  refine cc.use ?_
  rintro v' h' ⟨o',a',Xn,k,N',W'⟩
  simp -implicitDefEqProofs only[go_sem,↓reduceIte]
  exact⟨o',a',Xn,(ZC k2).trans (k.mono fun t q=>by rcases q with rfl|rfl|rfl<;>simp[Xw,Tg.of]),N',by rw[oF,List.append_nil];exact W'⟩
 ·have hf:handle n l=YB n l:=by unfold handle;simp[ON]
  rw[hf]
  have aj:=fun (K:Value→Hp→Prop)=>lk K (.func (.func 105) #[] #[]) (by rw[ON,hM];rfl)
  have cc:=Mc T _ o wb i nb Z7 a n YC fl bad told l _ d2 N2 W2 jw hk hl ht hq hw hv
  unfold YS Zn at cc
  simp -implicitDefEqProofs only[go_sem,↓reduceIte,e0,u0,u1,eM,q0,uP,aj]
  refine cc.use ?_
  rintro v' h' ⟨o',a',Xn,k,N',W'⟩
  simp -implicitDefEqProofs only[go_sem,↓reduceIte]
  exact⟨o',a',Xn,(ZC k2).trans (k.mono fun t q=>DY q),N',by rw[Md,List.append_nil];exact W'⟩
 ·have hf:handle n l=⟨add n l.v.cm,[],[]⟩:=by unfold handle;simp[ON]
  rw[hf]
  have aj:=fun (K:Value→Hp→Prop)=>lk K (.func (.func 107) #[] #[]) (by rw[ON,hM];rfl)
  have cc:=oC T _ o wb i nb a n l _ d2 N2 jw hq (by omega)
  unfold YS Zn at cc
  simp -implicitDefEqProofs only[go_sem,↓reduceIte,e0,u0,u1,eM,q0,uP,aj]
  refine cc.use ?_
  rintro v' h' ⟨o',a',k,N'⟩
  simp -implicitDefEqProofs only[go_sem,↓reduceIte]
  exact⟨o',a',YC,(ZC k2).trans (k.mono fun t q=>by rcases q with rfl|rfl<;>simp[Xw,Tg.of]),N',by rw[List.append_nil,List.append_nil];exact W2.Zc k (by rintro t (rfl|rfl)<;>simp[Tg.of])⟩
 ·have hf:handle n l=WH n l:=by unfold handle;simp[ON]
  rw[hf]
  have aj:=fun (K:Value→Hp→Prop)=>lk K (.func (.func 108) #[] #[]) (by rw[ON,hM];rfl)
  have cc:=oE T _ o wb i nb Z7 a n YC fl bad told l _ d2 N2 W2 jw Ym
  unfold YS Zn at cc
  simp -implicitDefEqProofs only[go_sem,↓reduceIte,e0,u0,u1,eM,q0,uP,aj]
  refine cc.use ?_
  rintro v' h' ⟨o',a',Xn,k,N',W'⟩
  simp -implicitDefEqProofs only[go_sem,↓reduceIte]
  exact⟨o',a',Xn,(ZC k2).trans (k.mono fun t q=>by rcases q with rfl|rfl|rfl<;>simp[Xw,Tg.of]),N',by rw[oH,List.append_nil];exact W'⟩
 ·have hf:handle n l=Uu n l.v.slot l.v.cm:=by unfold handle;simp[ON]
  rw[hf]
  have aj:=fun (K:Value→Hp→Prop)=>lk K (.func (.func 109) #[] #[]) (by rw[ON,hM];rfl)
  have cc:=ie T _ o wb i nb Z7 a n YC fl bad told l _ d2 N2 W2 jw hk hl ht hq hw
  unfold YS Zn at cc
  simp -implicitDefEqProofs only[go_sem,↓reduceIte,e0,u0,u1,eM,q0,uP,aj]
  refine cc.use ?_
  rintro v' h' ⟨o',a',Xn,k,N',W'⟩
  simp -implicitDefEqProofs only[go_sem,↓reduceIte]
  exact⟨o',a',Xn,(ZC k2).trans (k.mono fun t q=>Ky q),N',by rw[oI,List.append_nil];exact W'⟩
 ·have hf:handle n l=⟨notes n l,[],[]⟩:=by unfold handle;simp[ON]
  rw[hf]
  have aj:=fun (K:Value→Hp→Prop)=>lk K (.func (.func 110) #[] #[]) (by rw[ON,hM];rfl)
  have cc:=DZ T _ o wb i nb a n l _ d2 N2 jw
  unfold YS Zn at cc
  simp -implicitDefEqProofs only[go_sem,↓reduceIte,e0,u0,u1,eM,q0,uP,aj]
  refine cc.use ?_
  rintro v' h' ⟨k,N'⟩
  simp -implicitDefEqProofs only[go_sem,↓reduceIte]
  exact⟨o,a,YC,(ZC k2).trans (k.mono fun t q=>by rw[q];simp[Xw,Tg.of]),N',by rw[List.append_nil,List.append_nil];exact W2.Zc k (by rintro t rfl;simp[Tg.of])⟩
@[go_sem] theorem Zoz (x:Cm):List.take 5 x.C=x.C:=rfl
def Ux (n:Nd) (r:Qn) (x:Cm):Int:=match free n r x with|some s=>(s:Int)|none=>0
theorem YG.rr {o:Ow} {i:Nat} {h:Hp} {ra:RA} {r:Qn} (s:YG o i h ra r):rd h ⟨ra.rb,0,none⟩ 2=some (X9 r.b)∧hc h ⟨ra.rb,2,none⟩=some (.map (some ra.pb))∧hc h ⟨ra.rb,3,none⟩=some (.bool r.begun)∧hc h ⟨ra.rb,4,none⟩=some (.map (some ra.qb))∧hc h ⟨ra.rb,5,none⟩=some (.map (some ra.vb)):=
 ⟨by rw[Z0 s.ZD.2 (by simp[ad])];rfl,Zg s.ZD.2,Zg s.ZD.2,Zg s.ZD.2,Zg s.ZD.2⟩
set_option maxHeartbeats 1000000 in
theorem uQ (T:World) (h:Hp) (o:Ow) (wb i nb:Nat) (a:NA) (n:Nd) (ra:RA) (r:Qn) (x:Cm) (d:Ug o h) (N:ZI o h wb i nb a n) (R:YG o i h ra r) (hl:n.log.length≤1000000000000) :
  Zd Tryz.prog T 133 #[Zn nb,Zn ra.rb,WJ x] h fun v' h'=>v'=.tuple #[.int .i64 (Ux n r x),.bool (free n r x).isSome]∧Ze h.size h h':=by
 have Vf:=Za N.ZD.2
 have ae:=Za R.ZD.2
 refine Zd.XM (args:=[_,_,_]) Tryz.func133 rfl rfl rfl rfl ?_
 unfold Zn WJ
 obtain⟨h1,YF⟩:=Zu (h.push (.cells x.C.toArray 47):Hp)
 have k1:Kp JK o h o h1:=by rw[YF];exact ZW d _
 have b1:Ze h.size h h1:=by rw[YF];exact Ze.push (Nat.le_refl _) _
 have x1:ZL o h1 h.size (.cells x.C.toArray 47):=⟨d _ (Nat.le_refl _),by rw[YF];exact Zb⟩
 have e0:=YF.symm
 have N1:=N.still k1
 have R1:=R.Zc k1 (fun _ _ q=>q)
 have P1:=Zy N1.ZD.2 N1.pt.store.len
 have P0:=Zy N.ZD.2 N.pt.store.len
 obtain⟨lp,lc,OT,wu⟩:=Ys.isSlice N1.pt.log
 have P11:=P1.log
 rw[OT]at P11
 have JF:=Za N1.ZD.2
 have e3:((n.log.length:Nat):Int)=(n.log.length:Int):=rfl
 simp -implicitDefEqProofs only[go_sem,↓reduceIte,e0,P11]
 refine VS.ZU (fun F g=>Ze h1.size h1 g∧F 0=.pointer (some ⟨nb,0,none⟩)∧F 1=.pointer (some ⟨ra.rb,0,none⟩)∧F 5=.pointer (some ⟨h.size,0,none⟩)∧∃s:Nat,F 8=.int .i64 s∧n.log.length≤s∧Up n r x (40-n.log.length) n.log.length=Up n r x (40-s) s)
  (fun F _=>40-(vi (F 8)).toNat) rfl ⟨Ze.refl _ _,rfl,rfl,rfl,n.log.length,rfl,Nat.le_refl _,rfl⟩ ?_
 rintro F g ⟨hg,f0,f1,f5,s,f8,hs,he⟩
 have kg:=Zs k1.ZV hg
 have N2:=N1.still kg
 have R2:=R1.Zc kg (fun _ _ q=>q)
 have y1:=x1.Zc kg
 have P2:=Zy N2.ZD.2 N2.pt.store.len
 obtain⟨_,_,_,q4,_⟩:=R2.rr
 have gs:=hg.size
 have JL:=Za N2.ZD.2
 have DX:=Za R2.ZD.2
 have bb:Ze h.size h g:=b1.trans (hg.mono b1.size)
 have eF:free n r x=Up n r x (40-s) s:=he
 by_cases ZA:s<40
 ·have ZH:(s:Int)<40:=by omega
  obtain⟨f,hf⟩:∃f,40-s=f+1:=⟨39-s,by omega⟩
  have ef:f=40-(s+1):=by omega
  rw[hf]at eF he
  have HK:=fun (K:Value→Hp→Prop)=>Yn (K:=K) (n:=(s:Int)) (c:=true) VJ Ob R2.prop.2
  rw[Xh]at HK
  have Vd:=fun (K:Value→Hp→Prop) (z:Obj)=>Yn (h:=g.push z) (K:=K) (n:=(s:Int)) (c:=true) VJ Ob ((Zq (Za N2.pt.known.2)).trans N2.pt.known.2)
  simp only[Xh]at Vd
  have fz:∀c:Cm,rd g ⟨h.size,0,none⟩ 5=some x.C:=fun _=>Zo y1.2 rfl
  have fx:rd g ⟨h.size,0,none⟩ 5=some x.C:=Zo y1.2 rfl
  have zD:=Za y1.2
  have n1:¬h.size=g.size:=by omega
  have n2:¬h.size=g.size+1:=by omega
  have n3:¬nb=g.size:=by omega
  unfold Up at eF
  cases c1:Xe r.prop (s:Int) with
  | none=>
   simp only[c1,Option.map_none,Option.getD_none,Option.isSome_none,↓reduceIte]at HK
   cases c2:Xe n.known (s:Int) with
   | none=>
    simp only[c2,Option.map_none,Option.getD_none,Option.isSome_none,↓reduceIte]at Vd
    have e4:free n r x=some s:=by rw[eF,if_neg (by rw[c1,c2];simp),if_pos ⟨c1,c2⟩]
    have e5:Ux n r x=s:=by unfold Ux;rw[e4]
    rw[e5,e4]
    simp -implicitDefEqProofs only[go_sem,↓reduceIte,f0,f1,f5,f8,ZH,q4,HK,Vd,P2.known,n1,n2,n3,fx,WJ,Option.isSome_some]
    exact (bb.Yg (by omega) _).Yg (by simp;omega) _
   | some z=>
    simp only[c2,Option.map_some,Option.getD_some,Option.isSome_some,↓reduceIte]at Vd
    by_cases qz:z=x
    ·have e4:free n r x=none:=by rw[eF,if_pos (.inr (by rw[c2,qz]))]
     have e5:Ux n r x=0:=by unfold Ux;rw[e4]
     rw[e5,e4]
     simp -implicitDefEqProofs only[go_sem,↓reduceIte,f0,f1,f5,f8,ZH,q4,HK,Vd,P2.known,n1,n2,n3,fx,WJ,qz,Option.isSome_none]
     exact (bb.Yg (by omega) _).Yg (by simp;omega) _
    ·have qz':¬some z=some x:=fun e=>qz (Option.some.inj e)
     simp -implicitDefEqProofs only[go_sem,↓reduceIte,f0,f1,f5,f8,ZH,q4,HK,Vd,P2.known,n1,n2,n3,fx,WJ,qz]
     unfold Yy
     refine⟨⟨(hg.Yg (by omega) _).Yg (by simp;omega) _,f0,f1,f5,s+1,rfl,by omega,?_⟩,?_⟩
     ·rw[he,←ef,Up,if_neg (by rw[c1,c2];simp[qz]),if_neg (by rw[c2];simp)]
     ·simp only[vi,Zh,↓reduceIte,f8];omega
  | some y=>
   simp only[c1,Option.map_some,Option.getD_some,Option.isSome_some,↓reduceIte]at HK
   by_cases qy:y=x
   ·have e4:free n r x=none:=by rw[eF,if_pos (.inl (by rw[c1,qy]))]
    have e5:Ux n r x=0:=by unfold Ux;rw[e4]
    rw[e5,e4]
    cases c2:Xe n.known (s:Int) with
    | none=>
     simp only[c2,Option.map_none,Option.getD_none,Option.isSome_none,↓reduceIte]at Vd
     simp -implicitDefEqProofs only[go_sem,↓reduceIte,f0,f1,f5,f8,ZH,q4,HK,Vd,P2.known,n1,n2,n3,fx,WJ,qy,Option.isSome_none]
     exact (bb.Yg (by omega) _).Yg (by simp;omega) _
    | some z=>
     simp only[c2,Option.map_some,Option.getD_some,Option.isSome_some,↓reduceIte]at Vd
     simp -implicitDefEqProofs only[go_sem,↓reduceIte,f0,f1,f5,f8,ZH,q4,HK,Vd,P2.known,n1,n2,n3,fx,WJ,qy,Option.isSome_none]
     exact (bb.Yg (by omega) _).Yg (by simp;omega) _
   ·cases c2:Xe n.known (s:Int) with
    | none=>
     simp only[c2,Option.map_none,Option.getD_none,Option.isSome_none,↓reduceIte]at Vd
     simp -implicitDefEqProofs only[go_sem,↓reduceIte,f0,f1,f5,f8,ZH,q4,HK,Vd,P2.known,n1,n2,n3,fx,WJ,qy]
     unfold Yy
     refine⟨⟨(hg.Yg (by omega) _).Yg (by simp;omega) _,f0,f1,f5,s+1,rfl,by omega,?_⟩,?_⟩
     ·rw[he,←ef,Up,if_neg (by rw[c1,c2];simp[qy]),if_neg (by rw[c1];simp)]
     ·simp only[vi,Zh,↓reduceIte,f8];omega
    | some z=>
     simp only[c2,Option.map_some,Option.getD_some,Option.isSome_some,↓reduceIte]at Vd
     by_cases qz:z=x
     ·have e4:free n r x=none:=by rw[eF,if_pos (.inr (by rw[c2,qz]))]
      have e5:Ux n r x=0:=by unfold Ux;rw[e4]
      rw[e5,e4]
      simp -implicitDefEqProofs only[go_sem,↓reduceIte,f0,f1,f5,f8,ZH,q4,HK,Vd,P2.known,n1,n2,n3,fx,WJ,qy,qz,Option.isSome_none]
      exact (bb.Yg (by omega) _).Yg (by simp;omega) _
     ·
      simp -implicitDefEqProofs only[go_sem,↓reduceIte,f0,f1,f5,f8,ZH,q4,HK,Vd,P2.known,n1,n2,n3,fx,WJ,qy,qz]
      unfold Yy
      refine⟨⟨(hg.Yg (by omega) _).Yg (by simp;omega) _,f0,f1,f5,s+1,rfl,by omega,?_⟩,?_⟩
      ·rw[he,←ef,Up,if_neg (by rw[c1,c2];simp[qy,qz]),if_neg (by rw[c1];simp)]
      ·simp only[vi,Zh,↓reduceIte,f8];omega
 ·have YE:¬(s:Int)<40:=by omega
  have e4:free n r x=none:=by rw[eF,show 40-s=0 by omega];rfl
  have e5:Ux n r x=0:=by unfold Ux;rw[e4]
  rw[e5,e4]
  simp -implicitDefEqProofs only[go_sem,↓reduceIte,f8,YE,bb,Option.isSome_none]
def ZaN (B:Nat) (o:Ow) (h0 h:Hp) (u:Value) (LL:List (List Vt)):Prop:=
 ∃ws:List Value,Ql B 129 1 h u LL.length ws∧Et (fun w l=>Wc o h0 w l∧l.length≤1000000) ws LL
def ak (o:Ow) (h:Hp) (u:Value) (LL:List (List Vt)):Prop:=∃p c,u=.slice p LL.length c∧(LL≠[]→∃b off,p=some ⟨b,off,none⟩∧b<h.size∧o b=none∧∀i (hi:i<LL.length),∃w,hc h ⟨b,off+i,none⟩=some w∧Wc o h w LL[i]∧LL[i].length≤1000000)
theorem ak.vss {o:Ow} {h:Hp} {u:Value} {LL:List (List Vt)} (s:ak o h u LL):Vss h u LL:=by
 obtain⟨p,c,hv,hh⟩:=s
 refine⟨p,c,hv,fun Yr=>?_⟩
 obtain⟨b,off,h1,h2,h3,h4⟩:=hh Yr
 refine⟨b,off,h1,h2,fun i hi=>?_⟩
 obtain⟨w,g1,g2,g3⟩:=h4 i hi
 exact⟨w,g1,g2.ts,by omega⟩
theorem ak.Zc {S:Tg→Prop} {o o':Ow} {h h':Hp} {u:Value} {LL:List (List Vt)} (s:ak o h u LL) (k:Kp S o h o' h'):ak o' h' u LL:=by
 obtain⟨p,c,hv,hh⟩:=s
 refine⟨p,c,hv,fun Yr=>?_⟩
 obtain⟨b,off,h1,h2,h3,h4⟩:=hh Yr
 obtain⟨q1,q2⟩:=k.Zc b h2 fun t ht=>by rw[h3]at ht;cases ht
 refine⟨b,off,h1,Nat.lt_of_lt_of_le h2 k.size,q2.trans h3,fun i hi=>?_⟩
 obtain⟨w,g1,g2,g3⟩:=h4 i hi
 refine⟨w,?_,g2.Zc k,g3⟩
 unfold hc at g1 ⊢
 rw[q1];exact g1
theorem ZaN.ZoA {o:Ow} {h0 h:Hp} {u:Value} {LL:List (List Vt)} (s:ZaN h0.size o h0 h u LL) (d:Ug o h0) (hb:Ze h0.size h0 h):ak o h u LL:=by
 obtain⟨ws,own,al⟩:=s
 have uR:ws.length=LL.length:=by
  clear own
  induction al with
  | nil=>rfl
  | cons _ _ ih=>simp[ih]
 have ZoB:∀i (hi:i<LL.length),∃w,ws[i]? = some w∧Wc o h0 w LL[i]∧LL[i].length≤1000000:=by
  clear own uR
  induction al with
  | nil=>intro i hi;simp at hi
  | cons Gi _ ih=>
   intro i hi
   cases i with
   | zero=>exact⟨_,rfl,Gi⟩
   | succ i=>exact ih i (by simpa using hi)
 obtain⟨p,c,hv,hl,Yx⟩:=own.sl
 refine⟨p,c,hv,fun Yr=>?_⟩
 have M3:0<LL.length:=List.length_pos_iff.2 Yr
 obtain⟨b,off,rfl,I4⟩:=Yx (by intro e;rw[e]at uR;simp at uR;omega)
 have hbB:h0.size≤b:=by
  refine own.ZD b ?_
  rcases own with⟨⟨q,h1⟩,h2,h3⟩|⟨b',cap,sp,_,h1,_,_,_,hm⟩
  ·subst h3;simp at uR;omega
  ·rw[hv]at h1
   simp only[Value.slice.injEq,Option.some.injEq,Addr.mk.injEq]at h1
   obtain⟨⟨rfl,_,_⟩,h12,h13⟩:=h1
   rw[hv]
   have:c≠0:=by omega
   simp[ZM,this]
 refine⟨b,off,rfl,Q9 (I4 0 (by omega)),d b hbB,fun i hi=>?_⟩
 obtain⟨w,h1,h2,h3⟩:=ZoB i hi
 have bJ:i<ws.length:=by omega
 rw[List.getElem?_eq_getElem bJ]at h1
 exact⟨w,by rw[I4 i bJ,Option.some.inj h1],h2.Zc (Zs d hb),h3⟩
theorem D1 {α β:Type} {R:α→β→Prop} {l:List α} {k:List β} (s:Et R l k) {a:α} {b:β} (h:R a b):Et R (l++[a]) (k++[b]):=by
 induction s with
 | nil=>exact .cons h .nil
 | cons x _ ih=>exact .cons x ih
theorem ij (l:List Vt) (v:Vt):DK (l++[v])=if DK l<v.slot then v.slot else DK l:=by
 unfold DK;rw[List.foldl_append];rfl
theorem YG.dk {o:Ow} {i:Nat} {h:Hp} {ra:RA} {r:Qn} (s:YG o i h ra r) (d:Ug o h) {k:Int} {x:Cm} :
  Kp (fun t=>t=.prop i) o h o (h.setIfInBounds ra.qb (Xi (ins (Ul WJ r.prop) k (.agg x.C.toArray))))∧YG o i (h.setIfInBounds ra.qb (Xi (ins (Ul WJ r.prop) k (.agg x.C.toArray)))) ra { r with prop:=ins r.prop k x }:=by
 have kk:Kp (fun t=>t=.prop i) o h o (h.setIfInBounds ra.qb (Xi (ins (Ul WJ r.prop) k (.agg x.C.toArray)))):=(Kp.refl d (fun t=>t=.prop i)).set s.prop.1 rfl _
 exact⟨kk,s.ZD.Zc kk (by intro e;cases e),s.prom.Zc kk (by intro e;cases e),s.Si.Zc kk,⟨s.prop.1,by rw[Zw s.prop.2,TQ];rfl⟩,s.Jv.Zc kk (by intro e;cases e),s.Tj.Zc kk (fun _ e=>by cases e),s.keys⟩
theorem Tm (r:Qn):(XH r).length=5:=rfl
theorem HL (r:Qn) (m:Nat) (hm:m<(XH r).length):(XH r)[m]=(Xe r.prom (m:Int)).getD []:=by
 simp only[XH,List.getElem_map,List.getElem_range]
theorem YG.list {o:Ow} {i:Nat} {h:Hp} {ra:RA} {r:Qn} (s:YG o i h ra r) (hp:∀x∈r.prom,x.2.length≤1000000) (m:Int):∃p c vs,(Xe ra.pv m).getD (.slice none 0 0)=.slice p vs.length c∧(Xe r.prom m).getD []=vs∧Wc o h (.slice p vs.length c) vs∧vs.length≤1000000:=by
 rcases s.Si.Xe m with⟨h1,h2⟩|⟨w,vs,h1,h2,iv⟩
 ·exact⟨none,0,[],by rw[h1];rfl,by rw[h2];rfl,Im.nil _ _ _ _,by simp⟩
 ·obtain⟨p,c,rfl⟩:=iv.isSlice
  exact⟨p,c,vs,by rw[h1];rfl,by rw[h2];rfl,iv,hp _ (MG h2)⟩
set_option maxHeartbeats 1000000 in
theorem oJ (T:World) (h:Hp) (o:Ow) (wb i nb:Nat) (a:NA) (n:Nd) (ra:RA) (r:Qn) (d:Ug o h) (N:ZI o h wb i nb { a with Zl:=some ra } { n with Zl:=some r }) (hp:∀x∈r.prom,x.2.length≤1000000) (hs:∀x∈r.prom,∀v∈x.2,v.slot≤1000000) (hl:n.log.length≤1000000000000) :
  Zd Tryz.prog T 132 #[Zn nb,Zn ra.rb] h fun v' h'=>∃ra',ra'.rb=ra.rb∧Kp (XA i) o h o h'∧ZI o h' wb i nb { a with Zl:=some ra' } { n with Zl:=some (Se n r) }:=by
 have Vf:=Za N.ZD.2
 have R:YG o i h ra r:=N.pt.Zl
 have ae:=Za R.ZD.2
 refine Zd.Zi (args:=[_,_]) Tryz.func132 rfl rfl rfl rfl ?_
 unfold Zn
 simp -implicitDefEqProofs only[go_sem,↓reduceIte]
 refine VS.ZU (fun F g=>Ze h.size h g∧F 0=.pointer (some ⟨nb,0,none⟩)∧F 1=.pointer (some ⟨ra.rb,0,none⟩)∧∃m:Nat,m≤5∧F 12=.int .i64 m∧ZaN h.size o h g (F 4) ((XH r).take m)∧F 5=.int .i64 (DK ((XH r).take m).flatten))
  (fun F _=>5-(vi (F 12)).toNat) rfl ⟨Ze.refl _ _,rfl,rfl,0,by omega,rfl,⟨[],Ql.nil _ _ _ _,.nil⟩,rfl⟩ ?_
 rintro F g ⟨hg,f0,f1,m,hm,f12,hG,f5⟩
 have kg:=Zs d hg
 have N1:=N.still kg
 have R1:=R.Zc kg (fun _ _ q=>q)
 obtain⟨_,q2,q3,q4,_⟩:=R1.rr
 have gs:=hg.size
 by_cases ZA:m<5
 ·have ZH:(m:Int)<5:=by omega
  obtain⟨pm,cm,vs,e1,e2,iv,nz⟩:=R1.list hp (m:Int)
  have hm5:m<(XH r).length:=by rw[Tm];exact ZA
  have e3:(XH r)[m]=vs:=by rw[HL,e2]
  have e4:(XH r).take (m+1)=(XH r).take m++[vs]:=by rw[Z9 _ m hm5,e3]
  have lk:=fun (G:Hp) (hG:Ze g.size g G) (K:Value→Hp→Prop)=>Yn (h:=G) (K:=K) (n:=(m:Int)) (c:=false) NX nQ (hG.get (Za R1.prom.2) R1.prom.2)
  simp only[e1,Bool.false_eq_true,if_false]at lk
  have lk0:=lk g (Ze.refl _ _)
  obtain⟨ws,own,al⟩:=hG
  obtain⟨p4,c4,hF4⟩:∃p c,F 4=.slice p ((XH r).take m).length c:=by
   obtain⟨p,c,h1,_⟩:=own.sl;exact⟨p,c,h1⟩
  have ml:((XH r).take m).length=m:=by rw[List.length_take,Tm];omega
  rw[ml]at hF4 own
  rw[hF4]at own
  simp -implicitDefEqProofs only[go_sem,↓reduceIte,f0,f1,f5,f12,hF4,ZH,q2,lk0]
  have src:Sl 1 (g.push (.cells [.slice pm vs.length cm].toArray 129)) (.slice (some ⟨g.size,0,none⟩) 1 1) 1 [.slice pm vs.length cm]:=Sl.made (by simp) 1
  refine Nm (E:=129) (n:=1) (B:=h.size) (bytes:=24) (m:=m) (k:=1) (cs:=ws) zw Tryz.underlying245 ZdI ZdK rfl ZdJ (own.push _) (by simp;omega) src rfl (by omega) (by omega) ?_
  intro u3 g3 ZfJ ZoD _
  have Fg:Ze h.size h g3:=(hg.Yg (by omega) _).trans (ZoD.Z4 (by simp;omega) (own.push (.cells [.slice pm vs.length cm].toArray 129)).ZD)
  have kg3:=Zs d Fg
  have R3:=R.Zc kg3 (fun _ _ q=>q)
  obtain⟨_,q23,_,_,_⟩:=R3.rr
  have lk3:=fun (K:Value→Hp→Prop)=>Yn (K:=K) (n:=(m:Int)) (c:=false) NX nQ R3.prom.2
  simp only[e1,Bool.false_eq_true,if_false]at lk3
  obtain⟨p5,c5,rfl⟩:∃p c,u3=.slice p (m+1) c:=by obtain⟨p,c,h1,_⟩:=ZfJ.sl;exact⟨p,c,h1⟩
  have iv0:Wc o h (.slice pm vs.length cm) vs:=by
   obtain⟨pm',cm',wC,x1,x2,iv',_⟩:=R.list hp (m:Int)
   rw[e1]at x1
   rw[e2]at x2
   subst x2
   rw[←x1]at iv'
   exact iv'
  have al3:Et (fun w l=>Wc o h w l∧l.length≤1000000) (ws++[.slice pm vs.length cm]) ((XH r).take m++[vs]):=by
   exact D1 al ⟨iv0,nz⟩
  simp -implicitDefEqProofs only[go_sem,↓reduceIte,f0,f1,f5,f12,ZH,q23,lk3]
  obtain⟨LL,hLL⟩:=Zu (((XH r).take m).flatten)
  have ub:((XH r).take (m+1)).flatten=LL++vs:=by rw[e4,List.flatten_append,←hLL];simp
  rw[←hLL]at f5
  have ivo:=fun g' (hb:Ze h.size h g')=>Ku (iv0.Zc (Zs d hb)).ts
  refine VS.ZU (fun F' g'=>Ze h.size h g'∧F' 0=.pointer (some ⟨nb,0,none⟩)∧F' 1=.pointer (some ⟨ra.rb,0,none⟩)∧F' 12=.int .i64 m∧F' 29=.slice pm vs.length cm∧F' 30=.int .i64 vs.length∧F' 4=.slice p5 (m+1) c5∧Ql h.size 129 1 g' (.slice p5 (m+1) c5) (m+1) (ws++[.slice pm vs.length cm])∧∃j:Nat,j≤vs.length∧F' 31=.int .i64 j∧F' 5=.int .i64 (DK (LL++vs.take j)))
   (fun F' _=>vs.length-(vi (F' 31)).toNat) rfl ⟨Fg,f0,f1,f12,rfl,rfl,rfl,ZfJ,0,by omega,rfl,by rw[List.take_zero,List.append_nil];exact f5⟩ ?_
  rintro F2 g4 ⟨VO,f0,f1,f12,f29,f30,f4,ZfK,j,hj,f31,f5⟩
  by_cases Ic:j<vs.length
  ·have ik:(j:Int)<vs.length:=by omega
   obtain⟨pp,cc,hv1,ng⟩:=ivo g4 VO
   obtain⟨bb,oo,hpp,Ut,RO⟩:=ng (by intro e;rw[e]at Ic;simp at Ic)
   simp only[Value.slice.injEq]at hv1
   obtain⟨rfl,_,rfl⟩:=hv1
   subst hpp
   have r1:=RO j Ic
   unfold Zm at r1
   simp -implicitDefEqProofs only[go_sem,↓reduceIte,f0,f1,f12,f29,f30,f4,f31,f5,ik,r1]
   unfold Yy
   refine⟨⟨VO.Yg VO.size _,f0,f1,f12,f29,f30,f4,ZfK.push _,j+1,Ic,rfl,?_⟩,?_⟩
   ·show Value.int .i64 _=_
    rw[Z9 vs j Ic,←List.append_assoc,ij]
   ·simp only[vi,Zh,↓reduceIte,f31];omega
  ·have YE:¬(j:Int)<vs.length:=by omega
   obtain rfl:j=vs.length:=by omega
   rw[List.take_length]at f5
   simp -implicitDefEqProofs only[go_sem,↓reduceIte,f30,f31,YE,f12]
   unfold Yy
   refine⟨⟨VO,f0,f1,m+1,ZA,rfl,⟨_,?_,by rw[e4];exact al3⟩,by rw[ub];exact f5⟩,?_⟩
   ·show Ql _ _ _ _ (F2 4) _ _
    rw[f4,e4,List.length_append,ml]
    exact ZfK
   ·simp only[vi,Zh,↓reduceIte,f12];omega
 ·have YE:¬(m:Int)<5:=by omega
  obtain rfl:m=5:=by omega
  have ht5:(XH r).take 5=XH r:=by rw[List.take_of_length_le];exact Nat.le_of_eq (Tm r)
  rw[ht5]at hG f5
  have P1:=Zy N1.ZD.2 N1.pt.store.len
  have JF:=Za N1.ZD.2
  obtain⟨lp,lc,OT,_⟩:=Ys.isSlice N1.pt.log
  have P11:=P1.log
  rw[OT]at P11
  have il:=hG.ZoA d hg
  obtain⟨u,hu⟩:=Zu (F 4)
  rw[←hu]at il hG
  obtain⟨top,gu⟩:=Zu (DK (XH r).flatten)
  rw[←gu]at f5
  have htl:top≤1000000:=by
   rw[gu]
   have key:∀(l:List Vt) (t:Int),t≤1000000→(∀v∈l,v.slot≤1000000)→l.foldl (fun t v=>if t<v.slot then v.slot else t) t≤1000000:=by
    intro l
    induction l with
    | nil=>intro t ht _;exact ht
    | cons x l ih=>
     intro t ht hh
     refine ih _ ?_ (fun v hv=>hh v (List.mem_cons_of_mem _ hv))
     show (if t<x.slot then x.slot else t)≤1000000
     split
     ·exact hh x List.mem_cons_self
     ·exact ht
   refine key _ _ (by omega) ?_
   intro v hv
   simp only[List.mem_flatten]at hv
   obtain⟨l,mq,H4⟩:=hv
   obtain⟨k,hk,rfl⟩:=List.getElem_of_mem mq
   rw[HL]at H4
   cases hx:Xe r.prom (k:Int) with
   | none=>rw[hx]at H4;cases H4
   | some y=>rw[hx]at H4;exact hs _ (MG hx) v H4
  clear hG
  obtain⟨LL,hLL⟩:=Zu (XH r)
  rw[←hLL]at il gu
  obtain⟨C,hC⟩:=Zu ((top+1).toNat-n.log.length)
  have Ay:Se n r = { r with prop:=(List.range' n.log.length C).foldl (QU n LL) r.prop,begun:=true }:=by
   unfold Se;rw[hC,gu,hLL]
  rw[Ay]
  have hu':=hu.symm
  simp -implicitDefEqProofs only[go_sem,↓reduceIte,f0,f1,f5,f12,YE,P11]
  refine VS.ZU (fun F' g'=>Kp (XA i) o h o g'∧F' 0=.pointer (some ⟨nb,0,none⟩)∧F' 1=.pointer (some ⟨ra.rb,0,none⟩)∧F' 4=u∧F' 5=.int .i64 top∧ak o g' u LL∧∃k:Nat,k≤C∧F' 9=.int .i64 ((n.log.length+k:Nat):Int)∧ZI o g' wb i nb { a with Zl:=some ra } { n with Zl:=some { r with prop:=(List.range' n.log.length k).foldl (QU n LL) r.prop } })
   (fun F' _=>n.log.length+C-(vi (F' 9)).toNat) rfl ⟨ZC kg,f0,f1,hu',f5,il,0,by omega,rfl,N1⟩ ?_
  rintro F2 g2 ⟨K2,f0,f1,f4,f5,il,k,hk,f9,N2⟩
  obtain⟨pk,tK⟩:=Zu ((List.range' n.log.length k).foldl (QU n LL) r.prop)
  rw[←tK]at N2
  have R2:YG o i g2 ra { r with prop:=pk }:=N2.pt.Zl
  obtain⟨_,_,_,q4,_⟩:=R2.rr
  have P2:=Zy N2.ZD.2 N2.pt.store.len
  have JL:=Za N2.ZD.2
  have DX:=Za R2.ZD.2
  by_cases hkc:k<C
  ·have hle:(((n.log.length+k:Nat):Int))≤top:=by omega
   have lk:=fun (K:Value→Hp→Prop)=>Yn (K:=K) (n:=((n.log.length+k:Nat):Int)) (c:=true) VJ Ob N2.pt.known.2
   rw[Xh]at lk
   have YM:(List.range' n.log.length (k+1)).foldl (QU n LL) r.prop=QU n LL pk (n.log.length+k):=by
    rw[List.range'_concat,List.foldl_append,←tK];simp
   cases hx:Xe n.known ((n.log.length+k:Nat):Int) with
   | some y=>
    have e6:QU n LL pk (n.log.length+k)=pk:=by unfold QU;rw[if_neg (by rw[hx];simp)]
    simp only[show ({ n with Zl:=some { r with prop:=pk } }:Nd).known=n.known from rfl,hx,Option.map_some,Option.getD_some,Option.isSome_some,↓reduceIte]at lk
    simp -implicitDefEqProofs only[go_sem,↓reduceIte,f0,f1,f4,f5,f9,hle,P2.known,lk,WJ]
    have kx:=ZW K2.ZV (.cells y.C.toArray 47)
    unfold Yy
    refine⟨⟨K2.push _,f0,f1,f4,f5,il.Zc kx,k+1,hkc,?_,by rw[YM,e6];exact N2.still kx⟩,?_⟩
    ·show Value.int .i64 _=Value.int .i64 _
     congr 1
    ·simp only[vi,Zh,↓reduceIte,f9];omega
   | none=>
    have e6:QU n LL pk (n.log.length+k)=ins pk ((n.log.length+k:Nat):Int) (DL LL ((n.log.length+k:Nat):Int)):=by unfold QU;rw[if_pos hx]
    simp only[show ({ n with Zl:=some { r with prop:=pk } }:Nd).known=n.known from rfl,hx,Option.map_none,Option.getD_none,Option.isSome_none,↓reduceIte]at lk
    simp -implicitDefEqProofs only[go_sem,↓reduceIte,f0,f1,f4,f5,f9,hle,P2.known,lk]
    obtain⟨g3,Fg⟩:=Zu (g2.push (.cells qE.C.toArray 47):Hp)
    have kx:Kp JK o g2 o g3:=by rw[Fg];exact ZW K2.ZV _
    rw[←Fg]
    have N3:=N2.still kx
    have R3:YG o i g3 ra { r with prop:=pk }:=N3.pt.Zl
    obtain⟨_,_,_,q43,_⟩:=R3.rr
    have ZoE:=Za R3.ZD.2
    have hv3:=il.Zc kx
    have LLl:LL.length≤4611686018427387904:=by rw[hLL,Tm];omega
    refine VS.z (g3.size) [12] (.p 0 (.p 1 (.p 2 (.q 3 (.p 4 (.p 5 (.p 6 (.s 7 (.p 8 (.p 9 (.p 10 (.p 11 (.w 12 .nil))))))))))))) mixed (by kernel_rfl) ?_
    simp -implicitDefEqProofs only[go_sem,↓reduceIte,f0,f1,f4,f5,f9,q43,ZoE]
    refine (tI T g3 u LL ((n.log.length+k:Nat):Int) hv3.vss LLl).use ?_
    rintro _ g4 ⟨ua,b4⟩
    unfold GQ at ua
    subst ua
    have k4:=Zs kx.ZV b4
    have N4:=N3.still k4
    have R4:YG o i g4 ra { r with prop:=pk }:=N4.pt.Zl
    have eC:GP (if SJ ((n.log.length+k:Nat):Int) LL.flatten=0 then U2 ((n.log.length+k:Nat):Int) LL.flatten else T9)=(DL LL ((n.log.length+k:Nat):Int)).C:=by
     unfold DL;split<;>rfl
    rw[eC]
    simp -implicitDefEqProofs only[go_sem,↓reduceIte,b4,f0,f1,f4,f5,f9]
    rw[XN VJ R4.prop.2]
    obtain⟨k5,R5⟩:=R4.dk k4.ZV (k:=((n.log.length+k:Nat):Int)) (x:=DL LL ((n.log.length+k:Nat):Int))
    have k5':Kp (XA i) o g4 o _:=k5.mono fun t q=>.inr (.inr (.inl q))
    simp -implicitDefEqProofs only[go_sem,↓reduceIte,f9]
    unfold Yy
    refine⟨⟨(K2.trans ((ZC kx).trans (ZC k4))).trans k5',f0,f1,f4,f5,(hv3.Zc k4).Zc k5',k+1,hkc,?_,?_⟩,?_⟩
    ·show Value.int .i64 _=Value.int .i64 _
     congr 1
    ·rw[YM,e6]
     exact⟨N4.ZD.Zc k5 (by intro e;cases e),ZS.Qg N4.pt k5' rfl rfl R5⟩
    ·simp only[vi,Zh,↓reduceIte,f9];omega
  ·have hgt:¬(((n.log.length+k:Nat):Int))≤top:=by omega
   obtain rfl:k=C:=by omega
   obtain⟨g4,w4,h4⟩:∃g4,Jn g2 ⟨ra.rb,3,none⟩ (.bool true)=some g4∧g4=g2.setIfInBounds ra.rb (.cells (ad { r with prop:=pk,begun:=true } ra).toArray 181):=by
    refine⟨_,?_,rfl⟩
    rw[Yq R2.ZD.2,if_pos ⟨by simp[ad],rfl⟩];rfl
   simp -implicitDefEqProofs only[go_sem,↓reduceIte,f0,f1,f4,f5,f9,hgt,DX,w4]
   have kk:Kp (fun t=>t=.Zl i) o g2 o g4:=by rw[h4];exact (Kp.refl K2.ZV (fun t=>t=.Zl i)).set R2.ZD.1 rfl _
   have R4:YG o i g4 ra { r with prop:=pk,begun:=true }:=⟨⟨R2.ZD.1,by rw[h4];exact Zw R2.ZD.2⟩,R2.prom.Zc kk (by intro e;cases e),R2.Si.Zc kk,R2.prop.Zc kk (by intro e;cases e),R2.Jv.Zc kk (by intro e;cases e),R2.Tj.Zc kk (fun _ e=>by cases e),R2.keys⟩
   rw[←tK]
   refine⟨ra,rfl,K2.trans (kk.mono fun t q=>.inl q),N2.ZD.Zc kk (by intro e;cases e),ZS.Qg N2.pt (kk.mono fun t q=>.inl q) rfl rfl R4⟩
end Go.Proofs.YtkfhncfkagcamaaGreatDoor
