/- A node is asked for a promise. -/
import Derived.Test.YtnhbpmoeaodmnaaGreatDoorMop
import Derived.Test.YtnhbpmoeaodmnaaGreatDoorOpn
namespace Go.Proofs.YtnhbpmoeaodmnaaGreatDoor
open Go Go.V
set_option linter.unusedSimpArgs false
set_option linter.unusedVariables false
set_option maxRecDepth 100000
theorem gl2 (G:Hp) (X Y:Obj):((G.push X).push Y)[G.size]? = some X:=by rw[Zq (by simp),Zb]
theorem gs2 (G:Hp) (k:Nat) (X Y:Obj):((G.setIfInBounds k X).push Y)[G.size]? = some Y:=by
 have:=Zb (h:=G.setIfInBounds k X) (o:=Y);rwa [Array.size_setIfInBounds]at this
theorem gr2 (G:Hp) (X Y:Obj):((G.push X).push Y)[G.size+1]? = some Y:=by
 have:=Zb (h:=G.push X) (o:=Y);rwa [Array.size_push]at this
def ZoN (B:Nat) (g':Hp) (A C:Value) (p:Yw) (l:List Vt) (b:Yw):Prop:=
 ∃ka kc w1 w2,A=Zn ka∧C=Zn kc∧B≤ka∧B≤kc∧g'[ka]? = some (.cells (YI (if Yo p l b=0 then b else ⟨0,0⟩) w1).toArray 63)∧g'[kc]? = some (.cells [w2].toArray 61) ∧
  Jc B 96 Zm 8 g' w1 (if Yo p l b=0 then l else [])∧Jc B 96 Zm 8 g' w2 (if Yo p l b=0 then l else [])
def ZiA (B:Nat) (g':Hp) (A:Value) (l:List Nat) (n:Int) (E:Int) (add:List Nat):Prop:=
 ∃ka w,A=.pointer (some ⟨ka,0,none⟩)∧B≤ka∧g'[ka]? = some (.cells [w,.int .i64 (if E=0 then n else 0)].toArray 58)∧ZZ B 5 g' w (if E=0 then l++add else [])
set_option maxHeartbeats 1000000 in
theorem Zlr (T:World) (h:Hp) (o:Ow) (wb i nb:Nat) (Z6:Nat→Nat) (a:NA) (n:Nd) (YE:WA) (fl:List Y6) (bad:Nat→Int) (told:List Tld) (l:Y6) (w:Value) (d:Dom o h)
  (N:ZJ o h wb i nb a n) (W:ZF o h wb Z6 YE fl bad told) (iv:ImV o h w l.vs) (Yn:fl.length≤1000000000000) (hvl:n.own.l.length≤1000000) (hdl:n.data.length≤1000000) (tb:Tbs o h) :
  Zd Tryz.prog T 61 #[Zn wb,Zn nb,.agg (YX l w).toArray] h fun v' h'=>∃o' a' Xq,Kp (fun t=>t=.world∨t=.Zl∨t=.node i) o h o' h'∧ZJ o' h' wb i nb a' (YW n l).n∧ZF o' h' wb Z6 Xq (fl++(YW n l).ls) bad told:=by
 obtain⟨pw,cw,rfl⟩:=iv.isSlice
 refine Zd.Zi (args:=[_,_,_]) Tryz.func61 rfl rfl rfl rfl ?_
 unfold Zn YX
 simp -implicitDefEqProofs only[go_sem,↓reduceIte]
 obtain⟨h1,YF⟩:=Zx (((h.push (.cells [Zn wb].toArray 49)).push (.cells [Zn nb].toArray 56)).push (.cells (YX l (.slice pw l.vs.length cw)).toArray 98):Hp)
 have k1:Kp J9 o h o h1:=by rw[YF];exact ((Kp.refl d _).push _ |>.push _).push _
 have s1:h1.size=h.size+3:=by rw[YF];simp
 have d1:∀b,h.size≤b→o b=none:=d
 have x3:ZM o h1 h.size (.cells [Zn wb].toArray 49):=⟨d _ (by omega),by rw[YF,Zq (by simp;omega),gl2]⟩
 have x4:ZM o h1 (h.size+1) (.cells [Zn nb].toArray 56):=⟨d _ (by omega),by rw[YF,Zq (by simp),gr2]⟩
 have x5:ZM o h1 (h.size+2) (.cells (YX l (.slice pw l.vs.length cw)).toArray 98):=⟨d _ (by omega),by
  have:=Zb (h:=(h.push (.cells [Zn wb].toArray 49)).push (.cells [Zn nb].toArray 56)) (o:=.cells (YX l (.slice pw l.vs.length cw)).toArray 98)
  rw[YF];simpa using this⟩
 have e0:((h.push (.cells [Zn wb].toArray 49)).push (.cells [Zn nb].toArray 56)).push (.cells (YX l (.slice pw l.vs.length cw)).toArray 98)=h1:=YF.symm
 unfold Zn YX at e0
 rw[e0]
 clear e0 YF
 have N1:=N.still k1
 have W1:=W.still k1
 have iv1:=iv.Zc k1
 have R1:=Zw N1.ZE.2 N1.pt.store.len
 have JE:=Za N1.ZE.2
 have l3:=Za x3.2
 have l4:=Za x4.2
 have l5:=Za x5.2
 have r3:hc h1 ⟨h.size,0,none⟩=some (Zn wb):=Zg x3.2
 have r4:hc h1 ⟨h.size+1,0,none⟩=some (Zn nb):=Zg x4.2
 have r53:rd h1 ⟨h.size+2,3,none⟩ 2=some [.int .i64 l.b.r,.int .i64 l.b.n]:=by rw[Z4 x5.2 (by simp[YX])];rfl
 have r51:hc h1 ⟨h.size+2,1,none⟩=some (.int .i64 l.Jm):=Zg x5.2
 unfold Zn at r3 r4
 have Zg4:=R1.own
 obtain⟨pv,cv,hpv⟩:=N1.pt.YM.isSlice
 rw[hpv]at Zg4
 have call:∀G,Zf h1.size h1 G→Zd Tryz.prog T 72 #[.agg #[.int .i64 n.own.p.r,.int .i64 n.own.p.n,.slice pv n.own.l.length cv],.agg #[.int .i64 l.b.r,.int .i64 l.b.n]] G fun v' h'=>ZkE G.size h' v' n.own.p n.own.l l.b∧Zf G.size G h':=fun G hG=>
  Zbr T G n.own.p _ n.own.l l.b (by rw[←hpv];exact N1.pt.YM.ts.Z9 hG) (by omega)
 obtain⟨E,hE⟩:=Zx (Yo n.own.p n.own.l l.b)
 have wA:∀(G:Hp) (k:Nat) (r m:Int) (p:Option Addr) (L c:Nat),G[k]? = some (.cells [.int .i64 0,.int .i64 0,.slice none 0 0].toArray 63)→wr G ⟨k,0,none⟩ [.int .i64 r,.int .i64 m,.slice p L c]=some (G.setIfInBounds k (.cells [.int .i64 r,.int .i64 m,.slice p L c].toArray 63)):=fun G k r m p L c hx=>by
  rw[ZQ hx 0 _];rfl
 have wB:∀(G:Hp) (k:Nat) (p:Option Addr) (L c:Nat),G[k]? = some (.cells [.slice none 0 0].toArray 61)→Jp G ⟨k,0,none⟩ (.slice p L c)=some (G.setIfInBounds k (.cells [.slice p L c].toArray 61)):=fun G k p L c hx=>by
  rw[Yu hx 0 _];rfl
 refine VS.mono (N:=fun F' g'=>Zf h1.size h1 g'∧F' 3=.pointer (some ⟨h.size,0,none⟩)∧F' 4=.pointer (some ⟨h.size+1,0,none⟩)∧F' 5=.pointer (some ⟨h.size+2,0,none⟩)∧F' 8=.int .i64 E∧ZoN h1.size g' (F' 6) (F' 7) n.own.p n.own.l l.b) ?_ ?_ (fun _ _ _ h=>h) (fun _ _ h=>h)
 ·refine VS.z (h1.size) [6,13,14] (.q 0 (.p 1 (.p 2 (.q 3 (.p 4 (.q 5 (.or 6 (.p 7 (.p 8 (.p 9 (.p 10 (.or 11 (.s 12 (.w 13 (.w 14 (.p 15 .nil)))) (.s 12 (.s 11 (.w 13 (.w 14 (.p 15 .nil)))))))))) (.or 11 (.or 6 (.p 7 (.p 8 (.p 9 (.p 10 (.s 12 (.w 13 (.w 14 (.p 15 .nil)))))))) (.s 12 (.w 6 (.p 7 (.p 8 (.p 9 (.p 10 (.w 13 (.w 14 (.p 15 .nil)))))))))) (.s 12 (.or 6 (.p 7 (.p 8 (.p 9 (.p 10 (.s 11 (.w 13 (.w 14 (.p 15 .nil)))))))) (.s 11 (.w 6 (.p 7 (.p 8 (.p 9 (.p 10 (.w 13 (.w 14 (.p 15 .nil))))))))))))))))))) mixed (by kernel_rfl) ?_
  simp -implicitDefEqProofs only[go_sem,↓reduceIte,r4,Zg4,r53,JE,l4,l5]
  unfold ZoN Zn YI
  repeat' (first|with_reducible exact Zf.refl _ _|with_reducible exact Zf.push (by omega) _|with_reducible refine And.intro ?_ ?_)
  all_goals first
   | (refine (call h1 (Zf.refl _ _)).use ?_
      rintro _ g5 ⟨⟨w1,w2,rfl,o1,o2⟩,b5⟩
      obtain⟨p1,c1,rfl,_⟩:=o1.open
      obtain⟨p2,c2,rfl,_⟩:=o2.open
      rw[←hE]at *
      have s5:=b5.size
      unfold YI
      simp -implicitDefEqProofs only[go_sem,↓reduceIte,b5]
      refine⟨⟨_,_,_,_,rfl,rfl,s5,by omega,gl2 _ _ _,gr2 _ _ _,(o1.push _).push _,(o2.push _).push _⟩,⟨_,_,_,_,rfl,rfl,by omega,s5,gr2 _ _ _,gl2 _ _ _,(o1.push _).push _,(o2.push _).push _⟩⟩)
   | (refine (call (h1.push (.cells _ 63)) (Zf.push (Nat.le_refl _) _)).use ?_
      rintro _ g5 ⟨⟨w1,w2,rfl,o1,o2⟩,b5⟩
      obtain⟨p1,c1,rfl,_⟩:=o1.open
      obtain⟨p2,c2,rfl,_⟩:=o2.open
      rw[←hE]at *
      have s5:=b5.size
      rw[Array.size_push]at s5
      have B5:Zf h1.size h1 g5:=(Zf.push (Nat.le_refl _) _).trans (b5.mono (by simp))
      have xA:=b5.get (k:=h1.size) (by simp) Zb
      have wA5:=wA _ _ (if E=0 then l.b else ⟨0,0⟩).r (if E=0 then l.b else ⟨0,0⟩).n p1 (if E=0 then n.own.l else []).length c1 xA
      have zA:=Za xA
      unfold YI
      simp -implicitDefEqProofs only[go_sem,↓reduceIte,B5,wA5,zA]
      exact⟨_,_,_,_,rfl,rfl,Nat.le_refl _,by omega,by rw[Zq (by simpa using zA)];exact Zu xA,gs2 _ _ _ _,((o1.ZR (by simp) _).push _).mono (by simp),((o2.ZR (by simp) _).push _).mono (by simp)⟩)
   | (refine (call (h1.push (.cells _ 61)) (Zf.push (Nat.le_refl _) _)).use ?_
      rintro _ g5 ⟨⟨w1,w2,rfl,o1,o2⟩,b5⟩
      obtain⟨p1,c1,rfl,_⟩:=o1.open
      obtain⟨p2,c2,rfl,_⟩:=o2.open
      rw[←hE]at *
      have s5:=b5.size
      rw[Array.size_push]at s5
      have B5:Zf h1.size h1 g5:=(Zf.push (Nat.le_refl _) _).trans (b5.mono (by simp))
      have xB:=b5.get (k:=h1.size) (by simp) Zb
      have wB5:=wB _ _ p2 (if E=0 then n.own.l else []).length c2 xB
      have zB:=Za xB
      unfold YI
      simp -implicitDefEqProofs only[go_sem,↓reduceIte,B5,wB5,zB]
      exact⟨_,_,_,_,rfl,rfl,by omega,Nat.le_refl _,gs2 _ _ _ _,by rw[Zq (by simpa using zB)];exact Zu xB,((o1.ZR (by simp) _).push _).mono (by simp),((o2.ZR (by simp) _).push _).mono (by simp)⟩)
   | (refine (call ((h1.push (.cells _ 63)).push (.cells _ 61)) ((Zf.push (Nat.le_refl _) _).Ye (by simp) _)).use ?_
      rintro _ g5 ⟨⟨w1,w2,rfl,o1,o2⟩,b5⟩
      obtain⟨p1,c1,rfl,_⟩:=o1.open
      obtain⟨p2,c2,rfl,_⟩:=o2.open
      rw[←hE]at *
      have s5:=b5.size
      rw[Array.size_push,Array.size_push]at s5
      have B5:Zf h1.size h1 g5:=((Zf.push (Nat.le_refl _) _).Ye (by simp) _).trans (b5.mono (by simp;omega))
      have xA:=b5.get (k:=h1.size) (by simp;omega) (gl2 _ _ _)
      have xB:=b5.get (k:=h1.size+1) (by simp) (gr2 _ _ _)
      have wA5:=wA _ _ (if E=0 then l.b else ⟨0,0⟩).r (if E=0 then l.b else ⟨0,0⟩).n p1 (if E=0 then n.own.l else []).length c1 xA
      have zA:=Za xA
      have xB':=fun o:Obj=>(Yf (o:=o) (show h1.size≠h1.size+1 by omega)).trans xB
      have wB5:=fun o:Obj=>wB _ _ p2 (if E=0 then n.own.l else []).length c2 (xB' o)
      have zB:h1.size+1<g5.size:=Za xB
      unfold YI
      simp -implicitDefEqProofs only[go_sem,↓reduceIte,B5,wA5,zA,wB5,zB]
      exact⟨_,_,_,_,rfl,rfl,by omega,by omega,(Yf (by omega)).trans (Zu xA),Zu (xB' _),((o1.ZR (by simp;omega) _).ZR (by simp) _).mono (by simp;omega),((o2.ZR (by simp;omega) _).ZR (by simp) _).mono (by simp;omega)⟩)
   | (refine (call ((h1.push (.cells _ 61)).push (.cells _ 63)) ((Zf.push (Nat.le_refl _) _).Ye (by simp) _)).use ?_
      rintro _ g5 ⟨⟨w1,w2,rfl,o1,o2⟩,b5⟩
      obtain⟨p1,c1,rfl,_⟩:=o1.open
      obtain⟨p2,c2,rfl,_⟩:=o2.open
      rw[←hE]at *
      have s5:=b5.size
      rw[Array.size_push,Array.size_push]at s5
      have B5:Zf h1.size h1 g5:=((Zf.push (Nat.le_refl _) _).Ye (by simp) _).trans (b5.mono (by simp;omega))
      have xB:=b5.get (k:=h1.size) (by simp;omega) (gl2 _ _ _)
      have xA:=b5.get (k:=h1.size+1) (by simp) (gr2 _ _ _)
      have wA5:=wA _ _ (if E=0 then l.b else ⟨0,0⟩).r (if E=0 then l.b else ⟨0,0⟩).n p1 (if E=0 then n.own.l else []).length c1 xA
      have zA:=Za xA
      have xB':=fun o:Obj=>(Yf (o:=o) (show h1.size+1≠h1.size by omega)).trans xB
      have wB5:=fun o:Obj=>wB _ _ p2 (if E=0 then n.own.l else []).length c2 (xB' o)
      have zB:h1.size<g5.size:=Za xB
      unfold YI
      simp -implicitDefEqProofs only[go_sem,↓reduceIte,B5,wA5,zA,wB5,zB]
      exact⟨_,_,_,_,rfl,rfl,by omega,by omega,(Yf (by omega)).trans (Zu xA),Zu (xB' _),((o1.ZR (by simp) _).ZR (by simp;omega) _).mono (by simp;omega),((o2.ZR (by simp) _).ZR (by simp;omega) _).mono (by simp;omega)⟩)
 ·rintro F1 g1 ⟨b1,f3,f4,f5,f8,ka,kc,w1,w2,fA,fC,ge1,ge2,yA,yC,o1,o2⟩
  rw[←hE]at yA o1 o2
  have kb:=ZB k1.ZU b1
  have N2:=N1.still kb
  have W2:=W1.still kb
  have K2:Kp J9 o h o g1:=k1.Z9 b1
  have y3:=x3.Zc kb
  have y4:=x4.Zc kb
  have y5:=x5.Zc kb
  have iv2:=iv1.Zc kb
  have tb2:=(tb.Zc k1).Zc kb
  have R2:=Zw N2.ZE.2 N2.pt.store.len
  have m3:=Za y3.2
  have m4:=Za y4.2
  have m5:=Za y5.2
  have JH:=Za N2.ZE.2
  have q3:hc g1 ⟨h.size,0,none⟩=some (Zn wb):=Zg y3.2
  have q4:hc g1 ⟨h.size+1,0,none⟩=some (Zn nb):=Zg y4.2
  have q53:rd g1 ⟨h.size+2,3,none⟩ 2=some [.int .i64 l.b.r,.int .i64 l.b.n]:=by rw[Z4 y5.2 (by simp[YX])];rfl
  have q51:hc g1 ⟨h.size+2,1,none⟩=some (.int .i64 l.Jm):=Zg y5.2
  unfold Zn at q3 q4
  have R2p:=R2.Zll
  by_cases e:E=0
  case neg=>
   have eP:YW n l=⟨n,[⟨7,n.me,l.Jm,n.own.p,vt0,[]⟩],[]⟩:=by unfold YW;rw[←hE,if_pos e]
   rw[eP]
   simp -implicitDefEqProofs only[go_sem,↓reduceIte,f8,e]
   refine VS.z (g1.size) [10] (.q 0 (.q 1 (.p 2 (.q 3 (.q 4 (.p 5 (.p 6 (.p 7 (.q 8 (.p 9 (.w 10 .nil))))))))))) mixed (by kernel_rfl) ?_
   simp -implicitDefEqProofs only[go_sem,↓reduceIte,f3,f4,f5,q3,q4,q51,R2p,m3,m4,m5,JH]
   refine (UA T g1 o wb nb Z6 n.me YE fl bad told l.Jm ⟨7,0,0,n.own.p,vt0,[]⟩ (.slice none 0 0) K2.ZU W2 R2.me JH (Im.nil _ _ _ _) Yn).use ?_
   rintro v' h' ⟨o',Xq,k,_,W'⟩
   simp -implicitDefEqProofs only[go_sem,↓reduceIte]
   exact⟨o',a,Xq,(ZC K2).trans (k.mono fun t q=>q.elim .inl fun q=>.inr (.inl q)),N2.Zc k (by rintro t (rfl|rfl)<;>simp[Tg.of]),W'⟩
  rw[if_pos e]at yA o1 o2
  have iv7:ImV o g1 w2 n.own.l:=Im.QV o2.own (fun b hb=>k1.ZU b hb)
  have iv6:ImV o g1 w1 n.own.l:=Im.QV o1.own (fun b hb=>k1.ZU b hb)
  unfold Zn at fA fC
  simp -implicitDefEqProofs only[go_sem,↓reduceIte,f8,e,f3,f4,f5,fC]
  obtain⟨g2,QF⟩:=Zx (g1.push (.cells [fnV 88 [h.size,h.size+1,h.size+2,kc]].toArray 1):Hp)
  have k2:=ZV K2.ZU (.cells [fnV 88 [h.size,h.size+1,h.size+2,kc]].toArray 1)
  rw[←QF]at k2
  have K3:Kp J9 o h o g2:=K2.trans k2
  have x9:ZM o g2 g1.size (.cells [fnV 88 [h.size,h.size+1,h.size+2,kc]].toArray 1):=⟨K2.ZU _ (Nat.le_refl _),by rw[QF];exact Zb⟩
  have e2:g1.push (.cells [fnV 88 [h.size,h.size+1,h.size+2,kc]].toArray 1)=g2:=QF.symm
  unfold fnV at e2
  simp only[List.map]at e2
  unfold Zn at e2
  rw[e2]
  clear e2 QF
  have N3:=N2.still k2
  have W3:=W2.still k2
  have z3:=y3.Zc k2
  have z4:=y4.Zc k2
  have z5:=y5.Zc k2
  have z6:=(show ZM o g1 ka _ from⟨k1.ZU ka ge1,yA⟩).Zc k2
  have z7:=(show ZM o g1 kc _ from⟨k1.ZU kc ge2,yC⟩).Zc k2
  have iw7:=iv7.Zc k2
  have iw6:=iv6.Zc k2
  have tb3:=tb2.Zc k2
  clear R2 R2p m3 m4 m5 JH q3 q4 q53 q51 R1 Zg4 JE l3 l4 l5 r3 r4 r53 r51
  have R3:=Zw N3.ZE.2 N3.pt.store.len
  have m3:=Za z3.2
  have m4:=Za z4.2
  have m5:=Za z5.2
  have m9:=Za x9.2
  have Zdb:=Za N3.ZE.2
  have q4:hc g2 ⟨h.size+1,0,none⟩=some (Zn nb):=Zg z4.2
  have q53:rd g2 ⟨h.size+2,3,none⟩ 2=some (X6 l.b):=by rw[Z4 z5.2 (by simp[YX])];rfl
  have q9:hc g2 ⟨g1.size,0,none⟩=some (fnV 88 [h.size,h.size+1,h.size+2,kc]):=Zg x9.2
  have R3p:rd g2 ⟨nb,4,none⟩ 2=some (X6 n.own.p):=R3.Zll
  unfold Zn at q4
  refine VS.q mixed (by kernel_rfl) ?_
  simp -implicitDefEqProofs only[go_sem,↓reduceIte,f4,f5,q4,q53,R3p]
  by_cases ep:n.own.p=l.b
  ·have eP:YW n l=⟨n,[⟨1,n.me,l.Jm,l.b,vt0,n.own.l⟩],[]⟩:=by unfold YW;rw[←hE,if_neg (by omega),if_pos ep]
   rw[eP]
   unfold fnV at q9
   simp only[List.map]at q9
   unfold Zn at q9
   simp -implicitDefEqProofs only[go_sem,↓reduceIte,ep,q9]
   refine (ZoK T g2 o wb nb Z6 n.me YE fl bad told h.size (h.size+1) (h.size+2) kc l _ w2 n.own.l K3.ZU W3 R3.me Zdb Yn z3 z4 z5 z7 iw7).use ?_
   rintro v' h' ⟨o',Xq,k,W'⟩
   simp -implicitDefEqProofs only[go_sem,↓reduceIte]
   exact⟨o',a,Xq,(ZC K3).trans (k.mono fun t q=>q.elim .inl fun q=>.inr (.inl q)),N3.Zc k (by rintro t (rfl|rfl)<;>simp[Tg.of]),W'⟩
  simp -implicitDefEqProofs only[go_sem,↓reduceIte,ep]
  have R3t:=R3.tape
  obtain⟨pd,cd,hpd⟩:=N3.pt.data.1.isSlice
  rw[hpd]at R3t
  obtain⟨E2,hE2⟩:=Zx (JS n.data n.Y4 l.b)
  have call2:∀G,Zf g2.size g2 G→Zd Tryz.prog T 89 #[.agg #[.slice pd n.data.length cd,.int .i64 n.Y4],.agg #[.int .i64 l.b.r,.int .i64 l.b.n]] G fun v' h'=>Zbv G.size h' v' n.data n.Y4 E2 (Yj (XQ l.b))∧Zf G.size G h':=fun G hG=>by
   rw[hE2]
   exact Zfb T G _ n.Y4 n.data l.b (by rw[←hpd];exact N3.pt.data.bs.Z9 hG) (by omega) (tb3.tk.Jq hG)
  have wT:∀(G:Hp) (k:Nat) (m:Int) (p:Option Addr) (L c:Nat),G[k]? = some (.cells [.slice none 0 0,.int .i64 0].toArray 58)→wr G ⟨k,0,none⟩ [.slice p L c,.int .i64 m]=some (G.setIfInBounds k (.cells [.slice p L c,.int .i64 m].toArray 58)):=fun G k m p L c hx=>by
   rw[ZQ hx 0 _];rfl
  unfold X6 at q53
  refine VS.mono (N:=fun F' g'=>Zf g2.size g2 g'∧F' 3=.pointer (some ⟨h.size,0,none⟩)∧F' 4=.pointer (some ⟨h.size+1,0,none⟩)∧F' 5=.pointer (some ⟨h.size+2,0,none⟩)∧F' 6=.pointer (some ⟨ka,0,none⟩)∧F' 9=.pointer (some ⟨g1.size,0,none⟩)∧F' 8=.int .i64 E2∧ZiA g2.size g' (F' 10) n.data n.Y4 E2 (Yj (XQ l.b))) ?_ ?_ (fun _ _ _ h=>h) (fun _ _ h=>h)
  ·refine VS.z (g2.size) [6,11] (.q 0 (.p 1 (.p 2 (.q 3 (.p 4 (.q 5 (.or 6 (.p 7 (.p 8 (.p 9 (.s 10 (.w 11 (.p 12 .nil)))))) (.s 10 (.w 6 (.p 7 (.p 8 (.p 9 (.w 11 (.p 12 .nil)))))))))))))) mixed (by kernel_rfl) ?_
   simp -implicitDefEqProofs only[go_sem,↓reduceIte,f3,f4,f5,fA,q4,R3t,q53,m4,m5,Zdb]
   unfold ZiA
   repeat' (first|with_reducible exact Zf.refl _ _|with_reducible exact Zf.push (by omega) _|with_reducible refine And.intro ?_ ?_)
   all_goals first
    | (refine (call2 g2 (Zf.refl _ _)).use ?_
       rintro _ g5 ⟨⟨w,rfl,o1⟩,b5⟩
       obtain⟨p1,c1,rfl,_⟩:=o1.bs.open
       have s5:=b5.size
       simp -implicitDefEqProofs only[go_sem,↓reduceIte,b5]
       exact⟨f3,f4,f5,fA,_,_,rfl,s5,Zb,o1.push _⟩)
    | (refine (call2 (g2.push (.cells _ 58)) (Zf.push (Nat.le_refl _) _)).use ?_
       rintro _ g5 ⟨⟨w,rfl,o1⟩,b5⟩
       obtain⟨p1,c1,rfl,_⟩:=o1.bs.open
       have B5:Zf g2.size g2 g5:=(Zf.push (Nat.le_refl _) _).trans (b5.mono (by simp))
       have xA:=b5.get (k:=g2.size) (by simp) Zb
       have wA5:=wT _ _ (if E2=0 then n.Y4 else 0) p1 (if E2=0 then n.data++Yj (XQ l.b) else []).length c1 xA
       have zA:=Za xA
       simp -implicitDefEqProofs only[go_sem,↓reduceIte,B5,wA5,zA]
       exact⟨f3,f4,f5,fA,_,_,rfl,Nat.le_refl _,Zu xA,(o1.ZR (by simp) _).mono (by simp)⟩)
  ·rintro F2 g3 ⟨b3,f3,f4,f5,f6,f9,f8,kt,wt,fT,ge3,yT,oT⟩
   have kb3:=ZB K3.ZU b3
   have N4:=N3.still kb3
   have W4:=W3.still kb3
   have K4:Kp J9 o h o g3:=K3.Z9 b3
   by_cases e2:E2=0
   case neg=>
    have eP:YW n l=⟨n,[],[]⟩:=by unfold YW;rw[←hE,if_neg (by omega),if_neg ep,←hE2,if_pos e2]
    rw[eP,List.append_nil]
    simp -implicitDefEqProofs only[go_sem,↓reduceIte,f8,e2]
    exact⟨o,a,YE,ZC K4,N4,W4⟩
   rw[if_pos e2]at yT oT
   have u3:=z3.Zc kb3
   have u4:=z4.Zc kb3
   have u5:=z5.Zc kb3
   have u6:=z6.Zc kb3
   have u7:=z7.Zc kb3
   have u9:=x9.Zc kb3
   have iu6:=iw6.Zc kb3
   have iu7:=iw7.Zc kb3
   have iT:ImB o g3 wt (n.data++Yj (XQ l.b)):=⟨Im.QV oT.own (fun b hb=>K3.ZU b hb),oT.byte⟩
   have eP:YW n l=⟨{ n with data:=n.data++Yj (XQ l.b),Zy:=some (.pro ⟨l.b,n.own.l⟩ l.Jm l.b n.own.l) },[],[]⟩:=by unfold YW;rw[←hE,if_neg (by omega),if_neg ep,←hE2,if_neg (by omega)]
   rw[eP,List.append_nil]
   clear R3 m3 m4 m5 m9 Zdb q4 q53 q9 R3p R3t
   obtain⟨pt,ct,rfl,_⟩:=oT.bs.open
   have q4:hc g3 ⟨h.size+1,0,none⟩=some (Zn nb):=Zg u4.2
   have qT:rd g3 ⟨kt,0,none⟩ 2=some [.slice pt (n.data++Yj (XQ l.b)).length ct,.int .i64 n.Y4]:=Zo yT rfl
   have Zfx:=Za N4.ZE.2
   obtain⟨g4,w4,N5,k5⟩:=ZS.write (a:={ a with data:=.slice pt (n.data++Yj (XQ l.b)).length ct }) (n:={ n with data:=n.data++Yj (XQ l.b) }) { N4.pt with data:=iT } K4.ZU N4.ZE ((YP N4.ZE.2 N4.pt.store.len).tape (.slice pt (n.data++Yj (XQ l.b)).length ct) n.Y4 rfl)
   have v4:=u4.Zc k5
   have q4':hc g4 ⟨h.size+1,0,none⟩=some (Zn nb):=Zg v4.2
   have Zdc:=Za N5.ZE.2
   have pn:Uj o g4 wb i nb a.Zh (fnV 90 [ka,h.size+1,g1.size]) (some (.pro ⟨l.b,n.own.l⟩ l.Jm l.b n.own.l)):=
    ⟨ka,h.size+1,g1.size,_,rfl,⟨_,u6.Zc k5,iu6.Zc k5⟩,v4,u9.Zc k5,h.size,h.size+1,h.size+2,kc,l,_,w2,rfl,u3.Zc k5,v4,u5.Zc k5,rfl,rfl,u7.Zc k5,iu7.Zc k5⟩
   obtain⟨g6,w6,N6,k6⟩:=ZS.write (a:={ a with data:=.slice pt (n.data++Yj (XQ l.b)).length ct,Zy:=fnV 90 [ka,h.size+1,g1.size] }) (n:={ n with data:=n.data++Yj (XQ l.b),Zy:=some (.pro ⟨l.b,n.own.l⟩ l.Jm l.b n.own.l) }) { N5.pt with Zy:=pn } k5.ZU N5.ZE ((YP N5.ZE.2 N5.pt.store.len).Zy (fnV 90 [ka,h.size+1,g1.size]) rfl)
   unfold fnV at w6
   simp only[List.map]at w6
   unfold Zn at q4 q4' w6
   simp -implicitDefEqProofs only[go_sem,↓reduceIte,f8,e2,f4,f6,f9,fT,q4,qT,w4,Zfx,q4',w6,Zdc]
   have K6:Kp (fun t=>t=.world∨t=.Zl∨t=.node i) o h o g6:=((ZC K4).trans (k5.mono fun t q=>.inr (.inr q))).trans (k6.mono fun t q=>.inr (.inr q))
   exact⟨o,_,YE,K6,N6,(W4.Zc k5 (by rintro t rfl;simp[Tg.of])).Zc k6 (by rintro t rfl;simp[Tg.of])⟩
def Zxe (B:Nat) (g':Hp) (A:Value) (p:Yw) (l:List Vt) (x:Vt):Prop:=
 ∃ka w,A=.pointer (some ⟨ka,0,none⟩)∧B≤ka∧g'[ka]? = some (.cells (YI (if YG p l x=0 then x.b else ⟨0,0⟩) w).toArray 63)∧Jc B 96 Zm 8 g' w (if YG p l x=0 then Js l x else [])
set_option maxHeartbeats 1000000 in
theorem ZtJ (T:World) (h:Hp) (o:Ow) (wb i nb:Nat) (Z6:Nat→Nat) (a:NA) (n:Nd) (YE:WA) (fl:List Y6) (bad:Nat→Int) (told:List Tld) (l:Y6) (w:Value) (d:Dom o h)
  (N:ZJ o h wb i nb a n) (W:ZF o h wb Z6 YE fl bad told) (iv:ImV o h w l.vs) (Yn:fl.length≤1000000000000) (hvl:n.own.l.length≤1000000) (hdl:n.data.length≤1000000) (tb:Tbs o h) :
  Zd Tryz.prog T 63 #[Zn wb,Zn nb,.agg (YX l w).toArray] h fun v' h'=>∃o' a' Xq,Kp (fun t=>t=.world∨t=.Zl∨t=.node i) o h o' h'∧ZJ o' h' wb i nb a' (asked n l).n∧ZF o' h' wb Z6 Xq (fl++(asked n l).ls) bad told:=by
 obtain⟨pw,cw,rfl⟩:=iv.isSlice
 refine Zd.Zi (args:=[_,_,_]) Tryz.func63 rfl rfl rfl rfl ?_
 unfold Zn YX
 simp -implicitDefEqProofs only[go_sem,↓reduceIte]
 obtain⟨h1,YF⟩:=Zx (((h.push (.cells [Zn wb].toArray 49)).push (.cells [Zn nb].toArray 56)).push (.cells (YX l (.slice pw l.vs.length cw)).toArray 98):Hp)
 have k1:Kp J9 o h o h1:=by rw[YF];exact ((Kp.refl d _).push _ |>.push _).push _
 have s1:h1.size=h.size+3:=by rw[YF];simp
 have d1:∀b,h.size≤b→o b=none:=d
 have x3:ZM o h1 h.size (.cells [Zn wb].toArray 49):=⟨d _ (by omega),by rw[YF,Zq (by simp;omega),gl2]⟩
 have x4:ZM o h1 (h.size+1) (.cells [Zn nb].toArray 56):=⟨d _ (by omega),by rw[YF,Zq (by simp),gr2]⟩
 have x5:ZM o h1 (h.size+2) (.cells (YX l (.slice pw l.vs.length cw)).toArray 98):=⟨d _ (by omega),by
  have:=Zb (h:=(h.push (.cells [Zn wb].toArray 49)).push (.cells [Zn nb].toArray 56)) (o:=.cells (YX l (.slice pw l.vs.length cw)).toArray 98)
  rw[YF];simpa using this⟩
 have e0:((h.push (.cells [Zn wb].toArray 49)).push (.cells [Zn nb].toArray 56)).push (.cells (YX l (.slice pw l.vs.length cw)).toArray 98)=h1:=YF.symm
 unfold Zn YX at e0
 rw[e0]
 clear e0 YF
 have N1:=N.still k1
 have W1:=W.still k1
 have iv1:=iv.Zc k1
 have R1:=Zw N1.ZE.2 N1.pt.store.len
 have JE:=Za N1.ZE.2
 have l3:=Za x3.2
 have l4:=Za x4.2
 have l5:=Za x5.2
 have r3:hc h1 ⟨h.size,0,none⟩=some (Zn wb):=Zg x3.2
 have r4:hc h1 ⟨h.size+1,0,none⟩=some (Zn nb):=Zg x4.2
 have r53:rd h1 ⟨h.size+2,5,none⟩ 8=some (Zm l.v):=by rw[Z4 x5.2 (by simp[YX])];rfl
 have r51:hc h1 ⟨h.size+2,1,none⟩=some (.int .i64 l.Jm):=Zg x5.2
 unfold Zn at r3 r4
 have Zg4:=R1.own
 obtain⟨pv,cv,hpv⟩:=N1.pt.YM.isSlice
 rw[hpv]at Zg4
 unfold Zm at r53
 have call:∀G,Zf h1.size h1 G→Zd Tryz.prog T 74 #[.agg #[.int .i64 n.own.p.r,.int .i64 n.own.p.n,.slice pv n.own.l.length cv],.agg (Zm l.v).toArray] G fun v' h'=>ZoB G.size h' v' n.own.p n.own.l l.v∧Zf G.size G h':=fun G hG=>
  Zez T G n.own.p _ n.own.l l.v (by rw[←hpv];exact N1.pt.YM.ts.Z9 hG) (by omega)
 unfold Zm at call
 obtain⟨E,hE⟩:=Zx (YG n.own.p n.own.l l.v)
 have wA:∀(G:Hp) (k:Nat) (r m:Int) (p:Option Addr) (L c:Nat),G[k]? = some (.cells [.int .i64 0,.int .i64 0,.slice none 0 0].toArray 63)→wr G ⟨k,0,none⟩ [.int .i64 r,.int .i64 m,.slice p L c]=some (G.setIfInBounds k (.cells [.int .i64 r,.int .i64 m,.slice p L c].toArray 63)):=fun G k r m p L c hx=>by
  rw[ZQ hx 0 _];rfl
 refine VS.mono (N:=fun F' g'=>Zf h1.size h1 g'∧F' 3=.pointer (some ⟨h.size,0,none⟩)∧F' 4=.pointer (some ⟨h.size+1,0,none⟩)∧F' 5=.pointer (some ⟨h.size+2,0,none⟩)∧F' 7=.int .i64 E∧Zxe h1.size g' (F' 6) n.own.p n.own.l l.v) ?_ ?_ (fun _ _ _ h=>h) (fun _ _ h=>h)
 ·refine VS.z (h1.size) [6,11] (.q 0 (.p 1 (.p 2 (.q 3 (.p 4 (.q 5 (.or 6 (.p 7 (.p 8 (.p 9 (.s 10 (.w 11 (.p 12 .nil)))))) (.s 10 (.w 6 (.p 7 (.p 8 (.p 9 (.w 11 (.p 12 .nil)))))))))))))) mixed (by kernel_rfl) ?_
  simp -implicitDefEqProofs only[go_sem,↓reduceIte,r4,Zg4,r53,JE,l4,l5]
  unfold Zxe YI
  repeat' (first|with_reducible exact Zf.refl _ _|with_reducible exact Zf.push (by omega) _|with_reducible refine And.intro ?_ ?_)
  all_goals first
   | (refine (call h1 (Zf.refl _ _)).use ?_
      rintro _ g5 ⟨⟨w1,rfl,o1⟩,b5⟩
      obtain⟨p1,c1,rfl,_⟩:=o1.open
      rw[←hE]at *
      have s5:=b5.size
      unfold YI
      simp -implicitDefEqProofs only[go_sem,↓reduceIte,b5]
      exact⟨_,_,rfl,s5,Zb,o1.push _⟩)
   | (refine (call (h1.push (.cells _ 63)) (Zf.push (Nat.le_refl _) _)).use ?_
      rintro _ g5 ⟨⟨w1,rfl,o1⟩,b5⟩
      obtain⟨p1,c1,rfl,_⟩:=o1.open
      rw[←hE]at *
      have B5:Zf h1.size h1 g5:=(Zf.push (Nat.le_refl _) _).trans (b5.mono (by simp))
      have xA:=b5.get (k:=h1.size) (by simp) Zb
      have wA5:=wA _ _ (if E=0 then l.v.b else ⟨0,0⟩).r (if E=0 then l.v.b else ⟨0,0⟩).n p1 (if E=0 then Js n.own.l l.v else []).length c1 xA
      have zA:=Za xA
      unfold YI
      simp -implicitDefEqProofs only[go_sem,↓reduceIte,B5,wA5,zA]
      exact⟨_,_,rfl,Nat.le_refl _,Zu xA,(o1.ZR (by simp) _).mono (by simp)⟩)
 ·rintro F1 g1 ⟨b1,f3,f4,f5,f8,ka,w1,fA,ge1,yA,o1⟩
  rw[←hE]at yA o1
  have kb:=ZB k1.ZU b1
  have N2:=N1.still kb
  have W2:=W1.still kb
  have K2:Kp J9 o h o g1:=k1.Z9 b1
  have y3:=x3.Zc kb
  have y4:=x4.Zc kb
  have y5:=x5.Zc kb
  have iv2:=iv1.Zc kb
  have tb2:=(tb.Zc k1).Zc kb
  have R2:=Zw N2.ZE.2 N2.pt.store.len
  have m3:=Za y3.2
  have m4:=Za y4.2
  have m5:=Za y5.2
  have JH:=Za N2.ZE.2
  have q3:hc g1 ⟨h.size,0,none⟩=some (Zn wb):=Zg y3.2
  have q4:hc g1 ⟨h.size+1,0,none⟩=some (Zn nb):=Zg y4.2
  have q51:hc g1 ⟨h.size+2,1,none⟩=some (.int .i64 l.Jm):=Zg y5.2
  unfold Zn at q3 q4
  have R2p:=R2.Zll
  by_cases e:E=0
  case neg=>
   have eP:asked n l=⟨n,[⟨7,n.me,l.Jm,n.own.p,vt0,[]⟩],[]⟩:=by unfold asked;rw[←hE,if_pos e]
   rw[eP]
   simp -implicitDefEqProofs only[go_sem,↓reduceIte,f8,e]
   refine VS.z (g1.size) [10] (.q 0 (.q 1 (.p 2 (.q 3 (.q 4 (.p 5 (.p 6 (.p 7 (.q 8 (.p 9 (.w 10 .nil))))))))))) mixed (by kernel_rfl) ?_
   simp -implicitDefEqProofs only[go_sem,↓reduceIte,f3,f4,f5,q3,q4,q51,R2p,m3,m4,m5,JH]
   refine (UA T g1 o wb nb Z6 n.me YE fl bad told l.Jm ⟨7,0,0,n.own.p,vt0,[]⟩ (.slice none 0 0) K2.ZU W2 R2.me JH (Im.nil _ _ _ _) Yn).use ?_
   rintro v' h' ⟨o',Xq,k,_,W'⟩
   simp -implicitDefEqProofs only[go_sem,↓reduceIte]
   exact⟨o',a,Xq,(ZC K2).trans (k.mono fun t q=>q.elim .inl fun q=>.inr (.inl q)),N2.Zc k (by rintro t (rfl|rfl)<;>simp[Tg.of]),W'⟩
  rw[if_pos e]at yA o1
  have iv6:ImV o g1 w1 (Js n.own.l l.v):=Im.QV o1.own (fun b hb=>k1.ZU b hb)
  simp -implicitDefEqProofs only[go_sem,↓reduceIte,f8,e,f3,f4,f5]
  obtain⟨g2,QF⟩:=Zx (g1.push (.cells [fnV 93 [h.size,h.size+1,h.size+2]].toArray 1):Hp)
  have k2:=ZV K2.ZU (.cells [fnV 93 [h.size,h.size+1,h.size+2]].toArray 1)
  rw[←QF]at k2
  have K3:Kp J9 o h o g2:=K2.trans k2
  have x9:ZM o g2 g1.size (.cells [fnV 93 [h.size,h.size+1,h.size+2]].toArray 1):=⟨K2.ZU _ (Nat.le_refl _),by rw[QF];exact Zb⟩
  have e2:g1.push (.cells [fnV 93 [h.size,h.size+1,h.size+2]].toArray 1)=g2:=QF.symm
  unfold fnV at e2
  simp only[List.map]at e2
  unfold Zn at e2
  rw[e2]
  clear e2 QF
  have N3:=N2.still k2
  have W3:=W2.still k2
  have z3:=y3.Zc k2
  have z4:=y4.Zc k2
  have z5:=y5.Zc k2
  have z6:=(show ZM o g1 ka _ from⟨k1.ZU ka ge1,yA⟩).Zc k2
  have iw6:=iv6.Zc k2
  have tb3:=tb2.Zc k2
  clear R2 R2p m3 m4 m5 JH q3 q4 q51 R1 Zg4 JE l3 l4 l5 r3 r4 r53 r51
  have R3:=Zw N3.ZE.2 N3.pt.store.len
  have m3:=Za z3.2
  have m4:=Za z4.2
  have m5:=Za z5.2
  have m9:=Za x9.2
  have Zdb:=Za N3.ZE.2
  have q4:hc g2 ⟨h.size+1,0,none⟩=some (Zn nb):=Zg z4.2
  have q53:rd g2 ⟨h.size+2,5,none⟩ 8=some (Zm l.v):=by rw[Z4 z5.2 (by simp[YX])];rfl
  have q9:hc g2 ⟨g1.size,0,none⟩=some (fnV 93 [h.size,h.size+1,h.size+2]):=Zg x9.2
  have R3v:=R3.YM
  have N3v:=N3.pt.YM
  unfold Zn at q4
  unfold Zm at q53
  refine VS.mono (N:=fun F' g'=>Zf g2.size g2 g'∧F' 3=.pointer (some ⟨h.size,0,none⟩)∧F' 4=.pointer (some ⟨h.size+1,0,none⟩)∧F' 5=.pointer (some ⟨h.size+2,0,none⟩)∧F' 6=.pointer (some ⟨ka,0,none⟩)∧F' 8=.pointer (some ⟨g1.size,0,none⟩)∧F' 41=.bool (decide (l.v∈n.own.l))) ?_ ?_ (fun _ _ _ h=>h) (fun _ _ h=>h)
  ·refine VS.z (g2.size) [7] (.q 0 (.p 1 (.p 2 (.p 3 (.q 4 (.p 5 (.q 6 (.w 7 .nil)))))))) mixed (by kernel_rfl) ?_
   simp -implicitDefEqProofs only[go_sem,↓reduceIte,f3,f4,f5,fA,q4,q53,R3v,m4,m5,Zdb]
   have cv:=ZhO T g2 a.YM n.own.l l.v N3v.ts (by omega)
   unfold Zm at cv
   refine cv.use ?_
   rintro _ g5 ⟨rfl,b5⟩
   simp -implicitDefEqProofs only[go_sem,↓reduceIte,b5,f3,f4,f5,fA]
  rintro F1' g2' ⟨b2',f3,f4,f5,fA,f9,f41⟩
  have kb2:=ZB K3.ZU b2'
  replace N3:=N3.still kb2
  replace W3:=W3.still kb2
  replace K3:=K3.trans kb2
  replace z3:=z3.Zc kb2
  replace z4:=z4.Zc kb2
  replace z5:=z5.Zc kb2
  replace z6:=z6.Zc kb2
  replace iw6:=iw6.Zc kb2
  replace tb3:=tb3.Zc kb2
  replace x9:=x9.Zc kb2
  clear R3 m3 m4 m5 m9 Zdb q4 q53 q9 R3v N3v
  have R3:=Zw N3.ZE.2 N3.pt.store.len
  have m3:=Za z3.2
  have m4:=Za z4.2
  have m5:=Za z5.2
  have m9:=Za x9.2
  have Zdb:=Za N3.ZE.2
  have q4:hc g2' ⟨h.size+1,0,none⟩=some (Zn nb):=Zg z4.2
  have q53:rd g2' ⟨h.size+2,5,none⟩ 8=some (Zm l.v):=by rw[Z4 z5.2 (by simp[YX])];rfl
  have q9:hc g2' ⟨g1.size,0,none⟩=some (fnV 93 [h.size,h.size+1,h.size+2]):=Zg x9.2
  unfold Zn at q4
  by_cases ep:l.v∈n.own.l
  ·have eP:asked n l=⟨n,[⟨3,n.me,l.Jm,Jf,l.v,[]⟩],[]⟩:=by unfold asked;rw[←hE,if_neg (by omega),if_pos ep]
   rw[eP]
   unfold fnV at q9
   simp only[List.map]at q9
   unfold Zn at q9
   simp -implicitDefEqProofs only[go_sem,↓reduceIte,f41,ep,f9,q9]
   refine (ZoL T g2' o wb nb Z6 n.me YE fl bad told h.size (h.size+1) (h.size+2) l _ K3.ZU W3 R3.me Zdb Yn z3 z4 z5).use ?_
   rintro v' h' ⟨o',Xq,k,W'⟩
   simp -implicitDefEqProofs only[go_sem,↓reduceIte]
   exact⟨o',a,Xq,(ZC K3).trans (k.mono fun t q=>q.elim .inl fun q=>.inr (.inl q)),N3.Zc k (by rintro t (rfl|rfl)<;>simp[Tg.of]),W'⟩
  simp -implicitDefEqProofs only[go_sem,↓reduceIte,f41,ep]
  have R3t:=R3.tape
  obtain⟨pd,cd,hpd⟩:=N3.pt.data.1.isSlice
  rw[hpd]at R3t
  obtain⟨E2,hE2⟩:=Zx (QT n.data n.Y4 l.v)
  have call2:∀G,Zf g2'.size g2' G→Zd Tryz.prog T 95 #[.agg #[.slice pd n.data.length cd,.int .i64 n.Y4],.agg (Zm l.v).toArray] G fun v' h'=>Zbv G.size h' v' n.data n.Y4 E2 (Yj (Qs l.v))∧Zf G.size G h':=fun G hG=>by
   rw[hE2]
   exact Ztq T G _ n.Y4 n.data l.v (by rw[←hpd];exact N3.pt.data.bs.Z9 hG) (by omega) (tb3.tk.Jq hG)
  have wT:∀(G:Hp) (k:Nat) (m:Int) (p:Option Addr) (L c:Nat),G[k]? = some (.cells [.slice none 0 0,.int .i64 0].toArray 58)→wr G ⟨k,0,none⟩ [.slice p L c,.int .i64 m]=some (G.setIfInBounds k (.cells [.slice p L c,.int .i64 m].toArray 58)):=fun G k m p L c hx=>by
   rw[ZQ hx 0 _];rfl
  unfold Zm at q53 call2
  refine VS.mono (N:=fun F' g'=>Zf g2'.size g2' g'∧F' 3=.pointer (some ⟨h.size,0,none⟩)∧F' 4=.pointer (some ⟨h.size+1,0,none⟩)∧F' 5=.pointer (some ⟨h.size+2,0,none⟩)∧F' 6=.pointer (some ⟨ka,0,none⟩)∧F' 8=.pointer (some ⟨g1.size,0,none⟩)∧F' 7=.int .i64 E2∧ZiA g2'.size g' (F' 9) n.data n.Y4 E2 (Yj (Qs l.v))) ?_ ?_ (fun _ _ _ h=>h) (fun _ _ h=>h)
  ·refine VS.z (g2'.size) [6,11] (.q 0 (.p 1 (.p 2 (.q 3 (.p 4 (.q 5 (.or 6 (.p 7 (.p 8 (.p 9 (.s 10 (.w 11 (.p 12 .nil)))))) (.s 10 (.w 6 (.p 7 (.p 8 (.p 9 (.w 11 (.p 12 .nil)))))))))))))) mixed (by kernel_rfl) ?_
   simp -implicitDefEqProofs only[go_sem,↓reduceIte,f3,f4,f5,fA,f9,q4,R3t,q53,m4,m5,Zdb]
   unfold ZiA
   repeat' (first|with_reducible exact Zf.refl _ _|with_reducible exact Zf.push (by omega) _|with_reducible refine And.intro ?_ ?_)
   all_goals first
    | (refine (call2 g2' (Zf.refl _ _)).use ?_
       rintro _ g5 ⟨⟨w,rfl,o1⟩,b5⟩
       obtain⟨p1,c1,rfl,_⟩:=o1.bs.open
       have s5:=b5.size
       simp -implicitDefEqProofs only[go_sem,↓reduceIte,b5]
       exact⟨f3,f4,f5,fA,f9,_,_,rfl,s5,Zb,o1.push _⟩)
    | (refine (call2 (g2'.push (.cells _ 58)) (Zf.push (Nat.le_refl _) _)).use ?_
       rintro _ g5 ⟨⟨w,rfl,o1⟩,b5⟩
       obtain⟨p1,c1,rfl,_⟩:=o1.bs.open
       have B5:Zf g2'.size g2' g5:=(Zf.push (Nat.le_refl _) _).trans (b5.mono (by simp))
       have xA:=b5.get (k:=g2'.size) (by simp) Zb
       have wA5:=wT _ _ (if E2=0 then n.Y4 else 0) p1 (if E2=0 then n.data++Yj (Qs l.v) else []).length c1 xA
       have zA:=Za xA
       simp -implicitDefEqProofs only[go_sem,↓reduceIte,B5,wA5,zA]
       exact⟨f3,f4,f5,fA,f9,_,_,rfl,Nat.le_refl _,Zu xA,(o1.ZR (by simp) _).mono (by simp)⟩)
  ·rintro F2 g3 ⟨b3,f3,f4,f5,f6,f9,f8,kt,wt,fT,ge3,yT,oT⟩
   have kb3:=ZB K3.ZU b3
   have N4:=N3.still kb3
   have W4:=W3.still kb3
   have K4:Kp J9 o h o g3:=K3.Z9 b3
   by_cases e2:E2=0
   case neg=>
    have eP:asked n l=⟨n,[],[]⟩:=by unfold asked;rw[←hE,if_neg (by omega),if_neg ep,←hE2,if_pos e2]
    rw[eP,List.append_nil]
    simp -implicitDefEqProofs only[go_sem,↓reduceIte,f8,e2]
    exact⟨o,a,YE,ZC K4,N4,W4⟩
   rw[if_pos e2]at yT oT
   have u3:=z3.Zc kb3
   have u4:=z4.Zc kb3
   have u5:=z5.Zc kb3
   have u6:=z6.Zc kb3
   have u9:=x9.Zc kb3
   have iu6:=iw6.Zc kb3
   have iT:ImB o g3 wt (n.data++Yj (Qs l.v)):=⟨Im.QV oT.own (fun b hb=>K3.ZU b hb),oT.byte⟩
   have eP:asked n l=⟨{ n with data:=n.data++Yj (Qs l.v),Zy:=some (.vot ⟨l.v.b,Js n.own.l l.v⟩ l.Jm l.v) },[],[]⟩:=by unfold asked;rw[←hE,if_neg (by omega),if_neg ep,←hE2,if_neg (by omega)]
   rw[eP,List.append_nil]
   clear R3 m3 m4 m5 m9 Zdb q4 q53 q9 R3t
   obtain⟨pt,ct,rfl,_⟩:=oT.bs.open
   have q4:hc g3 ⟨h.size+1,0,none⟩=some (Zn nb):=Zg u4.2
   have qT:rd g3 ⟨kt,0,none⟩ 2=some [.slice pt (n.data++Yj (Qs l.v)).length ct,.int .i64 n.Y4]:=Zo yT rfl
   have Zfx:=Za N4.ZE.2
   obtain⟨g4,w4,N5,k5⟩:=ZS.write (a:={ a with data:=.slice pt (n.data++Yj (Qs l.v)).length ct }) (n:={ n with data:=n.data++Yj (Qs l.v) }) { N4.pt with data:=iT } K4.ZU N4.ZE ((YP N4.ZE.2 N4.pt.store.len).tape (.slice pt (n.data++Yj (Qs l.v)).length ct) n.Y4 rfl)
   have v4:=u4.Zc k5
   have q4':hc g4 ⟨h.size+1,0,none⟩=some (Zn nb):=Zg v4.2
   have Zdc:=Za N5.ZE.2
   have pn:Uj o g4 wb i nb a.Zh (fnV 96 [ka,h.size+1,g1.size]) (some (.vot ⟨l.v.b,Js n.own.l l.v⟩ l.Jm l.v)):=
    ⟨ka,h.size+1,g1.size,_,rfl,⟨_,u6.Zc k5,iu6.Zc k5⟩,v4,u9.Zc k5,h.size,h.size+1,h.size+2,l,_,rfl,u3.Zc k5,v4,u5.Zc k5,rfl,rfl⟩
   obtain⟨g6,w6,N6,k6⟩:=ZS.write (a:={ a with data:=.slice pt (n.data++Yj (Qs l.v)).length ct,Zy:=fnV 96 [ka,h.size+1,g1.size] }) (n:={ n with data:=n.data++Yj (Qs l.v),Zy:=some (.vot ⟨l.v.b,Js n.own.l l.v⟩ l.Jm l.v) }) { N5.pt with Zy:=pn } k5.ZU N5.ZE ((YP N5.ZE.2 N5.pt.store.len).Zy (fnV 96 [ka,h.size+1,g1.size]) rfl)
   unfold fnV at w6
   simp only[List.map]at w6
   unfold Zn at q4 q4' w6
   simp -implicitDefEqProofs only[go_sem,↓reduceIte,f8,e2,f4,f6,f9,fT,q4,qT,w4,Zfx,q4',w6,Zdc]
   have K6:Kp (fun t=>t=.world∨t=.Zl∨t=.node i) o h o g6:=((ZC K4).trans (k5.mono fun t q=>.inr (.inr q))).trans (k6.mono fun t q=>.inr (.inr q))
   exact⟨o,_,YE,K6,N6,(W4.Zc k5 (by rintro t rfl;simp[Tg.of])).Zc k6 (by rintro t rfl;simp[Tg.of])⟩
theorem QL.Yp {o:Ow} {i:Nat} {h:Hp} {sv:List (Int × Nat)} {vt:List (Int × List (Int × Unit))} (s:QL o i h sv vt) (k:Int):(Go.V.Yp sv k=none∧Go.V.Yp vt k=none)∨∃b l,Go.V.Yp sv k=some b∧Go.V.Yp vt k=some l∧Qo o (.Zbz i k) h b (unC l):=by
 induction s with
 | nil=>exact .inl ⟨rfl,rfl⟩
 | @cons a b l m hab _ ih=>
  obtain⟨a1,a2⟩:=a
  obtain⟨b1,b2⟩:=b
  obtain⟨rfl,h2⟩:=hab
  unfold Go.V.Yp
  by_cases q:a1=k
  ·rw[if_pos q,if_pos q];subst q;exact .inr ⟨_,_,rfl,rfl,h2⟩
  ·rw[if_neg q,if_neg q];exact ih
theorem QL.add {o:Ow} {i:Nat} {h:Hp} {k:Int} {b:Nat} {l:List (Int × Unit)} (hb:Qo o (.Zbz i k) h b (unC l)):∀{sv:List (Int × Nat)} {vt:List (Int × List (Int × Unit))},QL o i h sv vt→Go.V.Yp sv k=none→QL o i h (ins sv k b) (ins vt k l):=by
 intro sv vt s
 induction s with
 | nil=>intro _;exact .cons ⟨rfl,hb⟩ .nil
 | @cons a b l m hab _ ih=>
  intro hn
  obtain⟨a1,a2⟩:=a
  obtain⟨b1,b2⟩:=b
  obtain⟨rfl,h2⟩:=hab
  unfold Go.V.Yp at hn
  split at hn
  ·cases hn
  ·rename_i q
   unfold ins
   rw[if_neg q,if_neg q]
   exact .cons ⟨rfl,h2⟩ (ih hn)
theorem QL.put {o:Ow} {i:Nat} {h h':Hp} {k:Int} {b:Nat} {l':List (Int × Unit)} (kp:Kp (fun t=>t=.Zbz i k) o h o h') (hb:Qo o (.Zbz i k) h' b (unC l')):∀{sv:List (Int × Nat)} {vt:List (Int × List (Int × Unit))},QL o i h sv vt→(sv.map (·.1)).Nodup→Go.V.Yp sv k=some b→QL o i h' sv (ins vt k l'):=by
 intro sv vt s
 induction s with
 | nil=>intro _ h;cases h
 | @cons a c l m hab tl ih=>
  intro hn hl
  obtain⟨a1,a2⟩:=a
  obtain⟨b1,b2⟩:=c
  obtain⟨h1,h2⟩:=hab
  simp only at h1 h2
  subst h1
  simp only[List.map_cons,List.nodup_cons]at hn
  unfold Go.V.Yp at hl
  unfold ins
  by_cases q:a1=k
  ·rw[if_pos q]at hl ⊢
   subst q
   obtain rfl:=Option.some.inj hl
   refine .cons ⟨rfl,hb⟩ ?_
   have key:∀{l:List (Int × Nat)} {m:List (Int × List (Int × Unit))},QL o i h l m→a1 ∉ l.map (·.1)→QL o i h' l m:=by
    intro l m s
    induction s with
    | nil=>intro _;exact .nil
    | @cons x y l m hxy _ ih2=>
     intro hn
     simp only[List.map_cons,List.mem_cons,not_or]at hn
     exact .cons ⟨hxy.1,hxy.2.Zc kp (by intro e;cases e;exact hn.1 hxy.1.symm)⟩ (ih2 hn.2)
   exact key tl hn.1
  ·rw[if_neg q]at hl ⊢
   exact .cons ⟨rfl,h2.Zc kp (by intro e;cases e;exact q rfl)⟩ (ih hn.2 hl)
theorem Zls {β:Type}:∀{l:List (Int × β)} {k:Int} {v:β},(l.map (·.1)).Nodup→((ins l k v).map (·.1)).Nodup∧∀x,x∈(ins l k v).map (·.1)→x=k∨x∈l.map (·.1):=by
 intro l
 induction l with
 | nil=>intro k v _;exact⟨by simp[ins],fun x hx=>by simp[ins]at hx;exact .inl hx⟩
 | cons a l ih=>
  intro k v hn
  obtain⟨a1,a2⟩:=a
  simp only[List.map_cons,List.nodup_cons]at hn
  unfold ins
  by_cases q:a1=k
  ·rw[if_pos q]
   exact⟨by simp only[List.map_cons,List.nodup_cons];exact hn,fun x hx=>.inr hx⟩
  ·rw[if_neg q]
   obtain⟨h1,h2⟩:=ih (k:=k) (v:=v) hn.2
   refine⟨?_,fun x hx=>?_⟩
   ·simp only[List.map_cons,List.nodup_cons]
    exact⟨fun hm=>(h2 _ hm).elim q hn.1,h1⟩
   ·simp only[List.map_cons,List.mem_cons]at hx ⊢
    rcases hx with hx|hx
    ·exact .inr (.inl hx)
    ·exact (h2 _ hx).elim .inl fun q=>.inr (.inr q)
theorem Zv9 {β:Type}:∀(l:List (Int × β)) (k:Int) (u v:β),ins (ins l k u) k v=ins l k v:=by
 intro l
 induction l with
 | nil=>intro k u v;unfold ins;simp[ins]
 | cons a l ih=>
  intro k u v
  obtain⟨a1,a2⟩:=a
  have h1:∀(x:Int) (y z:β) (m:List (Int × β)),ins ((x,y) :: m) k z=if x=k then (x,z) :: m else (x,y) :: ins m k z:=fun _ _ _ _=>rfl
  rw[h1,h1]
  by_cases q:a1=k
  ·rw[if_pos q,if_pos q,h1,if_pos q]
  ·rw[if_neg q,if_neg q,h1,if_neg q,ih]
theorem YH.ZtK {o:Ow} {i:Nat} {h:Hp} {ra:RA} {r:Jg} (s:YH o i h ra r) (d:Dom o h) {k:Int} {b:Nat} {l l':List (Int × Unit)} (hl:Yp ra.sv k=some b) (hb:Qo o (.Zbz i k) h b (unC l)) :
  Kp (fun t=>t=.Zbz i k) o h o (h.setIfInBounds b (Xk (unC l')))∧YH o i (h.setIfInBounds b (Xk (unC l'))) ra { r with Xp:=ins r.Xp k l' }:=by
 have kk:Kp (fun t=>t=.Zbz i k) o h o (h.setIfInBounds b (Xk (unC l'))):=(Kp.refl d (fun t=>t=.Zbz i k)).set hb.1 rfl _
 exact⟨kk,s.ZE.Zc kk (by intro e;cases e),s.prom.Zc kk (by intro e;cases e),s.Zb7.Zc kk,s.prop.Zc kk (by intro e;cases e),s.Xp.Zc kk (by intro e;cases e),QL.put kk ⟨hb.1,Zu hb.2⟩ s.Za9 s.keys hl,s.keys⟩
def ZqH (i:Nat) (t:Tg):Prop:=QC i t∨XD i t
set_option maxHeartbeats 1000000 in
theorem Zfl (T:World) (h:Hp) (o:Ow) (wb i nb:Nat) (Z6:Nat→Nat) (a:NA) (n:Nd) (YE:WA) (fl:List Y6) (bad:Nat→Int) (told:List Tld) (l:Y6) (w:Value) (d:Dom o h)
  (N:ZJ o h wb i nb a n) (W:ZF o h wb Z6 YE fl bad told) (iv:ImV o h w l.vs) (hk:n.known.length≤100000000000) (hl:n.log.length≤100000000000) (ht:told.length≤100000000000) (hq:n.queue.length≤1000000000000) (hw:n.waiting.length≤1000000000000)
  (hv:∀r s,n.Zh=some r→((Yp r.Xp s).getD []).length≤1000000) :
  Zd Tryz.prog T 62 #[Zn wb,Zn nb,.agg (YX l w).toArray] h fun v' h'=>∃o' a' Xq,Kp (ZqH i) o h o' h'∧ZJ o' h' wb i nb a' (Yv n l).n∧ZF o' h' wb Z6 Xq fl bad (told++(Yv n l).ts):=by
 obtain⟨pw,cw,rfl⟩:=iv.isSlice
 refine Zd.Zi (args:=[_,_,_]) Tryz.func62 rfl rfl rfl rfl ?_
 unfold Zn YX
 have hnb:=Za N.ZE.2
 have R:=Zw N.ZE.2 N.pt.store.len
 obtain⟨h1,YF⟩:=Zx (h.push (.cells (YX l (.slice pw l.vs.length cw)).toArray 98):Hp)
 have k1:Kp J9 o h o h1:=by rw[YF];exact ZV d _
 have x5:ZM o h1 h.size (.cells (YX l (.slice pw l.vs.length cw)).toArray 98):=⟨d _ (Nat.le_refl _),by rw[YF];exact Zb⟩
 have e0:=YF.symm
 unfold YX at e0
 have N1:=N.still k1
 have W1:=W.still k1
 have iv1:=iv.Zc k1
 have R1:=Zw N1.ZE.2 N1.pt.store.len
 have JE:=Za N1.ZE.2
 have m5:=Za x5.2
 have q0:hc h1 ⟨h.size,0,none⟩=some (.int .i64 l.kind):=Zg x5.2
 have q1:hc h1 ⟨h.size,1,none⟩=some (.int .i64 l.Jm):=Zg x5.2
 have q3:rd h1 ⟨h.size,3,none⟩ 2=some (X6 l.b):=by rw[Z4 x5.2 (by simp[YX])];rfl
 have q5:hc h1 ⟨h.size,5,none⟩=some (.int .i64 l.v.slot):=Zg x5.2
 have q6:rd h1 ⟨h.size,6,none⟩ 2=some (X6 l.v.b):=by rw[Z4 x5.2 (by simp[YX])];rfl
 have q13:hc h1 ⟨h.size,13,none⟩=some (.slice pw l.vs.length cw):=Zg x5.2
 have hRo:=N1.pt.Zh
 have hR9:=R.Zh
 cases hr:n.Zh with
 | none=>
  cases har:a.Zh with
  | some ra=>rw[hr,har]at hRo;exact hRo.elim
  | none=>
   have eP:Yv n l=⟨n,[],[]⟩:=by unfold Yv;rw[hr]
   rw[har]at hR9
   unfold Zda at hR9
   rw[eP,List.append_nil]
   simp -implicitDefEqProofs only[go_sem,↓reduceIte,hR9]
   rw[e0]
   exact⟨o,a,YE,ZC k1,N1,W1⟩
 | some r=>
  cases har:a.Zh with
  | none=>rw[hr,har]at hRo;exact hRo.elim
  | some ra=>
   rw[hr,har]at hRo
   have RG:YH o i h1 ra r:=hRo
   rw[har]at hR9
   unfold Zda Zn at hR9
   have mrb:=Za RG.ZE.2
   have rr0:rd h1 ⟨ra.rb,0,none⟩ 2=some (X6 r.b):=by rw[Z4 RG.ZE.2 (by simp[ZnD])];rfl
   have rr2:hc h1 ⟨ra.rb,2,none⟩=some (.map (some ra.pb)):=Zg RG.ZE.2
   have rr5:hc h1 ⟨ra.rb,5,none⟩=some (.map (some ra.vb)):=Zg RG.ZE.2
   by_cases c1:l.kind=1
   ·have c1b:=eq_true c1
    simp -implicitDefEqProofs only[go_sem,↓reduceIte,hR9,c1b]
    rw[e0]
    refine VS.q mixed (by kernel_rfl) ?_
    simp -implicitDefEqProofs only[go_sem,↓reduceIte,q3,rr0]
    by_cases c2:l.b=r.b
    ·have eP:Yv n l=⟨Zyv n r l,[],[]⟩:=by unfold Yv;rw[hr];simp only;rw[if_pos c1,if_pos c2]
     rw[eP,List.append_nil]
     have c2b:=eq_true c2
     simp -implicitDefEqProofs only[go_sem,↓reduceIte,c2b]
     refine VS.z (h1.size) [8] (.p 0 (.p 1 (.p 2 (.q 3 (.p 4 (.q 5 (.p 6 (.q 7 (.w 8 .nil))))))))) mixed (by kernel_rfl) ?_
     simp -implicitDefEqProofs only[go_sem,↓reduceIte,rr2,q1,q13,mrb,m5]
     rw[XN Zfg RG.prom.2]
     simp -implicitDefEqProofs only[go_sem,↓reduceIte]
     obtain⟨k2,R2⟩:=RG.ZoM k1.ZU (k:=l.Jm) iv1
     refine⟨o,{ a with Zh:=some { ra with pv:=ins ra.pv l.Jm (.slice pw l.vs.length cw) } },YE,(ZC k1).trans (k2.mono fun t q=>.inr (.inr (.inl q))),⟨?_,?_⟩,W1.Zc k2 (by rintro t rfl;simp[Tg.of])⟩
     ·have:=N1.ZE.Zc k2 (by intro e;cases e)
      rw[←Zfk (some { r with prom:=ins r.prom l.Jm l.vs }) har (ra':={ ra with pv:=ins ra.pv l.Jm (.slice pw l.vs.length cw) }) rfl]at this
      exact this
     ·exact ZS.Qp N1.pt (k2.mono fun t q=>.inr (.inl q)) har rfl R2
    ·have eP:Yv n l=⟨n,[],[]⟩:=by unfold Yv;rw[hr];simp only;rw[if_pos c1,if_neg c2]
     rw[eP,List.append_nil]
     simp -implicitDefEqProofs only[go_sem,↓reduceIte,c2]
     exact⟨o,a,YE,ZC k1,N1,W1⟩
   ·simp -implicitDefEqProofs only[go_sem,↓reduceIte,hR9,c1]
    rw[e0]
    refine VS.q mixed (by kernel_rfl) ?_
    simp -implicitDefEqProofs only[go_sem,↓reduceIte,q6,rr0]
    by_cases c2:l.v.b=r.b
    case neg=>
     have eP:Yv n l=⟨n,[],[]⟩:=by unfold Yv;rw[hr];simp only;rw[if_neg c1,if_pos c2]
     rw[eP,List.append_nil]
     simp -implicitDefEqProofs only[go_sem,↓reduceIte,c2]
     exact⟨o,a,YE,ZC k1,N1,W1⟩
    have eP:Yv n l=if 5<2*(UY r l).length then UX (Zfw n r l) l.v.slot l.v.cm else ⟨Zfw n r l,[],[]⟩:=by unfold Yv;rw[hr];simp only;rw[if_neg c1,if_neg (fun q=>q c2)]
    rw[eP]
    have hvr:=hv r l.v.slot hr
    have c2b:=eq_true c2
    have lk:=fun (K:Value→Hp→Prop)=>Yr (K:=K) (n:=l.v.slot) (c:=false) ZgY Ziv RG.Xp.2
    rw[Xj]at lk
    obtain⟨S,hS⟩:=Zx ((Yp r.Xp l.v.slot).getD [])
    have hlen:S.length≤1000000:=by rw[hS];exact hvr
    have NA1:ZJ o h1 wb i nb { a with Zh:=some ra } { n with Zh:=some r }:=by
     have e1:({ a with Zh:=some ra }:NA)=a:=by rw[←har]
     have e2:({ n with Zh:=some r }:Nd)=n:=by rw[←hr]
     rw[e1,e2];exact N1
    have KG:Kp (ZqH i) o h o h1:=ZC k1
    have Zwa:=hR9
    rcases RG.Za9.Yp l.v.slot with⟨e1,e2⟩|⟨sb,S',e1,e2,hsb⟩
    ·have hS0:S=[]:=by rw[hS,e2];rfl
     rw[e1]at lk
     simp only[Option.map_none,Option.getD_none,Bool.false_eq_true,if_false]at lk
     -- the new set
     obtain⟨h2,hh2⟩:=Zx (h1.push (Xk []):Hp)
     have eh2:h1.push (.map #[] 0)=h2:=hh2.symm
     have k2a:Kp (XD i) o h1 (Jr o h1.size (.Zbz i l.v.slot)) h2:=by
      rw[hh2];exact ((Kp.refl k1.ZU _).push _).ZbQ (Nat.le_refl _) (by simp) (.inr (.inr (.inr (.inr ⟨_,rfl⟩))))
     have kx:Kp J9 o h1 o h2:=by rw[hh2];exact ZV k1.ZU _
     have RGx:=RG.Zc kx (fun _ _ q=>q)
     have lo:∀b,b<h1.size→Jr o h1.size (.Zbz i l.v.slot) b=o b:=fun b hb=>Y2 (by omega)
     obtain⟨o2,ho2⟩:=Zx (Jr o h1.size (.Zbz i l.v.slot))
     rw[←ho2]at k2a lo
     have RGy:YH o2 i h2 ra r:=by
      have lt:∀{b:Nat} {x:Obj},h1[b]? = some x→b<h1.size:=Za
      refine⟨⟨(lo _ (Za RG.ZE.2)).trans RG.ZE.1,RGx.ZE.2⟩,⟨(lo _ (Za RG.prom.2)).trans RG.prom.1,RGx.prom.2⟩,RG.Zb7.Zc k2a,⟨(lo _ (Za RG.prop.2)).trans RG.prop.1,RGx.prop.2⟩,⟨(lo _ (Za RG.Xp.2)).trans RG.Xp.1,RGx.Xp.2⟩,?_,RG.keys⟩
      have key:∀{sv:List (Int × Nat)} {vt:List (Int × List (Int × Unit))},QL o i h1 sv vt→QL o2 i h2 sv vt:=by
       intro sv vt s
       induction s with
       | nil=>exact .nil
       | cons x _ ih=>exact .cons ⟨x.1,⟨(lo _ (Za x.2.2)).trans x.2.1,(x.2.Zc kx id).2⟩⟩ ih
      exact key RG.Za9
     have ms:Qo o2 (.Zbz i l.v.slot) h2 h1.size (unC []):=⟨by rw[ho2];exact YZ,by rw[hh2];exact Zb⟩
     have ZLX:ra.rb<h2.size:=by have:=kx.size;omega
     simp -implicitDefEqProofs only[go_sem,↓reduceIte,hR9,c2b,q5,rr5,lk,mpV]
     rw[eh2,XN ZgY RGy.Xp.2]
     obtain⟨G,hG⟩:=Zx (h2.setIfInBounds ra.vb (Xk (ins (Uo mpV ra.sv) l.v.slot (.map (some h1.size)))))
     rw[←hG]
     obtain⟨ra2,ZyC⟩:∃ra2:RA,ra2 = { ra with sv:=ins ra.sv l.v.slot h1.size }:=⟨_,rfl⟩
     have kk:Kp (fun t=>t=.Xp i) o2 h2 o2 G:=by rw[hG];exact (Kp.refl k2a.ZU (fun t=>t=.Xp i)).set RGy.Xp.1 rfl _
     have RGG:YH o2 i G ra2 { r with Xp:=ins r.Xp l.v.slot [] }:=by
      rw[ZyC]
      refine⟨RGy.ZE.Zc kk (by intro e;cases e),RGy.prom.Zc kk (by intro e;cases e),RGy.Zb7.Zc kk,RGy.prop.Zc kk (by intro e;cases e),⟨RGy.Xp.1,?_⟩,(QL.add ms RGy.Za9 e1).Zc kk (fun _ e=>by cases e),(Zls RG.keys).1⟩
      show G[ra.vb]? = some (Xk (Uo mpV (ins ra.sv l.v.slot h1.size)))
      rw[hG,Zu RGy.Xp.2,ZbO];rfl
     have k2b:Kp (XD i) o h1 o2 G:=k2a.trans (kk.mono fun t q=>.inr (.inr (.inr (.inl q))))
     have Zlt:ra2.rb=ra.rb:=by rw[ZyC]
     have NG:ZJ o2 G wb i nb { a with Zh:=some ra2 } { n with Zh:=some { r with Xp:=ins r.Xp l.v.slot [] } }:=by
      refine⟨?_,ZS.Qp NA1.pt k2b rfl Zlt RGG⟩
      have:=NA1.ZE.Zc k2b (by rintro (q|q|q|q|⟨_,q⟩)<;>cases q)
      rw[show Xc { n with Zh:=some { r with Xp:=ins r.Xp l.v.slot [] } } { a with Zh:=some ra2 } = Xc { n with Zh:=some r } { a with Zh:=some ra } from by unfold Xc Ur Zda;simp only[Zlt]]
      exact this
     have WG:=W1.Zc k2b (by intro t q;rw[ZeC q];simp)
     have XG:=x5.Zc k2b
     have KG2:Kp (ZqH i) o h o2 G:=(ZC k1).trans (k2b.mono fun t q=>.inr q)
     have LKS:Yp ra2.sv l.v.slot=some h1.size:=by rw[ZyC];simp[Jk]
     have SB:Qo o2 (.Zbz i l.v.slot) G h1.size (unC S):=by rw[hS0];exact ms.Zc kk (by intro e;cases e)
     have Q5:hc G ⟨h.size,5,none⟩=some (.int .i64 l.v.slot):=Zg XG.2
     have Q1:hc G ⟨h.size,1,none⟩=some (.int .i64 l.Jm):=Zg XG.2
     have RR5:hc G ⟨ra.rb,5,none⟩=some (.map (some ra2.vb)):=by rw[←Zlt];exact Zg RGG.ZE.2
     have MRB:ra.rb<G.size:=by rw[←Zlt];exact Za RGG.ZE.2
     have M5:=Za XG.2
     have LK:=fun (K:Value→Hp→Prop)=>Yr (K:=K) (n:=l.v.slot) (c:=false) ZgY Ziv RGG.Xp.2
     rw[Xj]at LK
     simp only[LKS,Option.map_some,Option.getD_some,Bool.false_eq_true,if_false,mpV]at LK
     simp -implicitDefEqProofs only[go_sem,↓reduceIte]
     refine VS.z (G.size) [9] (.p 0 (.p 1 (.p 2 (.q 3 (.p 4 (.p 6 (.q 7 (.p 8 (.s 5 (.w 9 .nil)))))))))) mixed (by kernel_rfl) ?_
     simp -implicitDefEqProofs only[go_sem,↓reduceIte,Zwa,c2b,Q5,Q1,RR5,LK,MRB,M5]
     rw[XN Ziu SB.2]
     obtain⟨k2,RG2⟩:=RGG.ZtK KG2.ZU (l':=ins S l.Jm ()) LKS SB
     rw[show Xk (ins (unC S) l.Jm (.agg #[]))=Xk (unC (ins S l.Jm ())) from by unfold unC;rw[ZbO]]
     obtain⟨g2,QF⟩:=Zx (G.setIfInBounds h1.size (Xk (unC (ins S l.Jm ()))))
     rw[←QF]at k2 RG2 ⊢
     have eV:({ r with Xp:=ins r.Xp l.v.slot (UY r l) }:Jg) = { ({ r with Xp:=ins r.Xp l.v.slot [] }:Jg) with Xp:=ins (ins r.Xp l.v.slot []) l.v.slot (ins S l.Jm ()) }:=by unfold UY;rw[hS,Zv9]
     have K2:Kp (ZqH i) o2 G o2 g2:=k2.mono fun t q=>.inr (.inr (.inr (.inr (.inr ⟨_,q⟩))))
     have N2:ZJ o2 g2 wb i nb { a with Zh:=some ra2 } (Zfw n r l):=by
      refine⟨?_,?_⟩
      ·have:=NG.ZE.Zc k2 (by intro e;cases e)
       exact this
      ·have:=ZS.Qp NG.pt (k2.mono fun t q=>.inr (.inr (.inr (.inr ⟨_,q⟩)))) rfl rfl RG2
       unfold Zfw
       rw[eV]
       exact this
     have W2:=WG.Zc k2 (by rintro t rfl;simp[Tg.of])
     have x2:=XG.Zc k2
     have p0:rd g2 ⟨h.size,8,none⟩ 5=some l.v.cm.C:=by rw[Z4 x2.2 (by simp[YX])];rfl
     have p5:hc g2 ⟨ra2.rb,5,none⟩=some (.map (some ra2.vb)):=Zg RG2.ZE.2
     rw[Zlt]at p5
     have p6:=fun (K:Value→Hp→Prop)=>Yr (K:=K) (n:=l.v.slot) (c:=false) ZgY Ziv RG2.Xp.2
     rw[Xj]at p6
     simp only[LKS,Option.map_some,Option.getD_some,Bool.false_eq_true,if_false]at p6
     have SB2:Qo o2 (.Zbz i l.v.slot) g2 h1.size (unC (ins S l.Jm ())):=⟨SB.1,by rw[QF];exact Zu SB.2⟩
     have p7:=fun (K:Value→Hp→Prop) (cs:Array Bool) (ty:TypeId)=>Zbk (T:=T) (K:=K) (ty:=ty) (cs:=cs) Ziu SB2.2
     have p8:(unC (ins S l.Jm ())).length=(UY r l).length:=by unfold unC UY;rw[ZeS,hS]
     rw[p8]at p7
     simp -implicitDefEqProofs only[go_sem,↓reduceIte,Zwa,c2b,p5,p6,p7,mpV]
     refine (ZfN T g2 (UY r l).length (by unfold UY;rw[←hS,ZcX];split<;>omega)).use ?_
     rintro _ _ ⟨rfl,rfl⟩
     by_cases c3:5<2*(UY r l).length
     ·rw[if_pos c3]
      simp -implicitDefEqProofs only[go_sem,↓reduceIte,c3,p0]
      refine (Zg3 T _ o2 wb i nb Z6 _ _ YE fl bad told l.v.slot l.v.cm k2.ZU N2 W2 hk hl ht hq hw).use ?_
      rintro v' h' ⟨o',a',Xq,kl,N',W'⟩
      simp -implicitDefEqProofs only[go_sem,↓reduceIte]
      exact⟨o',a',Xq,(KG2.trans K2).trans (kl.mono fun t q=>.inl q),N',W'⟩
     ·rw[if_neg c3,List.append_nil]
      simp -implicitDefEqProofs only[go_sem,↓reduceIte,c3]
      exact⟨o2,_,YE,KG2.trans K2,N2,W2⟩
    ·have hS0:S=S':=by rw[hS,e2];rfl
     subst hS0
     rw[e1]at lk
     simp only[Option.map_some,Option.getD_some,Bool.false_eq_true,if_false]at lk
     simp -implicitDefEqProofs only[go_sem,↓reduceIte,c2b,q5,rr5,lk,mpV,hR9]
     have lk2:=fun (K:Value→Hp→Prop)=>Yr (K:=K) (n:=l.v.slot) (c:=false) ZgY Ziv RG.Xp.2
     rw[Xj]at lk2
     simp only[e1,Option.map_some,Option.getD_some,Bool.false_eq_true,if_false,mpV]at lk2
     refine VS.z (h1.size) [9] (.p 0 (.p 1 (.p 2 (.q 3 (.p 4 (.p 6 (.q 7 (.p 8 (.s 5 (.w 9 .nil)))))))))) mixed (by kernel_rfl) ?_
     simp -implicitDefEqProofs only[go_sem,↓reduceIte,Zwa,c2b,q5,q1,rr5,lk2,mrb,m5]
     rw[XN Ziu hsb.2]
     obtain⟨k2,RG2⟩:=RG.ZtK KG.ZU (l':=ins S l.Jm ()) e1 hsb
     rw[show Xk (ins (unC S) l.Jm (.agg #[]))=Xk (unC (ins S l.Jm ())) from by unfold unC;rw[ZbO]]
     obtain⟨g2,QF⟩:=Zx (h1.setIfInBounds sb (Xk (unC (ins S l.Jm ()))))
     rw[←QF]at k2 RG2 ⊢
     have eV:({ r with Xp:=ins r.Xp l.v.slot (UY r l) }:Jg) = { r with Xp:=ins r.Xp l.v.slot (ins S l.Jm ()) }:=by unfold UY;rw[hS]
     have K2:Kp (ZqH i) o h1 o g2:=k2.mono fun t q=>.inr (.inr (.inr (.inr (.inr ⟨_,q⟩))))
     have N2:ZJ o g2 wb i nb { a with Zh:=some ra } (Zfw n r l):=by
      refine⟨?_,?_⟩
      ·have:=NA1.ZE.Zc k2 (by intro e;cases e)
       exact this
      ·have:=ZS.Qp NA1.pt (k2.mono fun t q=>.inr (.inr (.inr (.inr ⟨_,q⟩)))) rfl rfl RG2
       unfold Zfw
       rw[eV]
       exact this
     have W2:=W1.Zc k2 (by rintro t rfl;simp[Tg.of])
     have x2:=x5.Zc k2
     have p0:rd g2 ⟨h.size,8,none⟩ 5=some l.v.cm.C:=by rw[Z4 x2.2 (by simp[YX])];rfl
     have p5:hc g2 ⟨ra.rb,5,none⟩=some (.map (some ra.vb)):=Zg RG2.ZE.2
     have p6:=fun (K:Value→Hp→Prop)=>Yr (K:=K) (n:=l.v.slot) (c:=false) ZgY Ziv RG2.Xp.2
     rw[Xj]at p6
     simp only[e1,Option.map_some,Option.getD_some,Bool.false_eq_true,if_false]at p6
     have SB2:Qo o (.Zbz i l.v.slot) g2 sb (unC (ins S l.Jm ())):=⟨hsb.1,by rw[QF];exact Zu hsb.2⟩
     have p7:=fun (K:Value→Hp→Prop) (cs:Array Bool) (ty:TypeId)=>Zbk (T:=T) (K:=K) (ty:=ty) (cs:=cs) Ziu SB2.2
     have p8:(unC (ins S l.Jm ())).length=(UY r l).length:=by unfold unC UY;rw[ZeS,hS]
     rw[p8]at p7
     simp -implicitDefEqProofs only[go_sem,↓reduceIte,Zwa,c2b,p5,p6,p7,mpV]
     refine (ZfN T g2 (UY r l).length (by unfold UY;rw[←hS,ZcX];split<;>omega)).use ?_
     rintro _ _ ⟨rfl,rfl⟩
     by_cases c3:5<2*(UY r l).length
     ·rw[if_pos c3]
      simp -implicitDefEqProofs only[go_sem,↓reduceIte,c3,p0]
      refine (Zg3 T _ o wb i nb Z6 _ _ YE fl bad told l.v.slot l.v.cm k2.ZU N2 W2 hk hl ht hq hw).use ?_
      rintro v' h' ⟨o',a',Xq,kl,N',W'⟩
      simp -implicitDefEqProofs only[go_sem,↓reduceIte]
      exact⟨o',a',Xq,(KG.trans K2).trans (kl.mono fun t q=>.inl q),N',W'⟩
     ·rw[if_neg c3,List.append_nil]
      simp -implicitDefEqProofs only[go_sem,↓reduceIte,c3]
      exact⟨o,_,YE,KG.trans K2,N2,W2⟩
def Xz (i:Nat) (t:Tg):Prop:=t=.world∨t=.Zl∨t=.told∨t.of=some i
theorem Zg5 {i:Nat} {t:Tg} (h:QC i t):Xz i t:=by
 rcases h with rfl|rfl|rfl|rfl|rfl|rfl|rfl<;>simp[Xz,Tg.of]
theorem Zlu {i:Nat} {t:Tg} (h:ZqH i t):Xz i t:=h.elim Zg5 fun q=>.inr (.inr (.inr (ZeC q)))
theorem Zlv (T:World) (h:Hp) (o:Ow) (wb i nb:Nat) (a:NA) (n:Nd) (l:Y6) (w:Value) (d:Dom o h) (N:ZJ o h wb i nb a n) (iv:ImV o h w l.vs) :
  Zd Tryz.prog T 67 #[Zn wb,Zn nb,.agg (YX l w).toArray] h fun v' h'=>Kp (fun t=>t=.node i) o h o h'∧ZJ o h' wb i nb a (notes n l):=by
 obtain⟨pw,cw,rfl⟩:=iv.isSlice
 refine Zd.Zi (args:=[_,_,_]) Tryz.func67 rfl rfl rfl rfl ?_
 unfold Zn YX
 have e0:∃h1:Hp,h1=h.push (.cells (YX l (.slice pw l.vs.length cw)).toArray 98):=⟨_,rfl⟩
 obtain⟨h1,YF⟩:=e0
 have k1:Kp J9 o h o h1:=by rw[YF];exact ZV d _
 have x5:ZM o h1 h.size (.cells (YX l (.slice pw l.vs.length cw)).toArray 98):=⟨d _ (Nat.le_refl _),by rw[YF];exact Zb⟩
 have e0:=YF.symm
 unfold YX at e0
 have N1:=N.still k1
 have R1:=Zw N1.ZE.2 N1.pt.store.len
 have JE:=Za N1.ZE.2
 have m5:=Za x5.2
 have q3:rd h1 ⟨h.size,3,none⟩ 2=some (X6 l.b):=by rw[Z4 x5.2 (by simp[YX])];rfl
 have r7:rd h1 ⟨nb,7,none⟩ 2=some (X6 n.heard):=R1.heard
 simp -implicitDefEqProofs only[go_sem,↓reduceIte]
 rw[e0]
 refine VS.mono (N:=fun F' g'=>Zf h1.size h1 g'∧F' 1=.pointer (some ⟨nb,0,none⟩)∧F' 5=.pointer (some ⟨h.size,0,none⟩)∧F' 12=.bool (decide (below n.heard l.b))) ?_ ?_ (fun _ _ _ h=>h) (fun _ _ h=>h)
 ·refine VS.z (h1.size) [6] (.p 0 (.q 1 (.p 2 (.p 3 (.p 4 (.q 5 (.w 6 .nil))))))) mixed (by kernel_rfl) ?_
  simp -implicitDefEqProofs only[go_sem,↓reduceIte,q3,r7,JE,m5]
  refine (Zd9 T h1 l.b n.heard).use ?_
  rintro _ g ⟨rfl,b⟩
  simp -implicitDefEqProofs only[go_sem,↓reduceIte,b]
 ·rintro F' g ⟨b,f1,f5,f12⟩
  have kb:=ZB k1.ZU b
  have N2:=N1.still kb
  have K2:=k1.trans kb
  by_cases c:below n.heard l.b
  ·have e:notes n l = { n with heard:=l.b }:=by unfold notes;rw[if_pos c]
   rw[e]
   obtain⟨g2,w2,N3,k3⟩:=ZS.write (n:={ n with heard:=l.b }) (a:=a) { N2.pt with } K2.ZU N2.ZE ((YP N2.ZE.2 N2.pt.store.len).heard l.b.r l.b.n)
   have p3:rd g ⟨h.size,3,none⟩ 2=some [.int .i64 l.b.r,.int .i64 l.b.n]:=by rw[Z4 (x5.Zc kb).2 (by simp[YX])];rfl
   have JH:=Za N2.ZE.2
   simp -implicitDefEqProofs only[go_sem,↓reduceIte,f1,f5,f12,c,p3,w2,JH]
   exact⟨(ZC K2).trans k3,N3⟩
  ·have e:notes n l=n:=by unfold notes;rw[if_neg c]
   rw[e]
   simp -implicitDefEqProofs only[go_sem,↓reduceIte,f12,c]
   exact⟨ZC K2,N2⟩
theorem ZqI (T:World) (h:Hp) (o:Ow) (wb i nb:Nat) (Z6:Nat→Nat) (a:NA) (n:Nd) (YE:WA) (fl:List Y6) (bad:Nat→Int) (told:List Tld) (l:Y6) (w:Value) (d:Dom o h)
  (N:ZJ o h wb i nb a n) (W:ZF o h wb Z6 YE fl bad told) (iv:ImV o h w l.vs) (hk:n.known.length≤100000000000) (hl:n.log.length≤100000000000) (ht:told.length≤100000000000) (hq:n.queue.length≤1000000000000) (hw:n.waiting.length≤1000000000000) :
  Zd Tryz.prog T 66 #[Zn wb,Zn nb,.agg (YX l w).toArray] h fun v' h'=>∃o' a' Xq,Kp (QC i) o h o' h'∧ZJ o' h' wb i nb a' (UX n l.v.slot l.v.cm).n∧ZF o' h' wb Z6 Xq fl bad (told++(UX n l.v.slot l.v.cm).ts):=by
 obtain⟨pw,cw,rfl⟩:=iv.isSlice
 refine Zd.Zi (args:=[_,_,_]) Tryz.func66 rfl rfl rfl rfl ?_
 unfold Zn YX
 obtain⟨h1,YF⟩:=Zx (h.push (.cells (YX l (.slice pw l.vs.length cw)).toArray 98):Hp)
 have k1:Kp J9 o h o h1:=by rw[YF];exact ZV d _
 have e0:=YF.symm
 unfold YX at e0
 simp -implicitDefEqProofs only[go_sem,↓reduceIte]
 rw[e0]
 refine (Zg3 T h1 o wb i nb Z6 a n YE fl bad told l.v.slot l.v.cm k1.ZU (N.still k1) (W.still k1) hk hl ht hq hw).use ?_
 rintro v' h' ⟨o',a',Xq,k,N',W'⟩
 simp -implicitDefEqProofs only[go_sem,↓reduceIte]
 exact⟨o',a',Xq,(ZC k1).trans k,N',W'⟩
theorem ZtL (T:World) (h:Hp) (o:Ow) (wb i nb:Nat) (a:NA) (n:Nd) (l:Y6) (w:Value) (d:Dom o h) (N:ZJ o h wb i nb a n) (iv:ImV o h w l.vs) (hq:n.queue.length≤1000000000000) (hl:n.log.length≤1000000000000) :
  Zd Tryz.prog T 64 #[Zn wb,Zn nb,.agg (YX l w).toArray] h fun v' h'=>∃o' a',Kp (ZyA i) o h o' h'∧ZJ o' h' wb i nb a' (add n l.v.cm):=by
 obtain⟨pw,cw,rfl⟩:=iv.isSlice
 refine Zd.Zi (args:=[_,_,_]) Tryz.func64 rfl rfl rfl rfl ?_
 unfold Zn YX
 obtain⟨h1,YF⟩:=Zx (h.push (.cells (YX l (.slice pw l.vs.length cw)).toArray 98):Hp)
 have k1:Kp J9 o h o h1:=by rw[YF];exact ZV d _
 have e0:=YF.symm
 unfold YX at e0
 simp -implicitDefEqProofs only[go_sem,↓reduceIte]
 rw[e0]
 refine (ZtF T h1 o wb i nb a n l.v.cm k1.ZU (N.still k1) hq hl).use ?_
 rintro v' h' ⟨o',a',k,N'⟩
 simp -implicitDefEqProofs only[go_sem,↓reduceIte]
 exact⟨o',a',(ZC k1).trans k,N'⟩
theorem ZtM (T:World) (h:Hp) (o:Ow) (wb i nb:Nat) (Z6:Nat→Nat) (a:NA) (n:Nd) (YE:WA) (fl:List Y6) (bad:Nat→Int) (told:List Tld) (l:Y6) (w:Value) (d:Dom o h)
  (N:ZJ o h wb i nb a n) (W:ZF o h wb Z6 YE fl bad told) (iv:ImV o h w l.vs) (Yn:fl.length≤1000000000000) :
  Zd Tryz.prog T 65 #[Zn wb,Zn nb,.agg (YX l w).toArray] h fun v' h'=>∃o' a' Xq,Kp (fun t=>t=.world∨t=.Zl∨t=.node i) o h o' h'∧ZJ o' h' wb i nb a' (Zat n l).n∧ZF o' h' wb Z6 Xq (fl++(Zat n l).ls) bad told:=by
 obtain⟨pw,cw,rfl⟩:=iv.isSlice
 refine Zd.Zi (args:=[_,_,_]) Tryz.func65 rfl rfl rfl rfl ?_
 unfold Zn YX
 obtain⟨h1,YF⟩:=Zx (h.push (.cells (YX l (.slice pw l.vs.length cw)).toArray 98):Hp)
 have k1:Kp J9 o h o h1:=by rw[YF];exact ZV d _
 have x5:ZM o h1 h.size (.cells (YX l (.slice pw l.vs.length cw)).toArray 98):=⟨d _ (Nat.le_refl _),by rw[YF];exact Zb⟩
 have e0:=YF.symm
 have cc:=Zlv T h1 o wb i nb a n l (.slice pw l.vs.length cw) k1.ZU (N.still k1) (iv.Zc k1)
 unfold YX at e0
 unfold YX Zn at cc
 simp -implicitDefEqProofs only[go_sem,↓reduceIte]
 rw[e0]
 refine cc.use ?_
 rintro _ g ⟨k2,N2⟩
 have W2:=(W.still k1).Zc k2 (by rintro t rfl;simp[Tg.of])
 have y5:=x5.Zc k2
 have R2:=Zw N2.ZE.2 N2.pt.store.len
 have JH:=Za N2.ZE.2
 have m5:=Za y5.2
 have q5:hc g ⟨h.size,5,none⟩=some (.int .i64 l.v.slot):=Zg y5.2
 have ek:(notes n l).known=n.known:=by unfold notes;split<;>rfl
 have eme:(notes n l).me=n.me:=by unfold notes;split<;>rfl
 have lk:=fun (K:Value→Hp→Prop)=>Yr (K:=K) (n:=l.v.slot) (c:=true) Za8 Zd5 N2.pt.known.2
 have lk2:=fun (K:Value→Hp→Prop) (x:Obj)=>Yr (h:=g.push x) (K:=K) (n:=l.v.slot) (c:=true) Za8 Zd5 ((Zq (Za N2.pt.known.2)).trans N2.pt.known.2)
 rw[Xj,ek]at lk
 simp only[Xj,ek]at lk2
 have gp:∀x:Obj,(g.push x)[g.size]? = some x:=fun x=>Zb
 simp -implicitDefEqProofs only[go_sem,↓reduceIte]
 cases hx:Yp n.known l.v.slot with
 | none=>
  have eP:Zat n l=⟨notes n l,[],[]⟩:=by unfold Zat;rw[hx]
  rw[eP,List.append_nil]
  rw[hx]at lk
  simp only[hx,Option.map_none,Option.getD_none,Option.isSome_none,↓reduceIte]at lk lk2
  refine VS.mono (N:=fun F' g'=>Zf g.size g g'∧F' 7=.bool false) ?_ ?_ (fun _ _ _ h=>h) (fun _ _ h=>h)
  ·refine VS.z (g.size) [7,12] (.p 0 (.p 1 (.p 2 (.q 3 (.p 4 (.p 5 (.q 6 (.or 7 (.p 8 (.p 9 (.p 10 (.s 11 (.w 12 (.p 13 .nil)))))) (.s 11 (.w 7 (.p 8 (.p 9 (.p 10 (.w 12 (.p 13 .nil))))))))))))))) mixed (by kernel_rfl) ?_
   simp -implicitDefEqProofs only[go_sem,↓reduceIte,R2.known,q5,JH,m5,lk,lk2]
   repeat' (first|exact Zf.refl _ _|exact Zf.push (Nat.le_refl _) _|refine And.intro ?_ ?_)
  ·rintro F' g' ⟨b,f7⟩
   simp -implicitDefEqProofs only[go_sem,↓reduceIte,f7]
   exact⟨o,a,YE,((ZC k1).trans (k2.mono fun t q=>.inr (.inr q))).Z9 b,N2.still (ZB k2.ZU b),W2.still (ZB k2.ZU b)⟩
 | some y=>
  have eP:Zat n l=⟨notes n l,[⟨6,n.me,l.Jm,Jf,ZbI l.v.slot Jf y,[]⟩],[]⟩:=by unfold Zat;rw[hx]
  rw[eP]
  rw[hx]at lk
  simp only[hx,Option.map_some,Option.getD_some,Option.isSome_some,↓reduceIte]at lk lk2
  refine VS.mono (N:=fun F' g'=>Zf g.size g g'∧F' 0=.pointer (some ⟨wb,0,none⟩)∧F' 1=.pointer (some ⟨nb,0,none⟩)∧F' 5=.pointer (some ⟨h.size,0,none⟩)∧F' 7=.bool true∧F' 6=.pointer (some ⟨g.size,0,none⟩)∧g'[g.size]? = some (.cells y.C.toArray 77)) ?_ ?_ (fun _ _ _ h=>h) (fun _ _ h=>h)
  ·refine VS.z (g.size) [7,12] (.p 0 (.p 1 (.p 2 (.q 3 (.p 4 (.p 5 (.q 6 (.or 7 (.p 8 (.p 9 (.p 10 (.s 11 (.w 12 (.p 13 .nil)))))) (.s 11 (.w 7 (.p 8 (.p 9 (.p 10 (.w 12 (.p 13 .nil))))))))))))))) mixed (by kernel_rfl) ?_
   simp -implicitDefEqProofs only[go_sem,↓reduceIte,R2.known,q5,JH,m5,lk,lk2,cmA]
   repeat' (first|exact Zf.refl _ _|exact Zf.push (Nat.le_refl _) _|exact gp _|refine And.intro ?_ ?_)
  ·rintro F' g' ⟨b,f0,f1,f5,f7,f6,yy⟩
   have kb:=ZB k2.ZU b
   have N3:=N2.still kb
   have W3:=W2.still kb
   have z5:=y5.Zc kb
   have R3:=Zw N3.ZE.2 N3.pt.store.len
   have p1:hc g' ⟨h.size,1,none⟩=some (.int .i64 l.Jm):=Zg z5.2
   have p5:hc g' ⟨h.size,5,none⟩=some (.int .i64 l.v.slot):=Zg z5.2
   have p6:rd g' ⟨g.size,0,none⟩ 5=some [.int .i64 y.k,.int .i64 y.c,.int .i64 y.s,.int .i64 y.n,.int .i64 y.v]:=Zo yy rfl
   simp -implicitDefEqProofs only[go_sem,↓reduceIte,f0,f1,f5,f7,f6,p1,p5,p6]
   refine (UA T g' o wb nb Z6 n.me YE fl bad told l.Jm ⟨6,0,0,Jf,ZbI l.v.slot Jf y,[]⟩ (.slice none 0 0) kb.ZU W3 (by rw[←eme];exact R3.me) (Za N3.ZE.2) (Im.nil _ _ _ _) Yn).use ?_
   rintro v' h' ⟨o',Xq,k,_,W'⟩
   simp -implicitDefEqProofs only[go_sem,↓reduceIte]
   exact⟨o',a,Xq,(((ZC k1).trans (k2.mono fun t q=>.inr (.inr q))).trans (ZC kb)).trans (k.mono fun t q=>q.elim .inl fun q=>.inr (.inl q)),N3.Zc k (by rintro t (rfl|rfl)<;>simp[Tg.of]),W'⟩
section
variable {K:Value→Hp→Prop} {X:Hp}
theorem ZiB {t e:TypeId} (ht:tmi Tryz.prog t=some e) {b:Nat} (hb:b=X.size) {l:List (Int × Value)} {n:Int} {x:Value} :
  ZeT Tryz.prog t (.map (some b)) (.int .i64 n) x K (X.push (Xk l))=K undef (X.push (Xk (ins l n x))):=by
 subst hb
 rw[XN ht Zb]
 congr 1
 apply Array.ext_getElem?
 intro j
 rw[Array.getElem?_setIfInBounds,Array.getElem?_push,Array.getElem?_push]
 by_cases hj:X.size=j
 ·subst hj;simp
 ·rw[if_neg hj,if_neg (fun e=>hj e.symm),if_neg (fun e=>hj e.symm)]
theorem ZnF {t e:TypeId} (ht:tmi Tryz.prog t=some e) {b:Nat} (hb:b=X.size) {n:Int} {x:Value} :
  ZeT Tryz.prog t (.map (some b)) (.int .i64 n) x K (X.push (.map #[] 0))=K undef (X.push (Xk [(n,x)])):=ZiB (l:=[]) ht hb
theorem ZnG {t e:TypeId} {z:Value} (ht:tmi Tryz.prog t=some e) (hz:tzv Tryz.prog e=some z) {b:Nat} (hb:b=X.size) {l:List (Int × Value)} {n:Int} {x:Value} (hx:Yp l n=some x) :
  ZeR Tryz.prog t (.map (some b)) (.int .i64 n) false K (X.push (Xk l))=K x (X.push (Xk l)):=by
 subst hb
 rw[Yr ht hz Zb,hx];rfl
end
theorem Zlw (n:Nd) (l:Y6):(YW n l).ts=[]:=by
 unfold YW
 repeat' split
 all_goals rfl
theorem ZtN (n:Nd) (l:Y6):(asked n l).ts=[]:=by
 unfold asked
 repeat' split
 all_goals rfl
theorem ZtO (n:Nd) (l:Y6):(Zat n l).ts=[]:=by
 unfold Zat
 split<;>rfl
theorem ZtP (n:Nd) (s:Int) (x:Cm):(UX n s x).ls=[]:=rfl
theorem Zfm (n:Nd) (l:Y6):(Yv n l).ls=[]:=by
 unfold Yv
 repeat' split
 all_goals rfl
set_option maxHeartbeats 1000000 in
theorem ZqJ (T:World) (h:Hp) (o:Ow) (wb i nb:Nat) (Z6:Nat→Nat) (a:NA) (n:Nd) (YE:WA) (fl:List Y6) (bad:Nat→Int) (told:List Tld) (l:Y6) (w:Value) (d:Dom o h)
  (N:ZJ o h wb i nb a n) (W:ZF o h wb Z6 YE fl bad told) (iv:ImV o h w l.vs) (tb:Tbs o h) (ZJk:0≤l.kind∧l.kind≤7) (Yn:fl.length≤1000000000000) (hvl:n.own.l.length≤1000000) (hdl:n.data.length≤1000000)
  (hk:n.known.length≤100000000000) (hl:n.log.length≤100000000000) (ht:told.length≤100000000000) (hq:n.queue.length≤1000000000000) (hw:n.waiting.length≤1000000000000)
  (hv:∀r s,n.Zh=some r→((Yp r.Xp s).getD []).length≤1000000) :
  Zd Tryz.prog T 41 #[Zn wb,Zn nb,.agg (YX l w).toArray] h fun v' h'=>∃o' a' Xq,Kp (Xz i) o h o' h'∧ZJ o' h' wb i nb a' (handle n l).n∧ZF o' h' wb Z6 Xq (fl++(handle n l).ls) bad (told++(handle n l).ts):=by
 obtain⟨pw,cw,rfl⟩:=iv.isSlice
 refine Zd.Zi (args:=[_,_,_]) Tryz.func41 rfl rfl rfl rfl ?_
 obtain⟨h1,YF⟩:=Zx (h.push (.cells (YX l (.slice pw l.vs.length cw)).toArray 98):Hp)
 have k1:Kp J9 o h o h1:=by rw[YF];exact ZV d _
 have x5:ZM o h1 h.size (.cells (YX l (.slice pw l.vs.length cw)).toArray 98):=⟨d _ (Nat.le_refl _),by rw[YF];exact Zb⟩
 have e0:=YF.symm
 have s1:h1.size=h.size+1:=by rw[YF];simp
 obtain⟨M,hM⟩:∃M:List (Int × Value),M=[(0,.func (.func 61) #[] #[]),(1,.func (.func 62) #[] #[]),(2,.func (.func 63) #[] #[]),(3,.func (.func 62) #[] #[]),(4,.func (.func 64) #[] #[]),(5,.func (.func 65) #[] #[]),(6,.func (.func 66) #[] #[]),(7,.func (.func 67) #[] #[])]:=⟨_,rfl⟩
 have k2:Kp J9 o h o (h1.push (Xk M)):=k1.push _
 have N2:=N.still k2
 have W2:=W.still k2
 have iv2:=iv.Zc k2
 have tb2:=tb.Zc k2
 have x2:ZM o (h1.push (Xk M)) h.size (.cells (YX l (.slice pw l.vs.length cw)).toArray 98):=x5.Zc (ZV k1.ZU _)
 have d2:Dom o (h1.push (Xk M)):=k2.ZU
 have q0:hc (h1.push (Xk M)) ⟨h.size,0,none⟩=some (.int .i64 l.kind):=Zg x2.2
 have q14:rd (h1.push (Xk M)) ⟨h.size,0,none⟩ 14=some (YX l (.slice pw l.vs.length cw)):=Zo x2.2 rfl
 have eM:ins (ins (ins (ins (ins (ins (ins [((0:Int),Value.func (.func 61) #[] #[])] 1 (.func (.func 62) #[] #[])) 2 (.func (.func 63) #[] #[])) 3 (.func (.func 62) #[] #[])) 4 (.func (.func 64) #[] #[])) 5 (.func (.func 65) #[] #[])) 6 (.func (.func 66) #[] #[])) 7 (.func (.func 67) #[] #[])=M:=by rw[hM];rfl
 have u0:=fun (K:Value→Hp→Prop) (n:Int) (x:Value)=>ZnF (K:=K) (X:=h1) Ztx (b:=h1.size) rfl (n:=n) (x:=x)
 have u1:=fun (K:Value→Hp→Prop) (l:List (Int × Value)) (n:Int) (x:Value)=>ZiB (K:=K) (X:=h1) Ztx (b:=h1.size) rfl (l:=l) (n:=n) (x:=x)
 have lk:=fun (K:Value→Hp→Prop) (x:Value) (hx:Yp M l.kind=some x)=>ZnG (K:=K) (X:=h1) Ztx ZBo (b:=h1.size) rfl hx
 unfold Zn YX
 unfold YX at e0 q14
 have Zg6:l.kind=0∨l.kind=1∨l.kind=2∨l.kind=3∨l.kind=4∨l.kind=5∨l.kind=6∨l.kind=7:=by omega
 rcases Zg6 with hkk|hkk|hkk|hkk|hkk|hkk|hkk|hkk
 ·have hf:handle n l=YW n l:=by unfold handle;simp[hkk]
  rw[hf]
  have lkx:=fun (K:Value→Hp→Prop)=>lk K (.func (.func 61) #[] #[]) (by rw[hkk,hM];rfl)
  have cc:=Zlr T _ o wb i nb Z6 a n YE fl bad told l _ d2 N2 W2 iv2 Yn hvl hdl tb2
  unfold YX Zn at cc
  simp -implicitDefEqProofs only[go_sem,↓reduceIte,e0,u0,u1,eM,q0,q14,lkx]
  refine cc.use ?_
  rintro v' h' ⟨o',a',Xq,k,N',W'⟩
  simp -implicitDefEqProofs only[go_sem,↓reduceIte]
  exact⟨o',a',Xq,(ZC k2).trans (k.mono fun t q=>by rcases q with rfl|rfl|rfl<;>simp[Xz,Tg.of]),N',by rw[Zlw,List.append_nil];exact W'⟩
 ·have hf:handle n l=Yv n l:=by unfold handle;simp[hkk]
  rw[hf]
  have lkx:=fun (K:Value→Hp→Prop)=>lk K (.func (.func 62) #[] #[]) (by rw[hkk,hM];rfl)
  have cc:=Zfl T _ o wb i nb Z6 a n YE fl bad told l _ d2 N2 W2 iv2 hk hl ht hq hw hv
  unfold YX Zn at cc
  simp -implicitDefEqProofs only[go_sem,↓reduceIte,e0,u0,u1,eM,q0,q14,lkx]
  refine cc.use ?_
  rintro v' h' ⟨o',a',Xq,k,N',W'⟩
  simp -implicitDefEqProofs only[go_sem,↓reduceIte]
  exact⟨o',a',Xq,(ZC k2).trans (k.mono fun t q=>Zlu q),N',by rw[Zfm,List.append_nil];exact W'⟩
 ·have hf:handle n l=asked n l:=by unfold handle;simp[hkk]
  rw[hf]
  have lkx:=fun (K:Value→Hp→Prop)=>lk K (.func (.func 63) #[] #[]) (by rw[hkk,hM];rfl)
  have cc:=ZtJ T _ o wb i nb Z6 a n YE fl bad told l _ d2 N2 W2 iv2 Yn hvl hdl tb2
  unfold YX Zn at cc
  simp -implicitDefEqProofs only[go_sem,↓reduceIte,e0,u0,u1,eM,q0,q14,lkx]
  refine cc.use ?_
  rintro v' h' ⟨o',a',Xq,k,N',W'⟩
  simp -implicitDefEqProofs only[go_sem,↓reduceIte]
  exact⟨o',a',Xq,(ZC k2).trans (k.mono fun t q=>by rcases q with rfl|rfl|rfl<;>simp[Xz,Tg.of]),N',by rw[ZtN,List.append_nil];exact W'⟩
 ·have hf:handle n l=Yv n l:=by unfold handle;simp[hkk]
  rw[hf]
  have lkx:=fun (K:Value→Hp→Prop)=>lk K (.func (.func 62) #[] #[]) (by rw[hkk,hM];rfl)
  have cc:=Zfl T _ o wb i nb Z6 a n YE fl bad told l _ d2 N2 W2 iv2 hk hl ht hq hw hv
  unfold YX Zn at cc
  simp -implicitDefEqProofs only[go_sem,↓reduceIte,e0,u0,u1,eM,q0,q14,lkx]
  refine cc.use ?_
  rintro v' h' ⟨o',a',Xq,k,N',W'⟩
  simp -implicitDefEqProofs only[go_sem,↓reduceIte]
  exact⟨o',a',Xq,(ZC k2).trans (k.mono fun t q=>Zlu q),N',by rw[Zfm,List.append_nil];exact W'⟩
 ·have hf:handle n l=⟨add n l.v.cm,[],[]⟩:=by unfold handle;simp[hkk]
  rw[hf]
  have lkx:=fun (K:Value→Hp→Prop)=>lk K (.func (.func 64) #[] #[]) (by rw[hkk,hM];rfl)
  have cc:=ZtL T _ o wb i nb a n l _ d2 N2 iv2 hq (by omega)
  unfold YX Zn at cc
  simp -implicitDefEqProofs only[go_sem,↓reduceIte,e0,u0,u1,eM,q0,q14,lkx]
  refine cc.use ?_
  rintro v' h' ⟨o',a',k,N'⟩
  simp -implicitDefEqProofs only[go_sem,↓reduceIte]
  exact⟨o',a',YE,(ZC k2).trans (k.mono fun t q=>by rcases q with rfl|rfl<;>simp[Xz,Tg.of]),N',by rw[List.append_nil,List.append_nil];exact W2.Zc k (by rintro t (rfl|rfl)<;>simp[Tg.of])⟩
 ·have hf:handle n l=Zat n l:=by unfold handle;simp[hkk]
  rw[hf]
  have lkx:=fun (K:Value→Hp→Prop)=>lk K (.func (.func 65) #[] #[]) (by rw[hkk,hM];rfl)
  have cc:=ZtM T _ o wb i nb Z6 a n YE fl bad told l _ d2 N2 W2 iv2 Yn
  unfold YX Zn at cc
  simp -implicitDefEqProofs only[go_sem,↓reduceIte,e0,u0,u1,eM,q0,q14,lkx]
  refine cc.use ?_
  rintro v' h' ⟨o',a',Xq,k,N',W'⟩
  simp -implicitDefEqProofs only[go_sem,↓reduceIte]
  exact⟨o',a',Xq,(ZC k2).trans (k.mono fun t q=>by rcases q with rfl|rfl|rfl<;>simp[Xz,Tg.of]),N',by rw[ZtO,List.append_nil];exact W'⟩
 ·have hf:handle n l=UX n l.v.slot l.v.cm:=by unfold handle;simp[hkk]
  rw[hf]
  have lkx:=fun (K:Value→Hp→Prop)=>lk K (.func (.func 66) #[] #[]) (by rw[hkk,hM];rfl)
  have cc:=ZqI T _ o wb i nb Z6 a n YE fl bad told l _ d2 N2 W2 iv2 hk hl ht hq hw
  unfold YX Zn at cc
  simp -implicitDefEqProofs only[go_sem,↓reduceIte,e0,u0,u1,eM,q0,q14,lkx]
  refine cc.use ?_
  rintro v' h' ⟨o',a',Xq,k,N',W'⟩
  simp -implicitDefEqProofs only[go_sem,↓reduceIte]
  exact⟨o',a',Xq,(ZC k2).trans (k.mono fun t q=>Zg5 q),N',by rw[ZtP,List.append_nil];exact W'⟩
 ·have hf:handle n l=⟨notes n l,[],[]⟩:=by unfold handle;simp[hkk]
  rw[hf]
  have lkx:=fun (K:Value→Hp→Prop)=>lk K (.func (.func 67) #[] #[]) (by rw[hkk,hM];rfl)
  have cc:=Zlv T _ o wb i nb a n l _ d2 N2 iv2
  unfold YX Zn at cc
  simp -implicitDefEqProofs only[go_sem,↓reduceIte,e0,u0,u1,eM,q0,q14,lkx]
  refine cc.use ?_
  rintro v' h' ⟨k,N'⟩
  simp -implicitDefEqProofs only[go_sem,↓reduceIte]
  exact⟨o,a,YE,(ZC k2).trans (k.mono fun t q=>by rw[q];simp[Xz,Tg.of]),N',by rw[List.append_nil,List.append_nil];exact W2.Zc k (by rintro t rfl;simp[Tg.of])⟩
@[go_sem] theorem ZGK (x:Cm):List.take 5 x.C=x.C:=rfl
def Us (n:Nd) (r:Jg) (x:Cm):Int:=match free n r x with|some s=>(s:Int)|none=>0
theorem YH.rr {o:Ow} {i:Nat} {h:Hp} {ra:RA} {r:Jg} (s:YH o i h ra r):rd h ⟨ra.rb,0,none⟩ 2=some (X6 r.b)∧hc h ⟨ra.rb,2,none⟩=some (.map (some ra.pb))∧hc h ⟨ra.rb,3,none⟩=some (.bool r.begun)∧hc h ⟨ra.rb,4,none⟩=some (.map (some ra.qb))∧hc h ⟨ra.rb,5,none⟩=some (.map (some ra.vb)):=
 ⟨by rw[Z4 s.ZE.2 (by simp[ZnD])];rfl,Zg s.ZE.2,Zg s.ZE.2,Zg s.ZE.2,Zg s.ZE.2⟩
set_option maxHeartbeats 1000000 in
theorem Zwb (T:World) (h:Hp) (o:Ow) (wb i nb:Nat) (a:NA) (n:Nd) (ra:RA) (r:Jg) (x:Cm) (d:Dom o h) (N:ZJ o h wb i nb a n) (R:YH o i h ra r) (hl:n.log.length≤1000000000000) :
  Zd Tryz.prog T 99 #[Zn nb,Zn ra.rb,cmA x] h fun v' h'=>v'=.tuple #[.int .i64 (Us n r x),.bool (free n r x).isSome]∧Zf h.size h h':=by
 have hnb:=Za N.ZE.2
 have hrb:=Za R.ZE.2
 refine Zd.XM (args:=[_,_,_]) Tryz.func99 rfl rfl rfl rfl ?_
 unfold Zn cmA
 obtain⟨h1,YF⟩:=Zx (h.push (.cells x.C.toArray 77):Hp)
 have k1:Kp J9 o h o h1:=by rw[YF];exact ZV d _
 have b1:Zf h.size h h1:=by rw[YF];exact Zf.push (Nat.le_refl _) _
 have x1:ZM o h1 h.size (.cells x.C.toArray 77):=⟨d _ (Nat.le_refl _),by rw[YF];exact Zb⟩
 have e0:=YF.symm
 have N1:=N.still k1
 have R1:=R.Zc k1 (fun _ _ q=>q)
 have P1:=Zw N1.ZE.2 N1.pt.store.len
 have P0:=Zw N.ZE.2 N.pt.store.len
 obtain⟨lp,lc,ZhP,hlc⟩:=YA.isSlice N1.pt.log
 have P11:=P1.log
 rw[ZhP]at P11
 have JE:=Za N1.ZE.2
 have e3:((n.log.length:Nat):Int)=(n.log.length:Int):=rfl
 simp -implicitDefEqProofs only[go_sem,↓reduceIte,e0,P11]
 refine VS.ZW (fun F g=>Zf h1.size h1 g∧F 0=.pointer (some ⟨nb,0,none⟩)∧F 1=.pointer (some ⟨ra.rb,0,none⟩)∧F 5=.pointer (some ⟨h.size,0,none⟩)∧∃s:Nat,F 8=.int .i64 s∧n.log.length≤s∧QA n r x (40-n.log.length) n.log.length=QA n r x (40-s) s)
  (fun F _=>40-(vi (F 8)).toNat) rfl ⟨Zf.refl _ _,rfl,rfl,rfl,n.log.length,rfl,Nat.le_refl _,rfl⟩ ?_
 rintro F g ⟨hg,f0,f1,f5,s,f8,hs,he⟩
 have kg:=ZB k1.ZU hg
 have N2:=N1.still kg
 have R2:=R1.Zc kg (fun _ _ q=>q)
 have y1:=x1.Zc kg
 have P2:=Zw N2.ZE.2 N2.pt.store.len
 obtain⟨_,_,_,q4,_⟩:=R2.rr
 have gs:=hg.size
 have JH:=Za N2.ZE.2
 have Zlt:=Za R2.ZE.2
 have bb:Zf h.size h g:=b1.trans (hg.mono b1.size)
 have eF:free n r x=QA n r x (40-s) s:=he
 by_cases ZD:s<40
 ·have ZL:(s:Int)<40:=by omega
  obtain⟨f,hf⟩:∃f,40-s=f+1:=⟨39-s,by omega⟩
  have ef:f=40-(s+1):=by omega
  rw[hf]at eF he
  have lk1:=fun (K:Value→Hp→Prop)=>Yr (K:=K) (n:=(s:Int)) (c:=true) Za8 Zd5 R2.prop.2
  rw[Xj]at lk1
  have lk2:=fun (K:Value→Hp→Prop) (z:Obj)=>Yr (h:=g.push z) (K:=K) (n:=(s:Int)) (c:=true) Za8 Zd5 ((Zq (Za N2.pt.known.2)).trans N2.pt.known.2)
  simp only[Xj]at lk2
  have fz:∀c:Cm,rd g ⟨h.size,0,none⟩ 5=some x.C:=fun _=>Zo y1.2 rfl
  have fx:rd g ⟨h.size,0,none⟩ 5=some x.C:=Zo y1.2 rfl
  have hx5:=Za y1.2
  have n1:¬h.size=g.size:=by omega
  have n2:¬h.size=g.size+1:=by omega
  have n3:¬nb=g.size:=by omega
  unfold QA at eF
  cases c1:Yp r.prop (s:Int) with
  | none=>
   simp only[c1,Option.map_none,Option.getD_none,Option.isSome_none,↓reduceIte]at lk1
   cases c2:Yp n.known (s:Int) with
   | none=>
    simp only[c2,Option.map_none,Option.getD_none,Option.isSome_none,↓reduceIte]at lk2
    have e4:free n r x=some s:=by rw[eF,if_neg (by rw[c1,c2];simp),if_pos ⟨c1,c2⟩]
    have e5:Us n r x=s:=by unfold Us;rw[e4]
    rw[e5,e4]
    simp -implicitDefEqProofs only[go_sem,↓reduceIte,f0,f1,f5,f8,ZL,q4,lk1,lk2,P2.known,n1,n2,n3,fx,cmA,Option.isSome_some]
    exact (bb.Ye (by omega) _).Ye (by simp;omega) _
   | some z=>
    simp only[c2,Option.map_some,Option.getD_some,Option.isSome_some,↓reduceIte]at lk2
    by_cases qz:z=x
    ·have e4:free n r x=none:=by rw[eF,if_pos (.inr (by rw[c2,qz]))]
     have e5:Us n r x=0:=by unfold Us;rw[e4]
     rw[e5,e4]
     simp -implicitDefEqProofs only[go_sem,↓reduceIte,f0,f1,f5,f8,ZL,q4,lk1,lk2,P2.known,n1,n2,n3,fx,cmA,qz,Option.isSome_none]
     exact (bb.Ye (by omega) _).Ye (by simp;omega) _
    ·have qz':¬some z=some x:=fun e=>qz (Option.some.inj e)
     simp -implicitDefEqProofs only[go_sem,↓reduceIte,f0,f1,f5,f8,ZL,q4,lk1,lk2,P2.known,n1,n2,n3,fx,cmA,qz]
     unfold Xo
     refine⟨⟨(hg.Ye (by omega) _).Ye (by simp;omega) _,f0,f1,f5,s+1,rfl,by omega,?_⟩,?_⟩
     ·rw[he,←ef,QA,if_neg (by rw[c1,c2];simp[qz]),if_neg (by rw[c2];simp)]
     ·simp only[vi,Zk,↓reduceIte,f8];omega
  | some y=>
   simp only[c1,Option.map_some,Option.getD_some,Option.isSome_some,↓reduceIte]at lk1
   by_cases qy:y=x
   ·have e4:free n r x=none:=by rw[eF,if_pos (.inl (by rw[c1,qy]))]
    have e5:Us n r x=0:=by unfold Us;rw[e4]
    rw[e5,e4]
    cases c2:Yp n.known (s:Int) with
    | none=>
     simp only[c2,Option.map_none,Option.getD_none,Option.isSome_none,↓reduceIte]at lk2
     simp -implicitDefEqProofs only[go_sem,↓reduceIte,f0,f1,f5,f8,ZL,q4,lk1,lk2,P2.known,n1,n2,n3,fx,cmA,qy,Option.isSome_none]
     exact (bb.Ye (by omega) _).Ye (by simp;omega) _
    | some z=>
     simp only[c2,Option.map_some,Option.getD_some,Option.isSome_some,↓reduceIte]at lk2
     simp -implicitDefEqProofs only[go_sem,↓reduceIte,f0,f1,f5,f8,ZL,q4,lk1,lk2,P2.known,n1,n2,n3,fx,cmA,qy,Option.isSome_none]
     exact (bb.Ye (by omega) _).Ye (by simp;omega) _
   ·cases c2:Yp n.known (s:Int) with
    | none=>
     simp only[c2,Option.map_none,Option.getD_none,Option.isSome_none,↓reduceIte]at lk2
     simp -implicitDefEqProofs only[go_sem,↓reduceIte,f0,f1,f5,f8,ZL,q4,lk1,lk2,P2.known,n1,n2,n3,fx,cmA,qy]
     unfold Xo
     refine⟨⟨(hg.Ye (by omega) _).Ye (by simp;omega) _,f0,f1,f5,s+1,rfl,by omega,?_⟩,?_⟩
     ·rw[he,←ef,QA,if_neg (by rw[c1,c2];simp[qy]),if_neg (by rw[c1];simp)]
     ·simp only[vi,Zk,↓reduceIte,f8];omega
    | some z=>
     simp only[c2,Option.map_some,Option.getD_some,Option.isSome_some,↓reduceIte]at lk2
     by_cases qz:z=x
     ·have e4:free n r x=none:=by rw[eF,if_pos (.inr (by rw[c2,qz]))]
      have e5:Us n r x=0:=by unfold Us;rw[e4]
      rw[e5,e4]
      simp -implicitDefEqProofs only[go_sem,↓reduceIte,f0,f1,f5,f8,ZL,q4,lk1,lk2,P2.known,n1,n2,n3,fx,cmA,qy,qz,Option.isSome_none]
      exact (bb.Ye (by omega) _).Ye (by simp;omega) _
     ·
      simp -implicitDefEqProofs only[go_sem,↓reduceIte,f0,f1,f5,f8,ZL,q4,lk1,lk2,P2.known,n1,n2,n3,fx,cmA,qy,qz]
      unfold Xo
      refine⟨⟨(hg.Ye (by omega) _).Ye (by simp;omega) _,f0,f1,f5,s+1,rfl,by omega,?_⟩,?_⟩
      ·rw[he,←ef,QA,if_neg (by rw[c1,c2];simp[qy,qz]),if_neg (by rw[c1];simp)]
      ·simp only[vi,Zk,↓reduceIte,f8];omega
 ·have YK:¬(s:Int)<40:=by omega
  have e4:free n r x=none:=by rw[eF,show 40-s=0 by omega];rfl
  have e5:Us n r x=0:=by unfold Us;rw[e4]
  rw[e5,e4]
  simp -implicitDefEqProofs only[go_sem,↓reduceIte,f8,YK,bb,Option.isSome_none]
def ZyD (B:Nat) (o:Ow) (h0 h:Hp) (u:Value) (LL:List (List Vt)):Prop:=
 ∃ws:List Value,Qq B 61 1 h u LL.length ws∧Al2 (fun w l=>ImV o h0 w l∧l.length≤1000000) ws LL
def ZnH (o:Ow) (h:Hp) (u:Value) (LL:List (List Vt)):Prop:=∃p c,u=.slice p LL.length c∧(LL≠[]→∃b off,p=some ⟨b,off,none⟩∧b<h.size∧o b=none∧∀i (hi:i<LL.length),∃w,hc h ⟨b,off+i,none⟩=some w∧ImV o h w LL[i]∧LL[i].length≤1000000)
theorem ZnH.vss {o:Ow} {h:Hp} {u:Value} {LL:List (List Vt)} (s:ZnH o h u LL):Vss h u LL:=by
 obtain⟨p,c,hv,hh⟩:=s
 refine⟨p,c,hv,fun Ys=>?_⟩
 obtain⟨b,off,h1,h2,h3,h4⟩:=hh Ys
 refine⟨b,off,h1,h2,fun i hi=>?_⟩
 obtain⟨w,g1,g2,g3⟩:=h4 i hi
 exact⟨w,g1,g2.ts,by omega⟩
theorem ZnH.Zc {S:Tg→Prop} {o o':Ow} {h h':Hp} {u:Value} {LL:List (List Vt)} (s:ZnH o h u LL) (k:Kp S o h o' h'):ZnH o' h' u LL:=by
 obtain⟨p,c,hv,hh⟩:=s
 refine⟨p,c,hv,fun Ys=>?_⟩
 obtain⟨b,off,h1,h2,h3,h4⟩:=hh Ys
 obtain⟨q1,q2⟩:=k.Zc b h2 fun t ht=>by rw[h3]at ht;cases ht
 refine⟨b,off,h1,Nat.lt_of_lt_of_le h2 k.size,q2.trans h3,fun i hi=>?_⟩
 obtain⟨w,g1,g2,g3⟩:=h4 i hi
 refine⟨w,?_,g2.Zc k,g3⟩
 unfold hc at g1 ⊢
 rw[q1];exact g1
theorem ZyD.ZGL {o:Ow} {h0 h:Hp} {u:Value} {LL:List (List Vt)} (s:ZyD h0.size o h0 h u LL) (d:Dom o h0) (hb:Zf h0.size h0 h):ZnH o h u LL:=by
 obtain⟨ws,own,al⟩:=s
 have Zwc:ws.length=LL.length:=by
  clear own
  induction al with
  | nil=>rfl
  | cons _ _ ih=>simp[ih]
 have ZGM:∀i (hi:i<LL.length),∃w,ws[i]? = some w∧ImV o h0 w LL[i]∧LL[i].length≤1000000:=by
  clear own Zwc
  induction al with
  | nil=>intro i hi;simp at hi
  | cons hab _ ih=>
   intro i hi
   cases i with
   | zero=>exact⟨_,rfl,hab⟩
   | succ i=>exact ih i (by simpa using hi)
 obtain⟨p,c,hv,hl,YR⟩:=own.sl
 refine⟨p,c,hv,fun Ys=>?_⟩
 have Zf0:0<LL.length:=List.length_pos_iff.2 Ys
 obtain⟨b,off,rfl,hc2⟩:=YR (by intro e;rw[e]at Zwc;simp at Zwc;omega)
 have hbB:h0.size≤b:=by
  refine own.ZE b ?_
  rcases own with⟨⟨q,h1⟩,h2,h3⟩|⟨b',cap,sp,_,h1,_,_,_,hm⟩
  ·subst h3;simp at Zwc;omega
  ·rw[hv]at h1
   simp only[Value.slice.injEq,Option.some.injEq,Addr.mk.injEq]at h1
   obtain⟨⟨rfl,_,_⟩,h12,h13⟩:=h1
   rw[hv]
   have:c≠0:=by omega
   simp[ZT,this]
 refine⟨b,off,rfl,Q8 (hc2 0 (by omega)),d b hbB,fun i hi=>?_⟩
 obtain⟨w,h1,h2,h3⟩:=ZGM i hi
 have hi':i<ws.length:=by omega
 rw[List.getElem?_eq_getElem hi']at h1
 exact⟨w,by rw[hc2 i hi',Option.some.inj h1],h2.Zc (ZB d hb),h3⟩
theorem Zlx {α β:Type} {R:α→β→Prop} {l:List α} {k:List β} (s:Al2 R l k) {a:α} {b:β} (h:R a b):Al2 R (l++[a]) (k++[b]):=by
 induction s with
 | nil=>exact .cons h .nil
 | cons x _ ih=>exact .cons x ih
theorem ZqK (l:List Vt) (v:Vt):Zc7 (l++[v])=if Zc7 l<v.slot then v.slot else Zc7 l:=by
 unfold Zc7;rw[List.foldl_append];rfl
theorem YH.ZoO {o:Ow} {i:Nat} {h:Hp} {ra:RA} {r:Jg} (s:YH o i h ra r) (d:Dom o h) {k:Int} {x:Cm} :
  Kp (fun t=>t=.prop i) o h o (h.setIfInBounds ra.qb (Xk (ins (Uo cmA r.prop) k (.agg x.C.toArray))))∧YH o i (h.setIfInBounds ra.qb (Xk (ins (Uo cmA r.prop) k (.agg x.C.toArray)))) ra { r with prop:=ins r.prop k x }:=by
 have kk:Kp (fun t=>t=.prop i) o h o (h.setIfInBounds ra.qb (Xk (ins (Uo cmA r.prop) k (.agg x.C.toArray)))):=(Kp.refl d (fun t=>t=.prop i)).set s.prop.1 rfl _
 exact⟨kk,s.ZE.Zc kk (by intro e;cases e),s.prom.Zc kk (by intro e;cases e),s.Zb7.Zc kk,⟨s.prop.1,by rw[Zu s.prop.2,ZbO];rfl⟩,s.Xp.Zc kk (by intro e;cases e),s.Za9.Zc kk (fun _ e=>by cases e),s.keys⟩
theorem ZbA (r:Jg):(Z2 r).length=5:=rfl
theorem ZiC (r:Jg) (m:Nat) (hm:m<(Z2 r).length):(Z2 r)[m]=(Yp r.prom (m:Int)).getD []:=by
 simp only[Z2,List.getElem_map,List.getElem_range]
theorem YH.list {o:Ow} {i:Nat} {h:Hp} {ra:RA} {r:Jg} (s:YH o i h ra r) (hp:∀x∈r.prom,x.2.length≤1000000) (m:Int):∃p c vs,(Yp ra.pv m).getD (.slice none 0 0)=.slice p vs.length c∧(Yp r.prom m).getD []=vs∧ImV o h (.slice p vs.length c) vs∧vs.length≤1000000:=by
 rcases s.Zb7.Yp m with⟨h1,h2⟩|⟨w,vs,h1,h2,iv⟩
 ·exact⟨none,0,[],by rw[h1];rfl,by rw[h2];rfl,Im.nil _ _ _ _,by simp⟩
 ·obtain⟨p,c,rfl⟩:=iv.isSlice
  exact⟨p,c,vs,by rw[h1];rfl,by rw[h2];rfl,iv,hp _ (Zcj h2)⟩
set_option maxHeartbeats 1000000 in
theorem ZtQ (T:World) (h:Hp) (o:Ow) (wb i nb:Nat) (a:NA) (n:Nd) (ra:RA) (r:Jg) (d:Dom o h) (N:ZJ o h wb i nb { a with Zh:=some ra } { n with Zh:=some r }) (hp:∀x∈r.prom,x.2.length≤1000000) (hs:∀x∈r.prom,∀v∈x.2,v.slot≤1000000) (hl:n.log.length≤1000000000000) :
  Zd Tryz.prog T 98 #[Zn nb,Zn ra.rb] h fun v' h'=>∃ra',ra'.rb=ra.rb∧Kp (XD i) o h o h'∧ZJ o h' wb i nb { a with Zh:=some ra' } { n with Zh:=some (Zby n r) }:=by
 have hnb:=Za N.ZE.2
 have R:YH o i h ra r:=N.pt.Zh
 have hrb:=Za R.ZE.2
 refine Zd.Zi (args:=[_,_]) Tryz.func98 rfl rfl rfl rfl ?_
 unfold Zn
 simp -implicitDefEqProofs only[go_sem,↓reduceIte]
 refine VS.ZW (fun F g=>Zf h.size h g∧F 0=.pointer (some ⟨nb,0,none⟩)∧F 1=.pointer (some ⟨ra.rb,0,none⟩)∧∃m:Nat,m≤5∧F 12=.int .i64 m∧ZyD h.size o h g (F 4) ((Z2 r).take m)∧F 5=.int .i64 (Zc7 ((Z2 r).take m).flatten))
  (fun F _=>5-(vi (F 12)).toNat) rfl ⟨Zf.refl _ _,rfl,rfl,0,by omega,rfl,⟨[],Qq.nil _ _ _ _,.nil⟩,rfl⟩ ?_
 rintro F g ⟨hg,f0,f1,m,hm,f12,hG,f5⟩
 have kg:=ZB d hg
 have N1:=N.still kg
 have R1:=R.Zc kg (fun _ _ q=>q)
 obtain⟨_,q2,q3,q4,_⟩:=R1.rr
 have gs:=hg.size
 by_cases ZD:m<5
 ·have ZL:(m:Int)<5:=by omega
  obtain⟨pm,cm,vs,e1,e2,iv,hvl⟩:=R1.list hp (m:Int)
  have hm5:m<(Z2 r).length:=by rw[ZbA];exact ZD
  have e3:(Z2 r)[m]=vs:=by rw[ZiC,e2]
  have e4:(Z2 r).take (m+1)=(Z2 r).take m++[vs]:=by rw[Yi _ m hm5,e3]
  have lk:=fun (G:Hp) (hG:Zf g.size g G) (K:Value→Hp→Prop)=>Yr (h:=G) (K:=K) (n:=(m:Int)) (c:=false) Zfg Zty (hG.get (Za R1.prom.2) R1.prom.2)
  simp only[e1,Bool.false_eq_true,if_false]at lk
  have lk0:=lk g (Zf.refl _ _)
  obtain⟨ws,own,al⟩:=hG
  obtain⟨p4,c4,hF4⟩:∃p c,F 4=.slice p ((Z2 r).take m).length c:=by
   obtain⟨p,c,h1,_⟩:=own.sl;exact⟨p,c,h1⟩
  have ml:((Z2 r).take m).length=m:=by rw[List.length_take,ZbA];omega
  rw[ml]at hF4 own
  rw[hF4]at own
  simp -implicitDefEqProofs only[go_sem,↓reduceIte,f0,f1,f5,f12,hF4,ZL,q2,lk0]
  have src:Sl 1 (g.push (.cells [.slice pm vs.length cm].toArray 61)) (.slice (some ⟨g.size,0,none⟩) 1 1) 1 [.slice pm vs.length cm]:=Sl.made (by simp) 1
  refine ZeQ (E:=61) (n:=1) (B:=h.size) (bytes:=24) (m:=m) (k:=1) (cs:=ws) ZxY Tryz.underlying213 ZEv ZEx rfl ZEw (own.push _) (by simp;omega) src rfl (by omega) (by omega) ?_
  intro u3 g3 ZBv ZGN _
  have hg3:Zf h.size h g3:=(hg.Ye (by omega) _).trans (ZGN.Z9 (by simp;omega) (own.push (.cells [.slice pm vs.length cm].toArray 61)).ZE)
  have kg3:=ZB d hg3
  have R3:=R.Zc kg3 (fun _ _ q=>q)
  obtain⟨_,q23,_,_,_⟩:=R3.rr
  have lk3:=fun (K:Value→Hp→Prop)=>Yr (K:=K) (n:=(m:Int)) (c:=false) Zfg Zty R3.prom.2
  simp only[e1,Bool.false_eq_true,if_false]at lk3
  obtain⟨p5,c5,rfl⟩:∃p c,u3=.slice p (m+1) c:=by obtain⟨p,c,h1,_⟩:=ZBv.sl;exact⟨p,c,h1⟩
  have iv0:ImV o h (.slice pm vs.length cm) vs:=by
   obtain⟨pm',cm',vs',x1,x2,iv',_⟩:=R.list hp (m:Int)
   rw[e1]at x1
   rw[e2]at x2
   subst x2
   rw[←x1]at iv'
   exact iv'
  have al3:Al2 (fun w l=>ImV o h w l∧l.length≤1000000) (ws++[.slice pm vs.length cm]) ((Z2 r).take m++[vs]):=by
   exact Zlx al ⟨iv0,hvl⟩
  simp -implicitDefEqProofs only[go_sem,↓reduceIte,f0,f1,f5,f12,ZL,q23,lk3]
  obtain⟨LL,hLL⟩:=Zx (((Z2 r).take m).flatten)
  have hfl:((Z2 r).take (m+1)).flatten=LL++vs:=by rw[e4,List.flatten_append,←hLL];simp
  rw[←hLL]at f5
  have ivo:=fun g' (hb:Zf h.size h g')=>Zg2 (iv0.Zc (ZB d hb)).ts
  refine VS.ZW (fun F' g'=>Zf h.size h g'∧F' 0=.pointer (some ⟨nb,0,none⟩)∧F' 1=.pointer (some ⟨ra.rb,0,none⟩)∧F' 12=.int .i64 m∧F' 29=.slice pm vs.length cm∧F' 30=.int .i64 vs.length∧F' 4=.slice p5 (m+1) c5∧Qq h.size 61 1 g' (.slice p5 (m+1) c5) (m+1) (ws++[.slice pm vs.length cm])∧∃j:Nat,j≤vs.length∧F' 31=.int .i64 j∧F' 5=.int .i64 (Zc7 (LL++vs.take j)))
   (fun F' _=>vs.length-(vi (F' 31)).toNat) rfl ⟨hg3,f0,f1,f12,rfl,rfl,rfl,ZBv,0,by omega,rfl,by rw[List.take_zero,List.append_nil];exact f5⟩ ?_
  rintro F2 g4 ⟨hg4,f0,f1,f12,f29,f30,f4,ZBw,j,hj,f31,f5⟩
  by_cases hjl:j<vs.length
  ·have ZGO:(j:Int)<vs.length:=by omega
   obtain⟨pp,cc,hv1,hv2⟩:=ivo g4 hg4
   obtain⟨bb,oo,hpp,hbb,hrd⟩:=hv2 (by intro e;rw[e]at hjl;simp at hjl)
   simp only[Value.slice.injEq]at hv1
   obtain⟨rfl,_,rfl⟩:=hv1
   subst hpp
   have r1:=hrd j hjl
   unfold Zm at r1
   simp -implicitDefEqProofs only[go_sem,↓reduceIte,f0,f1,f12,f29,f30,f4,f31,f5,ZGO,r1]
   unfold Xo
   refine⟨⟨hg4.Ye hg4.size _,f0,f1,f12,f29,f30,f4,ZBw.push _,j+1,hjl,rfl,?_⟩,?_⟩
   ·show Value.int .i64 _=_
    rw[Yi vs j hjl,←List.append_assoc,ZqK]
   ·simp only[vi,Zk,↓reduceIte,f31];omega
  ·have YK:¬(j:Int)<vs.length:=by omega
   obtain rfl:j=vs.length:=by omega
   rw[List.take_length]at f5
   simp -implicitDefEqProofs only[go_sem,↓reduceIte,f30,f31,YK,f12]
   unfold Xo
   refine⟨⟨hg4,f0,f1,m+1,ZD,rfl,⟨_,?_,by rw[e4];exact al3⟩,by rw[hfl];exact f5⟩,?_⟩
   ·show Qq _ _ _ _ (F2 4) _ _
    rw[f4,e4,List.length_append,ml]
    exact ZBw
   ·simp only[vi,Zk,↓reduceIte,f12];omega
 ·have YK:¬(m:Int)<5:=by omega
  obtain rfl:m=5:=by omega
  have ht5:(Z2 r).take 5=Z2 r:=by rw[List.take_of_length_le];exact Nat.le_of_eq (ZbA r)
  rw[ht5]at hG f5
  have P1:=Zw N1.ZE.2 N1.pt.store.len
  have JE:=Za N1.ZE.2
  obtain⟨lp,lc,ZhP,_⟩:=YA.isSlice N1.pt.log
  have P11:=P1.log
  rw[ZhP]at P11
  have ZqL:=hG.ZGL d hg
  obtain⟨u,hu⟩:=Zx (F 4)
  rw[←hu]at ZqL hG
  obtain⟨top,Zjr⟩:=Zx (Zc7 (Z2 r).flatten)
  rw[←Zjr]at f5
  have htl:top≤1000000:=by
   rw[Zjr]
   have key:∀(l:List Vt) (t:Int),t≤1000000→(∀v∈l,v.slot≤1000000)→l.foldl (fun t v=>if t<v.slot then v.slot else t) t≤1000000:=by
    intro l
    induction l with
    | nil=>intro t ht _;exact ht
    | cons x l ih=>
     intro t ht hh
     refine ih _ ?_ (fun v hv=>hh v (List.mem_cons_of_mem _ hv))
     show (if t<x.slot then x.slot else t)≤1000000
     split
     ·exact hh x List.mem_cons_self
     ·exact ht
   refine key _ _ (by omega) ?_
   intro v hv
   simp only[List.mem_flatten]at hv
   obtain⟨l,hl1,hl2⟩:=hv
   obtain⟨k,hk,rfl⟩:=List.getElem_of_mem hl1
   rw[ZiC]at hl2
   cases hx:Yp r.prom (k:Int) with
   | none=>rw[hx]at hl2;cases hl2
   | some y=>rw[hx]at hl2;exact hs _ (Zcj hx) v hl2
  clear hG
  obtain⟨LL,hLL⟩:=Zx (Z2 r)
  rw[←hLL]at ZqL Zjr
  obtain⟨C,hC⟩:=Zx ((top+1).toNat-n.log.length)
  have Znd:Zby n r = { r with prop:=(List.range' n.log.length C).foldl (XH n LL) r.prop,begun:=true }:=by
   unfold Zby;rw[hC,Zjr,hLL]
  rw[Znd]
  have hu':=hu.symm
  simp -implicitDefEqProofs only[go_sem,↓reduceIte,f0,f1,f5,f12,YK,P11]
  refine VS.ZW (fun F' g'=>Kp (XD i) o h o g'∧F' 0=.pointer (some ⟨nb,0,none⟩)∧F' 1=.pointer (some ⟨ra.rb,0,none⟩)∧F' 4=u∧F' 5=.int .i64 top∧ZnH o g' u LL∧∃k:Nat,k≤C∧F' 9=.int .i64 ((n.log.length+k:Nat):Int)∧ZJ o g' wb i nb { a with Zh:=some ra } { n with Zh:=some { r with prop:=(List.range' n.log.length k).foldl (XH n LL) r.prop } })
   (fun F' _=>n.log.length+C-(vi (F' 9)).toNat) rfl ⟨ZC kg,f0,f1,hu',f5,ZqL,0,by omega,rfl,N1⟩ ?_
  rintro F2 g2 ⟨K2,f0,f1,f4,f5,ZqL,k,hk,f9,N2⟩
  obtain⟨pk,hpk⟩:=Zx ((List.range' n.log.length k).foldl (XH n LL) r.prop)
  rw[←hpk]at N2
  have R2:YH o i g2 ra { r with prop:=pk }:=N2.pt.Zh
  obtain⟨_,_,_,q4,_⟩:=R2.rr
  have P2:=Zw N2.ZE.2 N2.pt.store.len
  have JH:=Za N2.ZE.2
  have Zlt:=Za R2.ZE.2
  by_cases hkc:k<C
  ·have hle:(((n.log.length+k:Nat):Int))≤top:=by omega
   have lk:=fun (K:Value→Hp→Prop)=>Yr (K:=K) (n:=((n.log.length+k:Nat):Int)) (c:=true) Za8 Zd5 N2.pt.known.2
   rw[Xj]at lk
   have YN:(List.range' n.log.length (k+1)).foldl (XH n LL) r.prop=XH n LL pk (n.log.length+k):=by
    rw[List.range'_concat,List.foldl_append,←hpk];simp
   cases hx:Yp n.known ((n.log.length+k:Nat):Int) with
   | some y=>
    have e6:XH n LL pk (n.log.length+k)=pk:=by unfold XH;rw[if_neg (by rw[hx];simp)]
    simp only[show ({ n with Zh:=some { r with prop:=pk } }:Nd).known=n.known from rfl,hx,Option.map_some,Option.getD_some,Option.isSome_some,↓reduceIte]at lk
    simp -implicitDefEqProofs only[go_sem,↓reduceIte,f0,f1,f4,f5,f9,hle,P2.known,lk,cmA]
    have kx:=ZV K2.ZU (.cells y.C.toArray 77)
    unfold Xo
    refine⟨⟨K2.push _,f0,f1,f4,f5,ZqL.Zc kx,k+1,hkc,?_,by rw[YN,e6];exact N2.still kx⟩,?_⟩
    ·show Value.int .i64 _=Value.int .i64 _
     congr 1
    ·simp only[vi,Zk,↓reduceIte,f9];omega
   | none=>
    have e6:XH n LL pk (n.log.length+k)=ins pk ((n.log.length+k:Nat):Int) (Zb6 LL ((n.log.length+k:Nat):Int)):=by unfold XH;rw[if_pos hx]
    simp only[show ({ n with Zh:=some { r with prop:=pk } }:Nd).known=n.known from rfl,hx,Option.map_none,Option.getD_none,Option.isSome_none,↓reduceIte]at lk
    simp -implicitDefEqProofs only[go_sem,↓reduceIte,f0,f1,f4,f5,f9,hle,P2.known,lk]
    obtain⟨g3,hg3⟩:=Zx (g2.push (.cells cm0.C.toArray 77):Hp)
    have kx:Kp J9 o g2 o g3:=by rw[hg3];exact ZV K2.ZU _
    rw[←hg3]
    have N3:=N2.still kx
    have R3:YH o i g3 ra { r with prop:=pk }:=N3.pt.Zh
    obtain⟨_,_,_,q43,_⟩:=R3.rr
    have ZGP:=Za R3.ZE.2
    have hv3:=ZqL.Zc kx
    have LLl:LL.length≤4611686018427387904:=by rw[hLL,ZbA];omega
    refine VS.z (g3.size) [12] (.p 0 (.p 1 (.p 2 (.q 3 (.p 4 (.p 5 (.p 6 (.s 7 (.p 8 (.p 9 (.p 10 (.p 11 (.w 12 .nil))))))))))))) mixed (by kernel_rfl) ?_
    simp -implicitDefEqProofs only[go_sem,↓reduceIte,f0,f1,f4,f5,f9,q43,ZGP]
    refine (ZvE T g3 u LL ((n.log.length+k:Nat):Int) hv3.vss LLl).use ?_
    rintro _ g4 ⟨ZvP,b4⟩
    unfold Zjn at ZvP
    subst ZvP
    have k4:=ZB kx.ZU b4
    have N4:=N3.still k4
    have R4:YH o i g4 ra { r with prop:=pk }:=N4.pt.Zh
    have eC:Zjm (if Zaq ((n.log.length+k:Nat):Int) LL.flatten=0 then QR ((n.log.length+k:Nat):Int) LL.flatten else vt0)=(Zb6 LL ((n.log.length+k:Nat):Int)).C:=by
     unfold Zb6;split<;>rfl
    rw[eC]
    simp -implicitDefEqProofs only[go_sem,↓reduceIte,b4,f0,f1,f4,f5,f9]
    rw[XN Za8 R4.prop.2]
    obtain⟨k5,R5⟩:=R4.ZoO k4.ZU (k:=((n.log.length+k:Nat):Int)) (x:=Zb6 LL ((n.log.length+k:Nat):Int))
    have k5':Kp (XD i) o g4 o _:=k5.mono fun t q=>.inr (.inr (.inl q))
    simp -implicitDefEqProofs only[go_sem,↓reduceIte,f9]
    unfold Xo
    refine⟨⟨(K2.trans ((ZC kx).trans (ZC k4))).trans k5',f0,f1,f4,f5,(hv3.Zc k4).Zc k5',k+1,hkc,?_,?_⟩,?_⟩
    ·show Value.int .i64 _=Value.int .i64 _
     congr 1
    ·rw[YN,e6]
     exact⟨N4.ZE.Zc k5 (by intro e;cases e),ZS.Qp N4.pt k5' rfl rfl R5⟩
    ·simp only[vi,Zk,↓reduceIte,f9];omega
  ·have hgt:¬(((n.log.length+k:Nat):Int))≤top:=by omega
   obtain rfl:k=C:=by omega
   obtain⟨g4,w4,h4⟩:∃g4,Jp g2 ⟨ra.rb,3,none⟩ (.bool true)=some g4∧g4=g2.setIfInBounds ra.rb (.cells (ZnD { r with prop:=pk,begun:=true } ra).toArray 122):=by
    refine⟨_,?_,rfl⟩
    rw[Yu R2.ZE.2,if_pos ⟨by simp[ZnD],rfl⟩];rfl
   simp -implicitDefEqProofs only[go_sem,↓reduceIte,f0,f1,f4,f5,f9,hgt,Zlt,w4]
   have kk:Kp (fun t=>t=.Zh i) o g2 o g4:=by rw[h4];exact (Kp.refl K2.ZU (fun t=>t=.Zh i)).set R2.ZE.1 rfl _
   have R4:YH o i g4 ra { r with prop:=pk,begun:=true }:=⟨⟨R2.ZE.1,by rw[h4];exact Zu R2.ZE.2⟩,R2.prom.Zc kk (by intro e;cases e),R2.Zb7.Zc kk,R2.prop.Zc kk (by intro e;cases e),R2.Xp.Zc kk (by intro e;cases e),R2.Za9.Zc kk (fun _ e=>by cases e),R2.keys⟩
   rw[←hpk]
   refine⟨ra,rfl,K2.trans (kk.mono fun t q=>.inl q),N2.ZE.Zc kk (by intro e;cases e),ZS.Qp N2.pt (kk.mono fun t q=>.inl q) rfl rfl R4⟩
end Go.Proofs.YtnhbpmoeaodmnaaGreatDoor
