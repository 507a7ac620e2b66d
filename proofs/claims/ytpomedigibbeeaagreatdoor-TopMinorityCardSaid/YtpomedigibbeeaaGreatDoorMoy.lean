/- A node is asked for a promise. -/
import Derived.Test.YtpomedigibbeeaaGreatDoorMop
import Derived.Test.YtpomedigibbeeaaGreatDoorOpn
namespace Go.Proofs.YtpomedigibbeeaaGreatDoor
open Go Go.V
set_option linter.unusedSimpArgs false
set_option linter.unusedVariables false
set_option maxRecDepth 100000
theorem fI (G:Hp) (X Y:Obj):((G.push X).push Y)[G.size]? = some X:=by rw[Zq (by simp),Zb]
theorem gs2 (G:Hp) (k:Nat) (X Y:Obj):((G.setIfInBounds k X).push Y)[G.size]? = some Y:=by
 have:=Zb (h:=G.setIfInBounds k X) (o:=Y);rwa [Array.size_setIfInBounds]at this
theorem hQ (G:Hp) (X Y:Obj):((G.push X).push Y)[G.size+1]? = some Y:=by
 have:=Zb (h:=G.push X) (o:=Y);rwa [Array.size_push]at this
def bu (B:Nat) (g':Hp) (A C:Value) (p:XL) (l:List Vt) (b:XL):Prop:=
 ∃ka kc w1 w2,A=Zn ka∧C=Zn kc∧B≤ka∧B≤kc∧g'[ka]? = some (.cells (YB (if Yu p l b=0 then b else ⟨0,0⟩) w1).toArray 105)∧g'[kc]? = some (.cells [w2].toArray 103) ∧
  X7 B 146 Zm 8 g' w1 (if Yu p l b=0 then l else [])∧X7 B 146 Zm 8 g' w2 (if Yu p l b=0 then l else [])
def Ha (B:Nat) (g':Hp) (A:Value) (l:List Nat) (n:Int) (E:Int) (add:List Nat):Prop:=
 ∃ka w,A=.pointer (some ⟨ka,0,none⟩)∧B≤ka∧g'[ka]? = some (.cells [w,.int .i64 (if E=0 then n else 0)].toArray 100)∧ZZ B 5 g' w (if E=0 then l++add else [])
set_option maxHeartbeats 1000000 in
theorem Da (T:World) (h:Hp) (o:Ow) (wb i nb:Nat) (Z4:Nat→Nat) (a:NA) (n:Nd) (Yy:WA) (fl:List YY) (bad:Nat→Int) (told:List TS) (l:YY) (w:Value) (d:Q3 o h)
  (N:ZH o h wb i nb a n) (W:ZE o h wb Z4 Yy fl bad told) (iv:UZ o h w l.vs) (Yk:fl.length≤1000000000000) (lX:n.own.l.length≤1000000) (lD:n.data.length≤1000000) (tb:DT o h) :
  Zc Tryz.prog T 93 #[Zn wb,Zn nb,.agg (YP l w).toArray] h fun v' h'=>∃o' a' Xl,Kp (fun t=>t=.world∨t=.Zl∨t=.node i) o h o' h'∧ZH o' h' wb i nb a' (YO n l).n∧ZE o' h' wb Z4 Xl (fl++(YO n l).ls) bad told:=by
 obtain⟨pw,cw,rfl⟩:=iv.isSlice
 refine Zc.Zh (args:=[_,_,_]) Tryz.func93 rfl rfl rfl rfl ?_
 unfold Zn YP
 simp -implicitDefEqProofs only[go_sem,↓reduceIte]
 obtain⟨h1,Yv⟩:=Zy (((h.push (.cells [Zn wb].toArray 91)).push (.cells [Zn nb].toArray 98)).push (.cells (YP l (.slice pw l.vs.length cw)).toArray 148):Hp)
 have k1:Kp Qe o h o h1:=by rw[Yv];exact ((Kp.refl d _).push _ |>.push _).push _
 have s1:h1.size=h.size+3:=by rw[Yv];simp
 have d1:∀b,h.size≤b→o b=none:=d
 have x3:ZK o h1 h.size (.cells [Zn wb].toArray 91):=⟨d _ (by omega),by rw[Yv,Zq (by simp;omega),fI]⟩
 have x4:ZK o h1 (h.size+1) (.cells [Zn nb].toArray 98):=⟨d _ (by omega),by rw[Yv,Zq (by simp),hQ]⟩
 have x5:ZK o h1 (h.size+2) (.cells (YP l (.slice pw l.vs.length cw)).toArray 148):=⟨d _ (by omega),by
  have:=Zb (h:=(h.push (.cells [Zn wb].toArray 91)).push (.cells [Zn nb].toArray 98)) (o:=.cells (YP l (.slice pw l.vs.length cw)).toArray 148)
  rw[Yv];simpa using this⟩
 have e0:((h.push (.cells [Zn wb].toArray 91)).push (.cells [Zn nb].toArray 98)).push (.cells (YP l (.slice pw l.vs.length cw)).toArray 148)=h1:=Yv.symm
 unfold Zn YP at e0
 rw[e0]
 clear e0 Yv
 have N1:=N.still k1
 have W1:=W.still k1
 have sc:=iv.Zd k1
 have R1:=Zx N1.ZD.2 N1.pt.store.len
 have Jv:=Za N1.ZD.2
 have l3:=Za x3.2
 have l4:=Za x4.2
 have l5:=Za x5.2
 have r3:hc h1 ⟨h.size,0,none⟩=some (Zn wb):=Zg x3.2
 have r4:hc h1 ⟨h.size+1,0,none⟩=some (Zn nb):=Zg x4.2
 have r53:rd h1 ⟨h.size+2,3,none⟩ 2=some [.int .i64 l.b.r,.int .i64 l.b.n]:=by rw[Z3 x5.2 (by simp[YP])];rfl
 have r51:hc h1 ⟨h.size+2,1,none⟩=some (.int .i64 l.Jj):=Zg x5.2
 unfold Zn at r3 r4
 have L9:=R1.own
 obtain⟨pv,cv,hU⟩:=N1.pt.YD.isSlice
 rw[hU]at L9
 have call:∀G,Zf h1.size h1 G→Zc Tryz.prog T 103 #[.agg #[.int .i64 n.own.p.r,.int .i64 n.own.p.n,.slice pv n.own.l.length cv],.agg #[.int .i64 l.b.r,.int .i64 l.b.n]] G fun v' h'=>Eb G.size h' v' n.own.p n.own.l l.b∧Zf G.size G h':=fun G hG=>
  VJ T G n.own.p _ n.own.l l.b (by rw[←hU];exact N1.pt.YD.ts.Z7 hG) (by omega)
 obtain⟨E,hE⟩:=Zy (Yu n.own.p n.own.l l.b)
 have wA:∀(G:Hp) (k:Nat) (r m:Int) (p:Option Addr) (L c:Nat),G[k]? = some (.cells [.int .i64 0,.int .i64 0,.slice none 0 0].toArray 105)→wr G ⟨k,0,none⟩ [.int .i64 r,.int .i64 m,.slice p L c]=some (G.setIfInBounds k (.cells [.int .i64 r,.int .i64 m,.slice p L c].toArray 105)):=fun G k r m p L c hx=>by
  rw[ZP hx 0 _];rfl
 have wB:∀(G:Hp) (k:Nat) (p:Option Addr) (L c:Nat),G[k]? = some (.cells [.slice none 0 0].toArray 103)→Jg G ⟨k,0,none⟩ (.slice p L c)=some (G.setIfInBounds k (.cells [.slice p L c].toArray 103)):=fun G k p L c hx=>by
  rw[Yp hx 0 _];rfl
 refine VS.mono (N:=fun F' g'=>Zf h1.size h1 g'∧F' 3=.pointer (some ⟨h.size,0,none⟩)∧F' 4=.pointer (some ⟨h.size+1,0,none⟩)∧F' 5=.pointer (some ⟨h.size+2,0,none⟩)∧F' 8=.int .i64 E∧bu h1.size g' (F' 6) (F' 7) n.own.p n.own.l l.b) ?_ ?_ (fun _ _ _ h=>h) (fun _ _ h=>h)
 ·refine VS.z (h1.size) [6,13,14] (.q 0 (.p 1 (.p 2 (.q 3 (.p 4 (.q 5 (.or 6 (.p 7 (.p 8 (.p 9 (.p 10 (.or 11 (.s 12 (.w 13 (.w 14 (.p 15 .nil)))) (.s 12 (.s 11 (.w 13 (.w 14 (.p 15 .nil)))))))))) (.or 11 (.or 6 (.p 7 (.p 8 (.p 9 (.p 10 (.s 12 (.w 13 (.w 14 (.p 15 .nil)))))))) (.s 12 (.w 6 (.p 7 (.p 8 (.p 9 (.p 10 (.w 13 (.w 14 (.p 15 .nil)))))))))) (.s 12 (.or 6 (.p 7 (.p 8 (.p 9 (.p 10 (.s 11 (.w 13 (.w 14 (.p 15 .nil)))))))) (.s 11 (.w 6 (.p 7 (.p 8 (.p 9 (.p 10 (.w 13 (.w 14 (.p 15 .nil))))))))))))))))))) mixed (by kernel_rfl) ?_
  simp -implicitDefEqProofs only[go_sem,↓reduceIte,r4,L9,r53,Jv,l4,l5]
  unfold bu Zn YB
  repeat' (first|with_reducible exact Zf.refl _ _|with_reducible exact Zf.push (by omega) _|with_reducible refine And.intro ?_ ?_)
  all_goals first
   | (refine (call h1 (Zf.refl _ _)).use ?_
      rintro _ g5 ⟨⟨w1,w2,rfl,o1,o2⟩,b5⟩
      obtain⟨p1,c1,rfl,_⟩:=o1.open
      obtain⟨p2,c2,rfl,_⟩:=o2.open
      rw[←hE]at *
      have s5:=b5.size
      unfold YB
      simp -implicitDefEqProofs only[go_sem,↓reduceIte,b5]
      refine⟨⟨_,_,_,_,rfl,rfl,s5,by omega,fI _ _ _,hQ _ _ _,(o1.push _).push _,(o2.push _).push _⟩,⟨_,_,_,_,rfl,rfl,by omega,s5,hQ _ _ _,fI _ _ _,(o1.push _).push _,(o2.push _).push _⟩⟩)
   | (refine (call (h1.push (.cells _ 105)) (Zf.push (Nat.le_refl _) _)).use ?_
      rintro _ g5 ⟨⟨w1,w2,rfl,o1,o2⟩,b5⟩
      obtain⟨p1,c1,rfl,_⟩:=o1.open
      obtain⟨p2,c2,rfl,_⟩:=o2.open
      rw[←hE]at *
      have s5:=b5.size
      rw[Array.size_push]at s5
      have B5:Zf h1.size h1 g5:=(Zf.push (Nat.le_refl _) _).trans (b5.mono (by simp))
      have xA:=b5.get (k:=h1.size) (by simp) Zb
      have V3:=wA _ _ (if E=0 then l.b else ⟨0,0⟩).r (if E=0 then l.b else ⟨0,0⟩).n p1 (if E=0 then n.own.l else []).length c1 xA
      have zA:=Za xA
      unfold YB
      simp -implicitDefEqProofs only[go_sem,↓reduceIte,B5,V3,zA]
      exact⟨_,_,_,_,rfl,rfl,Nat.le_refl _,by omega,by rw[Zq (by simpa using zA)];exact Zt xA,gs2 _ _ _ _,((o1.ZR (by simp) _).push _).mono (by simp),((o2.ZR (by simp) _).push _).mono (by simp)⟩)
   | (refine (call (h1.push (.cells _ 103)) (Zf.push (Nat.le_refl _) _)).use ?_
      rintro _ g5 ⟨⟨w1,w2,rfl,o1,o2⟩,b5⟩
      obtain⟨p1,c1,rfl,_⟩:=o1.open
      obtain⟨p2,c2,rfl,_⟩:=o2.open
      rw[←hE]at *
      have s5:=b5.size
      rw[Array.size_push]at s5
      have B5:Zf h1.size h1 g5:=(Zf.push (Nat.le_refl _) _).trans (b5.mono (by simp))
      have xB:=b5.get (k:=h1.size) (by simp) Zb
      have L6:=wB _ _ p2 (if E=0 then n.own.l else []).length c2 xB
      have zB:=Za xB
      unfold YB
      simp -implicitDefEqProofs only[go_sem,↓reduceIte,B5,L6,zB]
      exact⟨_,_,_,_,rfl,rfl,by omega,Nat.le_refl _,gs2 _ _ _ _,by rw[Zq (by simpa using zB)];exact Zt xB,((o1.ZR (by simp) _).push _).mono (by simp),((o2.ZR (by simp) _).push _).mono (by simp)⟩)
   | (refine (call ((h1.push (.cells _ 105)).push (.cells _ 103)) ((Zf.push (Nat.le_refl _) _).Yf (by simp) _)).use ?_
      rintro _ g5 ⟨⟨w1,w2,rfl,o1,o2⟩,b5⟩
      obtain⟨p1,c1,rfl,_⟩:=o1.open
      obtain⟨p2,c2,rfl,_⟩:=o2.open
      rw[←hE]at *
      have s5:=b5.size
      rw[Array.size_push,Array.size_push]at s5
      have B5:Zf h1.size h1 g5:=((Zf.push (Nat.le_refl _) _).Yf (by simp) _).trans (b5.mono (by simp;omega))
      have xA:=b5.get (k:=h1.size) (by simp;omega) (fI _ _ _)
      have xB:=b5.get (k:=h1.size+1) (by simp) (hQ _ _ _)
      have V3:=wA _ _ (if E=0 then l.b else ⟨0,0⟩).r (if E=0 then l.b else ⟨0,0⟩).n p1 (if E=0 then n.own.l else []).length c1 xA
      have zA:=Za xA
      have OF:=fun o:Obj=>(Yg (o:=o) (show h1.size≠h1.size+1 by omega)).trans xB
      have L6:=fun o:Obj=>wB _ _ p2 (if E=0 then n.own.l else []).length c2 (OF o)
      have zB:h1.size+1<g5.size:=Za xB
      unfold YB
      simp -implicitDefEqProofs only[go_sem,↓reduceIte,B5,V3,zA,L6,zB]
      exact⟨_,_,_,_,rfl,rfl,by omega,by omega,(Yg (by omega)).trans (Zt xA),Zt (OF _),((o1.ZR (by simp;omega) _).ZR (by simp) _).mono (by simp;omega),((o2.ZR (by simp;omega) _).ZR (by simp) _).mono (by simp;omega)⟩)
   | (refine (call ((h1.push (.cells _ 103)).push (.cells _ 105)) ((Zf.push (Nat.le_refl _) _).Yf (by simp) _)).use ?_
      rintro _ g5 ⟨⟨w1,w2,rfl,o1,o2⟩,b5⟩
      obtain⟨p1,c1,rfl,_⟩:=o1.open
      obtain⟨p2,c2,rfl,_⟩:=o2.open
      rw[←hE]at *
      have s5:=b5.size
      rw[Array.size_push,Array.size_push]at s5
      have B5:Zf h1.size h1 g5:=((Zf.push (Nat.le_refl _) _).Yf (by simp) _).trans (b5.mono (by simp;omega))
      have xB:=b5.get (k:=h1.size) (by simp;omega) (fI _ _ _)
      have xA:=b5.get (k:=h1.size+1) (by simp) (hQ _ _ _)
      have V3:=wA _ _ (if E=0 then l.b else ⟨0,0⟩).r (if E=0 then l.b else ⟨0,0⟩).n p1 (if E=0 then n.own.l else []).length c1 xA
      have zA:=Za xA
      have OF:=fun o:Obj=>(Yg (o:=o) (show h1.size+1≠h1.size by omega)).trans xB
      have L6:=fun o:Obj=>wB _ _ p2 (if E=0 then n.own.l else []).length c2 (OF o)
      have zB:h1.size<g5.size:=Za xB
      unfold YB
      simp -implicitDefEqProofs only[go_sem,↓reduceIte,B5,V3,zA,L6,zB]
      exact⟨_,_,_,_,rfl,rfl,by omega,by omega,(Yg (by omega)).trans (Zt xA),Zt (OF _),((o1.ZR (by simp) _).ZR (by simp;omega) _).mono (by simp;omega),((o2.ZR (by simp) _).ZR (by simp;omega) _).mono (by simp;omega)⟩)
 ·rintro F1 g1 ⟨b1,f3,f4,f5,f8,ka,kc,w1,w2,fA,fC,ge1,ge2,yA,yC,o1,o2⟩
  rw[←hE]at yA o1 o2
  have kb:=ZB k1.ZU b1
  have N2:=N1.still kb
  have W2:=W1.still kb
  have K2:Kp Qe o h o g1:=k1.Z7 b1
  have y3:=x3.Zd kb
  have y4:=x4.Zd kb
  have y5:=x5.Zd kb
  have gY:=sc.Zd kb
  have CY:=(tb.Zd k1).Zd kb
  have R2:=Zx N2.ZD.2 N2.pt.store.len
  have m3:=Za y3.2
  have m4:=Za y4.2
  have m5:=Za y5.2
  have JA:=Za N2.ZD.2
  have q3:hc g1 ⟨h.size,0,none⟩=some (Zn wb):=Zg y3.2
  have q4:hc g1 ⟨h.size+1,0,none⟩=some (Zn nb):=Zg y4.2
  have bz:rd g1 ⟨h.size+2,3,none⟩ 2=some [.int .i64 l.b.r,.int .i64 l.b.n]:=by rw[Z3 y5.2 (by simp[YP])];rfl
  have q51:hc g1 ⟨h.size+2,1,none⟩=some (.int .i64 l.Jj):=Zg y5.2
  unfold Zn at q3 q4
  have R2p:=R2.EY
  by_cases e:E=0
  case neg=>
   have eP:YO n l=⟨n,[⟨7,n.me,l.Jj,n.own.p,Tm,[]⟩],[]⟩:=by unfold YO;rw[←hE,if_pos e]
   rw[eP]
   simp -implicitDefEqProofs only[go_sem,↓reduceIte,f8,e]
   refine VS.z (g1.size) [10] (.q 0 (.q 1 (.p 2 (.q 3 (.q 4 (.p 5 (.p 6 (.p 7 (.q 8 (.p 9 (.w 10 .nil))))))))))) mixed (by kernel_rfl) ?_
   simp -implicitDefEqProofs only[go_sem,↓reduceIte,f3,f4,f5,q3,q4,q51,R2p,m3,m4,m5,JA]
   refine (Uv T g1 o wb nb Z4 n.me Yy fl bad told l.Jj ⟨7,0,0,n.own.p,Tm,[]⟩ (.slice none 0 0) K2.ZU W2 R2.me JA (Im.nil _ _ _ _) Yk).use ?_
   rintro v' h' ⟨o',Xl,k,_,W'⟩
   simp -implicitDefEqProofs only[go_sem,↓reduceIte]
   exact⟨o',a,Xl,(ZC K2).trans (k.mono fun t q=>q.elim .inl fun q=>.inr (.inl q)),N2.Zd k (by rintro t (rfl|rfl)<;>simp[Tg.of]),W'⟩
  rw[if_pos e]at yA o1 o2
  have iv7:UZ o g1 w2 n.own.l:=Im.QK o2.own (fun b hb=>k1.ZU b hb)
  have iv6:UZ o g1 w1 n.own.l:=Im.QK o1.own (fun b hb=>k1.ZU b hb)
  unfold Zn at fA fC
  simp -implicitDefEqProofs only[go_sem,↓reduceIte,f8,e,f3,f4,f5,fC]
  obtain⟨g2,Qt⟩:=Zy (g1.push (.cells [U6 110 [h.size,h.size+1,h.size+2,kc]].toArray 1):Hp)
  have k2:=ZW K2.ZU (.cells [U6 110 [h.size,h.size+1,h.size+2,kc]].toArray 1)
  rw[←Qt]at k2
  have K3:Kp Qe o h o g2:=K2.trans k2
  have x9:ZK o g2 g1.size (.cells [U6 110 [h.size,h.size+1,h.size+2,kc]].toArray 1):=⟨K2.ZU _ (Nat.le_refl _),by rw[Qt];exact Zb⟩
  have e2:g1.push (.cells [U6 110 [h.size,h.size+1,h.size+2,kc]].toArray 1)=g2:=Qt.symm
  unfold U6 at e2
  simp only[List.map]at e2
  unfold Zn at e2
  rw[e2]
  clear e2 Qt
  have N3:=N2.still k2
  have W3:=W2.still k2
  have z3:=y3.Zd k2
  have z4:=y4.Zd k2
  have z5:=y5.Zd k2
  have z6:=(show ZK o g1 ka _ from⟨k1.ZU ka ge1,yA⟩).Zd k2
  have z7:=(show ZK o g1 kc _ from⟨k1.ZU kc ge2,yC⟩).Zd k2
  have iw7:=iv7.Zd k2
  have iw6:=iv6.Zd k2
  have tb3:=CY.Zd k2
  clear R2 R2p m3 m4 m5 JA q3 q4 bz q51 R1 L9 Jv l3 l4 l5 r3 r4 r53 r51
  have R3:=Zx N3.ZD.2 N3.pt.store.len
  have m3:=Za z3.2
  have m4:=Za z4.2
  have m5:=Za z5.2
  have m9:=Za x9.2
  have Rl:=Za N3.ZD.2
  have q4:hc g2 ⟨h.size+1,0,none⟩=some (Zn nb):=Zg z4.2
  have bz:rd g2 ⟨h.size+2,3,none⟩ 2=some (X1 l.b):=by rw[Z3 z5.2 (by simp[YP])];rfl
  have q9:hc g2 ⟨g1.size,0,none⟩=some (U6 110 [h.size,h.size+1,h.size+2,kc]):=Zg x9.2
  have R3p:rd g2 ⟨nb,4,none⟩ 2=some (X1 n.own.p):=R3.EY
  unfold Zn at q4
  refine VS.q mixed (by kernel_rfl) ?_
  simp -implicitDefEqProofs only[go_sem,↓reduceIte,f4,f5,q4,bz,R3p]
  by_cases ep:n.own.p=l.b
  ·have eP:YO n l=⟨n,[⟨1,n.me,l.Jj,l.b,Tm,n.own.l⟩],[]⟩:=by unfold YO;rw[←hE,if_neg (by omega),if_pos ep]
   rw[eP]
   unfold U6 at q9
   simp only[List.map]at q9
   unfold Zn at q9
   simp -implicitDefEqProofs only[go_sem,↓reduceIte,ep,q9]
   refine (bm T g2 o wb nb Z4 n.me Yy fl bad told h.size (h.size+1) (h.size+2) kc l _ w2 n.own.l K3.ZU W3 R3.me Rl Yk z3 z4 z5 z7 iw7).use ?_
   rintro v' h' ⟨o',Xl,k,W'⟩
   simp -implicitDefEqProofs only[go_sem,↓reduceIte]
   exact⟨o',a,Xl,(ZC K3).trans (k.mono fun t q=>q.elim .inl fun q=>.inr (.inl q)),N3.Zd k (by rintro t (rfl|rfl)<;>simp[Tg.of]),W'⟩
  simp -implicitDefEqProofs only[go_sem,↓reduceIte,ep]
  have mM:=R3.tape
  obtain⟨pd,cd,PZ⟩:=N3.pt.data.1.isSlice
  rw[PZ]at mM
  obtain⟨E2,fJ⟩:=Zy (Qn n.data n.Xq l.b)
  have call2:∀G,Zf g2.size g2 G→Zc Tryz.prog T 111 #[.agg #[.slice pd n.data.length cd,.int .i64 n.Xq],.agg #[.int .i64 l.b.r,.int .i64 l.b.n]] G fun v' h'=>VM G.size h' v' n.data n.Xq E2 (Y0 (Qo l.b))∧Zf G.size G h':=fun G hG=>by
   rw[fJ]
   exact Nr T G _ n.Xq n.data l.b (by rw[←PZ];exact N3.pt.data.bs.Z7 hG) (by omega) (tb3.tk.X9 hG)
  have wT:∀(G:Hp) (k:Nat) (m:Int) (p:Option Addr) (L c:Nat),G[k]? = some (.cells [.slice none 0 0,.int .i64 0].toArray 100)→wr G ⟨k,0,none⟩ [.slice p L c,.int .i64 m]=some (G.setIfInBounds k (.cells [.slice p L c,.int .i64 m].toArray 100)):=fun G k m p L c hx=>by
   rw[ZP hx 0 _];rfl
  unfold X1 at bz
  refine VS.mono (N:=fun F' g'=>Zf g2.size g2 g'∧F' 3=.pointer (some ⟨h.size,0,none⟩)∧F' 4=.pointer (some ⟨h.size+1,0,none⟩)∧F' 5=.pointer (some ⟨h.size+2,0,none⟩)∧F' 6=.pointer (some ⟨ka,0,none⟩)∧F' 9=.pointer (some ⟨g1.size,0,none⟩)∧F' 8=.int .i64 E2∧Ha g2.size g' (F' 10) n.data n.Xq E2 (Y0 (Qo l.b))) ?_ ?_ (fun _ _ _ h=>h) (fun _ _ h=>h)
  ·refine VS.z (g2.size) [6,11] (.q 0 (.p 1 (.p 2 (.q 3 (.p 4 (.q 5 (.or 6 (.p 7 (.p 8 (.p 9 (.s 10 (.w 11 (.p 12 .nil)))))) (.s 10 (.w 6 (.p 7 (.p 8 (.p 9 (.w 11 (.p 12 .nil)))))))))))))) mixed (by kernel_rfl) ?_
   simp -implicitDefEqProofs only[go_sem,↓reduceIte,f3,f4,f5,fA,q4,mM,bz,m4,m5,Rl]
   unfold Ha
   repeat' (first|with_reducible exact Zf.refl _ _|with_reducible exact Zf.push (by omega) _|with_reducible refine And.intro ?_ ?_)
   all_goals first
    | (refine (call2 g2 (Zf.refl _ _)).use ?_
       rintro _ g5 ⟨⟨w,rfl,o1⟩,b5⟩
       obtain⟨p1,c1,rfl,_⟩:=o1.bs.open
       have s5:=b5.size
       simp -implicitDefEqProofs only[go_sem,↓reduceIte,b5]
       exact⟨f3,f4,f5,fA,_,_,rfl,s5,Zb,o1.push _⟩)
    | (refine (call2 (g2.push (.cells _ 100)) (Zf.push (Nat.le_refl _) _)).use ?_
       rintro _ g5 ⟨⟨w,rfl,o1⟩,b5⟩
       obtain⟨p1,c1,rfl,_⟩:=o1.bs.open
       have B5:Zf g2.size g2 g5:=(Zf.push (Nat.le_refl _) _).trans (b5.mono (by simp))
       have xA:=b5.get (k:=g2.size) (by simp) Zb
       have V3:=wT _ _ (if E2=0 then n.Xq else 0) p1 (if E2=0 then n.data++Y0 (Qo l.b) else []).length c1 xA
       have zA:=Za xA
       simp -implicitDefEqProofs only[go_sem,↓reduceIte,B5,V3,zA]
       exact⟨f3,f4,f5,fA,_,_,rfl,Nat.le_refl _,Zt xA,(o1.ZR (by simp) _).mono (by simp)⟩)
  ·rintro F2 g3 ⟨b3,f3,f4,f5,f6,f9,f8,kt,wt,fT,ge3,yT,oT⟩
   have U0:=ZB K3.ZU b3
   have N4:=N3.still U0
   have W4:=W3.still U0
   have K4:Kp Qe o h o g3:=K3.Z7 b3
   by_cases e2:E2=0
   case neg=>
    have eP:YO n l=⟨n,[],[]⟩:=by unfold YO;rw[←hE,if_neg (by omega),if_neg ep,←fJ,if_pos e2]
    rw[eP,List.append_nil]
    simp -implicitDefEqProofs only[go_sem,↓reduceIte,f8,e2]
    exact⟨o,a,Yy,ZC K4,N4,W4⟩
   rw[if_pos e2]at yT oT
   have u3:=z3.Zd U0
   have u4:=z4.Zd U0
   have u5:=z5.Zd U0
   have u6:=z6.Zd U0
   have u7:=z7.Zd U0
   have u9:=x9.Zd U0
   have iu6:=iw6.Zd U0
   have iu7:=iw7.Zd U0
   have iT:VT o g3 wt (n.data++Y0 (Qo l.b)):=⟨Im.QK oT.own (fun b hb=>K3.ZU b hb),oT.byte⟩
   have eP:YO n l=⟨{ n with data:=n.data++Y0 (Qo l.b),ZQ:=some (.Ig ⟨l.b,n.own.l⟩ l.Jj l.b n.own.l) },[],[]⟩:=by unfold YO;rw[←hE,if_neg (by omega),if_neg ep,←fJ,if_neg (by omega)]
   rw[eP,List.append_nil]
   clear R3 m3 m4 m5 m9 Rl q4 bz q9 R3p mM
   obtain⟨pt,ct,rfl,_⟩:=oT.bs.open
   have q4:hc g3 ⟨h.size+1,0,none⟩=some (Zn nb):=Zg u4.2
   have qT:rd g3 ⟨kt,0,none⟩ 2=some [.slice pt (n.data++Y0 (Qo l.b)).length ct,.int .i64 n.Xq]:=Zo yT rfl
   have NX:=Za N4.ZD.2
   obtain⟨g4,w4,N5,k5⟩:=ZT.write (a:={ a with data:=.slice pt (n.data++Y0 (Qo l.b)).length ct }) (n:={ n with data:=n.data++Y0 (Qo l.b) }) { N4.pt with data:=iT } K4.ZU N4.ZD ((YI N4.ZD.2 N4.pt.store.len).tape (.slice pt (n.data++Y0 (Qo l.b)).length ct) n.Xq rfl)
   have v4:=u4.Zd k5
   have q4':hc g4 ⟨h.size+1,0,none⟩=some (Zn nb):=Zg v4.2
   have Rm:=Za N5.ZD.2
   have pn:Q2 o g4 wb i nb a.Zi (U6 112 [ka,h.size+1,g1.size]) (some (.Ig ⟨l.b,n.own.l⟩ l.Jj l.b n.own.l)):=
    ⟨ka,h.size+1,g1.size,_,rfl,⟨_,u6.Zd k5,iu6.Zd k5⟩,v4,u9.Zd k5,h.size,h.size+1,h.size+2,kc,l,_,w2,rfl,u3.Zd k5,v4,u5.Zd k5,rfl,rfl,u7.Zd k5,iu7.Zd k5⟩
   obtain⟨g6,w6,N6,k6⟩:=ZT.write (a:={ a with data:=.slice pt (n.data++Y0 (Qo l.b)).length ct,ZQ:=U6 112 [ka,h.size+1,g1.size] }) (n:={ n with data:=n.data++Y0 (Qo l.b),ZQ:=some (.Ig ⟨l.b,n.own.l⟩ l.Jj l.b n.own.l) }) { N5.pt with ZQ:=pn } k5.ZU N5.ZD ((YI N5.ZD.2 N5.pt.store.len).ZQ (U6 112 [ka,h.size+1,g1.size]) rfl)
   unfold U6 at w6
   simp only[List.map]at w6
   unfold Zn at q4 q4' w6
   simp -implicitDefEqProofs only[go_sem,↓reduceIte,f8,e2,f4,f6,f9,fT,q4,qT,w4,NX,q4',w6,Rm]
   have K6:Kp (fun t=>t=.world∨t=.Zl∨t=.node i) o h o g6:=((ZC K4).trans (k5.mono fun t q=>.inr (.inr q))).trans (k6.mono fun t q=>.inr (.inr q))
   exact⟨o,_,Yy,K6,N6,(W4.Zd k5 (by rintro t rfl;simp[Tg.of])).Zd k6 (by rintro t rfl;simp[Tg.of])⟩
def vm (B:Nat) (g':Hp) (A:Value) (p:XL) (l:List Vt) (x:Vt):Prop:=
 ∃ka w,A=.pointer (some ⟨ka,0,none⟩)∧B≤ka∧g'[ka]? = some (.cells (YB (if YT p l x=0 then x.b else ⟨0,0⟩) w).toArray 105)∧X7 B 146 Zm 8 g' w (if YT p l x=0 then Qv l x else [])
set_option maxHeartbeats 1000000 in
theorem mN (T:World) (h:Hp) (o:Ow) (wb i nb:Nat) (Z4:Nat→Nat) (a:NA) (n:Nd) (Yy:WA) (fl:List YY) (bad:Nat→Int) (told:List TS) (l:YY) (w:Value) (d:Q3 o h)
  (N:ZH o h wb i nb a n) (W:ZE o h wb Z4 Yy fl bad told) (iv:UZ o h w l.vs) (Yk:fl.length≤1000000000000) (lX:n.own.l.length≤1000000) (lD:n.data.length≤1000000) (tb:DT o h) :
  Zc Tryz.prog T 95 #[Zn wb,Zn nb,.agg (YP l w).toArray] h fun v' h'=>∃o' a' Xl,Kp (fun t=>t=.world∨t=.Zl∨t=.node i) o h o' h'∧ZH o' h' wb i nb a' (asked n l).n∧ZE o' h' wb Z4 Xl (fl++(asked n l).ls) bad told:=by
 obtain⟨pw,cw,rfl⟩:=iv.isSlice
 refine Zc.Zh (args:=[_,_,_]) Tryz.func95 rfl rfl rfl rfl ?_
 unfold Zn YP
 simp -implicitDefEqProofs only[go_sem,↓reduceIte]
 obtain⟨h1,Yv⟩:=Zy (((h.push (.cells [Zn wb].toArray 91)).push (.cells [Zn nb].toArray 98)).push (.cells (YP l (.slice pw l.vs.length cw)).toArray 148):Hp)
 have k1:Kp Qe o h o h1:=by rw[Yv];exact ((Kp.refl d _).push _ |>.push _).push _
 have s1:h1.size=h.size+3:=by rw[Yv];simp
 have d1:∀b,h.size≤b→o b=none:=d
 have x3:ZK o h1 h.size (.cells [Zn wb].toArray 91):=⟨d _ (by omega),by rw[Yv,Zq (by simp;omega),fI]⟩
 have x4:ZK o h1 (h.size+1) (.cells [Zn nb].toArray 98):=⟨d _ (by omega),by rw[Yv,Zq (by simp),hQ]⟩
 have x5:ZK o h1 (h.size+2) (.cells (YP l (.slice pw l.vs.length cw)).toArray 148):=⟨d _ (by omega),by
  have:=Zb (h:=(h.push (.cells [Zn wb].toArray 91)).push (.cells [Zn nb].toArray 98)) (o:=.cells (YP l (.slice pw l.vs.length cw)).toArray 148)
  rw[Yv];simpa using this⟩
 have e0:((h.push (.cells [Zn wb].toArray 91)).push (.cells [Zn nb].toArray 98)).push (.cells (YP l (.slice pw l.vs.length cw)).toArray 148)=h1:=Yv.symm
 unfold Zn YP at e0
 rw[e0]
 clear e0 Yv
 have N1:=N.still k1
 have W1:=W.still k1
 have sc:=iv.Zd k1
 have R1:=Zx N1.ZD.2 N1.pt.store.len
 have Jv:=Za N1.ZD.2
 have l3:=Za x3.2
 have l4:=Za x4.2
 have l5:=Za x5.2
 have r3:hc h1 ⟨h.size,0,none⟩=some (Zn wb):=Zg x3.2
 have r4:hc h1 ⟨h.size+1,0,none⟩=some (Zn nb):=Zg x4.2
 have r53:rd h1 ⟨h.size+2,5,none⟩ 8=some (Zm l.v):=by rw[Z3 x5.2 (by simp[YP])];rfl
 have r51:hc h1 ⟨h.size+2,1,none⟩=some (.int .i64 l.Jj):=Zg x5.2
 unfold Zn at r3 r4
 have L9:=R1.own
 obtain⟨pv,cv,hU⟩:=N1.pt.YD.isSlice
 rw[hU]at L9
 unfold Zm at r53
 have call:∀G,Zf h1.size h1 G→Zc Tryz.prog T 105 #[.agg #[.int .i64 n.own.p.r,.int .i64 n.own.p.n,.slice pv n.own.l.length cv],.agg (Zm l.v).toArray] G fun v' h'=>aR G.size h' v' n.own.p n.own.l l.v∧Zf G.size G h':=fun G hG=>
  OC T G n.own.p _ n.own.l l.v (by rw[←hU];exact N1.pt.YD.ts.Z7 hG) (by omega)
 unfold Zm at call
 obtain⟨E,hE⟩:=Zy (YT n.own.p n.own.l l.v)
 have wA:∀(G:Hp) (k:Nat) (r m:Int) (p:Option Addr) (L c:Nat),G[k]? = some (.cells [.int .i64 0,.int .i64 0,.slice none 0 0].toArray 105)→wr G ⟨k,0,none⟩ [.int .i64 r,.int .i64 m,.slice p L c]=some (G.setIfInBounds k (.cells [.int .i64 r,.int .i64 m,.slice p L c].toArray 105)):=fun G k r m p L c hx=>by
  rw[ZP hx 0 _];rfl
 refine VS.mono (N:=fun F' g'=>Zf h1.size h1 g'∧F' 3=.pointer (some ⟨h.size,0,none⟩)∧F' 4=.pointer (some ⟨h.size+1,0,none⟩)∧F' 5=.pointer (some ⟨h.size+2,0,none⟩)∧F' 7=.int .i64 E∧vm h1.size g' (F' 6) n.own.p n.own.l l.v) ?_ ?_ (fun _ _ _ h=>h) (fun _ _ h=>h)
 ·refine VS.z (h1.size) [6,11] (.q 0 (.p 1 (.p 2 (.q 3 (.p 4 (.q 5 (.or 6 (.p 7 (.p 8 (.p 9 (.s 10 (.w 11 (.p 12 .nil)))))) (.s 10 (.w 6 (.p 7 (.p 8 (.p 9 (.w 11 (.p 12 .nil)))))))))))))) mixed (by kernel_rfl) ?_
  simp -implicitDefEqProofs only[go_sem,↓reduceIte,r4,L9,r53,Jv,l4,l5]
  unfold vm YB
  repeat' (first|with_reducible exact Zf.refl _ _|with_reducible exact Zf.push (by omega) _|with_reducible refine And.intro ?_ ?_)
  all_goals first
   | (refine (call h1 (Zf.refl _ _)).use ?_
      rintro _ g5 ⟨⟨w1,rfl,o1⟩,b5⟩
      obtain⟨p1,c1,rfl,_⟩:=o1.open
      rw[←hE]at *
      have s5:=b5.size
      unfold YB
      simp -implicitDefEqProofs only[go_sem,↓reduceIte,b5]
      exact⟨_,_,rfl,s5,Zb,o1.push _⟩)
   | (refine (call (h1.push (.cells _ 105)) (Zf.push (Nat.le_refl _) _)).use ?_
      rintro _ g5 ⟨⟨w1,rfl,o1⟩,b5⟩
      obtain⟨p1,c1,rfl,_⟩:=o1.open
      rw[←hE]at *
      have B5:Zf h1.size h1 g5:=(Zf.push (Nat.le_refl _) _).trans (b5.mono (by simp))
      have xA:=b5.get (k:=h1.size) (by simp) Zb
      have V3:=wA _ _ (if E=0 then l.v.b else ⟨0,0⟩).r (if E=0 then l.v.b else ⟨0,0⟩).n p1 (if E=0 then Qv n.own.l l.v else []).length c1 xA
      have zA:=Za xA
      unfold YB
      simp -implicitDefEqProofs only[go_sem,↓reduceIte,B5,V3,zA]
      exact⟨_,_,rfl,Nat.le_refl _,Zt xA,(o1.ZR (by simp) _).mono (by simp)⟩)
 ·rintro F1 g1 ⟨b1,f3,f4,f5,f8,ka,w1,fA,ge1,yA,o1⟩
  rw[←hE]at yA o1
  have kb:=ZB k1.ZU b1
  have N2:=N1.still kb
  have W2:=W1.still kb
  have K2:Kp Qe o h o g1:=k1.Z7 b1
  have y3:=x3.Zd kb
  have y4:=x4.Zd kb
  have y5:=x5.Zd kb
  have gY:=sc.Zd kb
  have CY:=(tb.Zd k1).Zd kb
  have R2:=Zx N2.ZD.2 N2.pt.store.len
  have m3:=Za y3.2
  have m4:=Za y4.2
  have m5:=Za y5.2
  have JA:=Za N2.ZD.2
  have q3:hc g1 ⟨h.size,0,none⟩=some (Zn wb):=Zg y3.2
  have q4:hc g1 ⟨h.size+1,0,none⟩=some (Zn nb):=Zg y4.2
  have q51:hc g1 ⟨h.size+2,1,none⟩=some (.int .i64 l.Jj):=Zg y5.2
  unfold Zn at q3 q4
  have R2p:=R2.EY
  by_cases e:E=0
  case neg=>
   have eP:asked n l=⟨n,[⟨7,n.me,l.Jj,n.own.p,Tm,[]⟩],[]⟩:=by unfold asked;rw[←hE,if_pos e]
   rw[eP]
   simp -implicitDefEqProofs only[go_sem,↓reduceIte,f8,e]
   refine VS.z (g1.size) [10] (.q 0 (.q 1 (.p 2 (.q 3 (.q 4 (.p 5 (.p 6 (.p 7 (.q 8 (.p 9 (.w 10 .nil))))))))))) mixed (by kernel_rfl) ?_
   simp -implicitDefEqProofs only[go_sem,↓reduceIte,f3,f4,f5,q3,q4,q51,R2p,m3,m4,m5,JA]
   refine (Uv T g1 o wb nb Z4 n.me Yy fl bad told l.Jj ⟨7,0,0,n.own.p,Tm,[]⟩ (.slice none 0 0) K2.ZU W2 R2.me JA (Im.nil _ _ _ _) Yk).use ?_
   rintro v' h' ⟨o',Xl,k,_,W'⟩
   simp -implicitDefEqProofs only[go_sem,↓reduceIte]
   exact⟨o',a,Xl,(ZC K2).trans (k.mono fun t q=>q.elim .inl fun q=>.inr (.inl q)),N2.Zd k (by rintro t (rfl|rfl)<;>simp[Tg.of]),W'⟩
  rw[if_pos e]at yA o1
  have iv6:UZ o g1 w1 (Qv n.own.l l.v):=Im.QK o1.own (fun b hb=>k1.ZU b hb)
  simp -implicitDefEqProofs only[go_sem,↓reduceIte,f8,e,f3,f4,f5]
  obtain⟨g2,Qt⟩:=Zy (g1.push (.cells [U6 115 [h.size,h.size+1,h.size+2]].toArray 1):Hp)
  have k2:=ZW K2.ZU (.cells [U6 115 [h.size,h.size+1,h.size+2]].toArray 1)
  rw[←Qt]at k2
  have K3:Kp Qe o h o g2:=K2.trans k2
  have x9:ZK o g2 g1.size (.cells [U6 115 [h.size,h.size+1,h.size+2]].toArray 1):=⟨K2.ZU _ (Nat.le_refl _),by rw[Qt];exact Zb⟩
  have e2:g1.push (.cells [U6 115 [h.size,h.size+1,h.size+2]].toArray 1)=g2:=Qt.symm
  unfold U6 at e2
  simp only[List.map]at e2
  unfold Zn at e2
  rw[e2]
  clear e2 Qt
  have N3:=N2.still k2
  have W3:=W2.still k2
  have z3:=y3.Zd k2
  have z4:=y4.Zd k2
  have z5:=y5.Zd k2
  have z6:=(show ZK o g1 ka _ from⟨k1.ZU ka ge1,yA⟩).Zd k2
  have iw6:=iv6.Zd k2
  have tb3:=CY.Zd k2
  clear R2 R2p m3 m4 m5 JA q3 q4 q51 R1 L9 Jv l3 l4 l5 r3 r4 r53 r51
  have R3:=Zx N3.ZD.2 N3.pt.store.len
  have m3:=Za z3.2
  have m4:=Za z4.2
  have m5:=Za z5.2
  have m9:=Za x9.2
  have Rl:=Za N3.ZD.2
  have q4:hc g2 ⟨h.size+1,0,none⟩=some (Zn nb):=Zg z4.2
  have bz:rd g2 ⟨h.size+2,5,none⟩ 8=some (Zm l.v):=by rw[Z3 z5.2 (by simp[YP])];rfl
  have q9:hc g2 ⟨g1.size,0,none⟩=some (U6 115 [h.size,h.size+1,h.size+2]):=Zg x9.2
  have R3v:=R3.YD
  have N3v:=N3.pt.YD
  unfold Zn at q4
  unfold Zm at bz
  refine VS.mono (N:=fun F' g'=>Zf g2.size g2 g'∧F' 3=.pointer (some ⟨h.size,0,none⟩)∧F' 4=.pointer (some ⟨h.size+1,0,none⟩)∧F' 5=.pointer (some ⟨h.size+2,0,none⟩)∧F' 6=.pointer (some ⟨ka,0,none⟩)∧F' 8=.pointer (some ⟨g1.size,0,none⟩)∧F' 41=.bool (decide (l.v∈n.own.l))) ?_ ?_ (fun _ _ _ h=>h) (fun _ _ h=>h)
  ·refine VS.z (g2.size) [7] (.q 0 (.p 1 (.p 2 (.p 3 (.q 4 (.p 5 (.q 6 (.w 7 .nil)))))))) mixed (by kernel_rfl) ?_
   simp -implicitDefEqProofs only[go_sem,↓reduceIte,f3,f4,f5,fA,q4,bz,R3v,m4,m5,Rl]
   have cv:=Ih T g2 a.YD n.own.l l.v N3v.ts (by omega)
   unfold Zm at cv
   refine cv.use ?_
   rintro _ g5 ⟨rfl,b5⟩
   simp -implicitDefEqProofs only[go_sem,↓reduceIte,b5,f3,f4,f5,fA]
  rintro F1' Af ⟨qo,f3,f4,f5,fA,f9,f41⟩
  have Sx:=ZB K3.ZU qo
  replace N3:=N3.still Sx
  replace W3:=W3.still Sx
  replace K3:=K3.trans Sx
  replace z3:=z3.Zd Sx
  replace z4:=z4.Zd Sx
  replace z5:=z5.Zd Sx
  replace z6:=z6.Zd Sx
  replace iw6:=iw6.Zd Sx
  replace tb3:=tb3.Zd Sx
  replace x9:=x9.Zd Sx
  clear R3 m3 m4 m5 m9 Rl q4 bz q9 R3v N3v
  have R3:=Zx N3.ZD.2 N3.pt.store.len
  have m3:=Za z3.2
  have m4:=Za z4.2
  have m5:=Za z5.2
  have m9:=Za x9.2
  have Rl:=Za N3.ZD.2
  have q4:hc Af ⟨h.size+1,0,none⟩=some (Zn nb):=Zg z4.2
  have bz:rd Af ⟨h.size+2,5,none⟩ 8=some (Zm l.v):=by rw[Z3 z5.2 (by simp[YP])];rfl
  have q9:hc Af ⟨g1.size,0,none⟩=some (U6 115 [h.size,h.size+1,h.size+2]):=Zg x9.2
  unfold Zn at q4
  by_cases ep:l.v∈n.own.l
  ·have eP:asked n l=⟨n,[⟨3,n.me,l.Jj,Jy,l.v,[]⟩],[]⟩:=by unfold asked;rw[←hE,if_neg (by omega),if_pos ep]
   rw[eP]
   unfold U6 at q9
   simp only[List.map]at q9
   unfold Zn at q9
   simp -implicitDefEqProofs only[go_sem,↓reduceIte,f41,ep,f9,q9]
   refine (bq T Af o wb nb Z4 n.me Yy fl bad told h.size (h.size+1) (h.size+2) l _ K3.ZU W3 R3.me Rl Yk z3 z4 z5).use ?_
   rintro v' h' ⟨o',Xl,k,W'⟩
   simp -implicitDefEqProofs only[go_sem,↓reduceIte]
   exact⟨o',a,Xl,(ZC K3).trans (k.mono fun t q=>q.elim .inl fun q=>.inr (.inl q)),N3.Zd k (by rintro t (rfl|rfl)<;>simp[Tg.of]),W'⟩
  simp -implicitDefEqProofs only[go_sem,↓reduceIte,f41,ep]
  have mM:=R3.tape
  obtain⟨pd,cd,PZ⟩:=N3.pt.data.1.isSlice
  rw[PZ]at mM
  obtain⟨E2,fJ⟩:=Zy (Uc n.data n.Xq l.v)
  have call2:∀G,Zf Af.size Af G→Zc Tryz.prog T 117 #[.agg #[.slice pd n.data.length cd,.int .i64 n.Xq],.agg (Zm l.v).toArray] G fun v' h'=>VM G.size h' v' n.data n.Xq E2 (Y0 (Sw l.v))∧Zf G.size G h':=fun G hG=>by
   rw[fJ]
   exact mf T G _ n.Xq n.data l.v (by rw[←PZ];exact N3.pt.data.bs.Z7 hG) (by omega) (tb3.tk.X9 hG)
  have wT:∀(G:Hp) (k:Nat) (m:Int) (p:Option Addr) (L c:Nat),G[k]? = some (.cells [.slice none 0 0,.int .i64 0].toArray 100)→wr G ⟨k,0,none⟩ [.slice p L c,.int .i64 m]=some (G.setIfInBounds k (.cells [.slice p L c,.int .i64 m].toArray 100)):=fun G k m p L c hx=>by
   rw[ZP hx 0 _];rfl
  unfold Zm at bz call2
  refine VS.mono (N:=fun F' g'=>Zf Af.size Af g'∧F' 3=.pointer (some ⟨h.size,0,none⟩)∧F' 4=.pointer (some ⟨h.size+1,0,none⟩)∧F' 5=.pointer (some ⟨h.size+2,0,none⟩)∧F' 6=.pointer (some ⟨ka,0,none⟩)∧F' 8=.pointer (some ⟨g1.size,0,none⟩)∧F' 7=.int .i64 E2∧Ha Af.size g' (F' 9) n.data n.Xq E2 (Y0 (Sw l.v))) ?_ ?_ (fun _ _ _ h=>h) (fun _ _ h=>h)
  ·refine VS.z (Af.size) [6,11] (.q 0 (.p 1 (.p 2 (.q 3 (.p 4 (.q 5 (.or 6 (.p 7 (.p 8 (.p 9 (.s 10 (.w 11 (.p 12 .nil)))))) (.s 10 (.w 6 (.p 7 (.p 8 (.p 9 (.w 11 (.p 12 .nil)))))))))))))) mixed (by kernel_rfl) ?_
   simp -implicitDefEqProofs only[go_sem,↓reduceIte,f3,f4,f5,fA,f9,q4,mM,bz,m4,m5,Rl]
   unfold Ha
   repeat' (first|with_reducible exact Zf.refl _ _|with_reducible exact Zf.push (by omega) _|with_reducible refine And.intro ?_ ?_)
   all_goals first
    | (refine (call2 Af (Zf.refl _ _)).use ?_
       rintro _ g5 ⟨⟨w,rfl,o1⟩,b5⟩
       obtain⟨p1,c1,rfl,_⟩:=o1.bs.open
       have s5:=b5.size
       simp -implicitDefEqProofs only[go_sem,↓reduceIte,b5]
       exact⟨f3,f4,f5,fA,f9,_,_,rfl,s5,Zb,o1.push _⟩)
    | (refine (call2 (Af.push (.cells _ 100)) (Zf.push (Nat.le_refl _) _)).use ?_
       rintro _ g5 ⟨⟨w,rfl,o1⟩,b5⟩
       obtain⟨p1,c1,rfl,_⟩:=o1.bs.open
       have B5:Zf Af.size Af g5:=(Zf.push (Nat.le_refl _) _).trans (b5.mono (by simp))
       have xA:=b5.get (k:=Af.size) (by simp) Zb
       have V3:=wT _ _ (if E2=0 then n.Xq else 0) p1 (if E2=0 then n.data++Y0 (Sw l.v) else []).length c1 xA
       have zA:=Za xA
       simp -implicitDefEqProofs only[go_sem,↓reduceIte,B5,V3,zA]
       exact⟨f3,f4,f5,fA,f9,_,_,rfl,Nat.le_refl _,Zt xA,(o1.ZR (by simp) _).mono (by simp)⟩)
  ·rintro F2 g3 ⟨b3,f3,f4,f5,f6,f9,f8,kt,wt,fT,ge3,yT,oT⟩
   have U0:=ZB K3.ZU b3
   have N4:=N3.still U0
   have W4:=W3.still U0
   have K4:Kp Qe o h o g3:=K3.Z7 b3
   by_cases e2:E2=0
   case neg=>
    have eP:asked n l=⟨n,[],[]⟩:=by unfold asked;rw[←hE,if_neg (by omega),if_neg ep,←fJ,if_pos e2]
    rw[eP,List.append_nil]
    simp -implicitDefEqProofs only[go_sem,↓reduceIte,f8,e2]
    exact⟨o,a,Yy,ZC K4,N4,W4⟩
   rw[if_pos e2]at yT oT
   have u3:=z3.Zd U0
   have u4:=z4.Zd U0
   have u5:=z5.Zd U0
   have u6:=z6.Zd U0
   have u9:=x9.Zd U0
   have iu6:=iw6.Zd U0
   have iT:VT o g3 wt (n.data++Y0 (Sw l.v)):=⟨Im.QK oT.own (fun b hb=>K3.ZU b hb),oT.byte⟩
   have eP:asked n l=⟨{ n with data:=n.data++Y0 (Sw l.v),ZQ:=some (.Kx ⟨l.v.b,Qv n.own.l l.v⟩ l.Jj l.v) },[],[]⟩:=by unfold asked;rw[←hE,if_neg (by omega),if_neg ep,←fJ,if_neg (by omega)]
   rw[eP,List.append_nil]
   clear R3 m3 m4 m5 m9 Rl q4 bz q9 mM
   obtain⟨pt,ct,rfl,_⟩:=oT.bs.open
   have q4:hc g3 ⟨h.size+1,0,none⟩=some (Zn nb):=Zg u4.2
   have qT:rd g3 ⟨kt,0,none⟩ 2=some [.slice pt (n.data++Y0 (Sw l.v)).length ct,.int .i64 n.Xq]:=Zo yT rfl
   have NX:=Za N4.ZD.2
   obtain⟨g4,w4,N5,k5⟩:=ZT.write (a:={ a with data:=.slice pt (n.data++Y0 (Sw l.v)).length ct }) (n:={ n with data:=n.data++Y0 (Sw l.v) }) { N4.pt with data:=iT } K4.ZU N4.ZD ((YI N4.ZD.2 N4.pt.store.len).tape (.slice pt (n.data++Y0 (Sw l.v)).length ct) n.Xq rfl)
   have v4:=u4.Zd k5
   have q4':hc g4 ⟨h.size+1,0,none⟩=some (Zn nb):=Zg v4.2
   have Rm:=Za N5.ZD.2
   have pn:Q2 o g4 wb i nb a.Zi (U6 118 [ka,h.size+1,g1.size]) (some (.Kx ⟨l.v.b,Qv n.own.l l.v⟩ l.Jj l.v)):=
    ⟨ka,h.size+1,g1.size,_,rfl,⟨_,u6.Zd k5,iu6.Zd k5⟩,v4,u9.Zd k5,h.size,h.size+1,h.size+2,l,_,rfl,u3.Zd k5,v4,u5.Zd k5,rfl,rfl⟩
   obtain⟨g6,w6,N6,k6⟩:=ZT.write (a:={ a with data:=.slice pt (n.data++Y0 (Sw l.v)).length ct,ZQ:=U6 118 [ka,h.size+1,g1.size] }) (n:={ n with data:=n.data++Y0 (Sw l.v),ZQ:=some (.Kx ⟨l.v.b,Qv n.own.l l.v⟩ l.Jj l.v) }) { N5.pt with ZQ:=pn } k5.ZU N5.ZD ((YI N5.ZD.2 N5.pt.store.len).ZQ (U6 118 [ka,h.size+1,g1.size]) rfl)
   unfold U6 at w6
   simp only[List.map]at w6
   unfold Zn at q4 q4' w6
   simp -implicitDefEqProofs only[go_sem,↓reduceIte,f8,e2,f4,f6,f9,fT,q4,qT,w4,NX,q4',w6,Rm]
   have K6:Kp (fun t=>t=.world∨t=.Zl∨t=.node i) o h o g6:=((ZC K4).trans (k5.mono fun t q=>.inr (.inr q))).trans (k6.mono fun t q=>.inr (.inr q))
   exact⟨o,_,Yy,K6,N6,(W4.Zd k5 (by rintro t rfl;simp[Tg.of])).Zd k6 (by rintro t rfl;simp[Tg.of])⟩
theorem QB.Y9 {o:Ow} {i:Nat} {h:Hp} {sv:List (Int × Nat)} {vt:List (Int × List (Int × Unit))} (s:QB o i h sv vt) (k:Int):(Go.V.Y9 sv k=none∧Go.V.Y9 vt k=none)∨∃b l,Go.V.Y9 sv k=some b∧Go.V.Y9 vt k=some l∧J6 o (.VR i k) h b (NW l):=by
 induction s with
 | nil=>exact .inl ⟨rfl,rfl⟩
 | @cons a b l m HJ _ ih=>
  obtain⟨a1,a2⟩:=a
  obtain⟨b1,b2⟩:=b
  obtain⟨rfl,h2⟩:=HJ
  unfold Go.V.Y9
  by_cases q:a1=k
  ·rw[if_pos q,if_pos q];subst q;exact .inr ⟨_,_,rfl,rfl,h2⟩
  ·rw[if_neg q,if_neg q];exact ih
theorem QB.add {o:Ow} {i:Nat} {h:Hp} {k:Int} {b:Nat} {l:List (Int × Unit)} (hb:J6 o (.VR i k) h b (NW l)):∀{sv:List (Int × Nat)} {vt:List (Int × List (Int × Unit))},QB o i h sv vt→Go.V.Y9 sv k=none→QB o i h (ins sv k b) (ins vt k l):=by
 intro sv vt s
 induction s with
 | nil=>intro _;exact .cons ⟨rfl,hb⟩ .nil
 | @cons a b l m HJ _ ih=>
  intro hn
  obtain⟨a1,a2⟩:=a
  obtain⟨b1,b2⟩:=b
  obtain⟨rfl,h2⟩:=HJ
  unfold Go.V.Y9 at hn
  split at hn
  ·cases hn
  ·rename_i q
   unfold ins
   rw[if_neg q,if_neg q]
   exact .cons ⟨rfl,h2⟩ (ih hn)
theorem QB.put {o:Ow} {i:Nat} {h h':Hp} {k:Int} {b:Nat} {l':List (Int × Unit)} (kp:Kp (fun t=>t=.VR i k) o h o h') (hb:J6 o (.VR i k) h' b (NW l')):∀{sv:List (Int × Nat)} {vt:List (Int × List (Int × Unit))},QB o i h sv vt→(sv.map (·.1)).Nodup→Go.V.Y9 sv k=some b→QB o i h' sv (ins vt k l'):=by
 intro sv vt s
 induction s with
 | nil=>intro _ h;cases h
 | @cons a c l m HJ tl ih=>
  intro hn hl
  obtain⟨a1,a2⟩:=a
  obtain⟨b1,b2⟩:=c
  obtain⟨h1,h2⟩:=HJ
  simp only at h1 h2
  subst h1
  simp only[List.map_cons,List.nodup_cons]at hn
  unfold Go.V.Y9 at hl
  unfold ins
  by_cases q:a1=k
  ·rw[if_pos q]at hl ⊢
   subst q
   obtain rfl:=Option.some.inj hl
   refine .cons ⟨rfl,hb⟩ ?_
   have key:∀{l:List (Int × Nat)} {m:List (Int × List (Int × Unit))},QB o i h l m→a1 ∉ l.map (·.1)→QB o i h' l m:=by
    intro l m s
    induction s with
    | nil=>intro _;exact .nil
    | @cons x y l m vj _ ih2=>
     intro hn
     simp only[List.map_cons,List.mem_cons,not_or]at hn
     exact .cons ⟨vj.1,vj.2.Zd kp (by intro e;cases e;exact hn.1 vj.1.symm)⟩ (ih2 hn.2)
   exact key tl hn.1
  ·rw[if_neg q]at hl ⊢
   exact .cons ⟨rfl,h2.Zd kp (by intro e;cases e;exact q rfl)⟩ (ih hn.2 hl)
theorem Ka {β:Type}:∀{l:List (Int × β)} {k:Int} {v:β},(l.map (·.1)).Nodup→((ins l k v).map (·.1)).Nodup∧∀x,x∈(ins l k v).map (·.1)→x=k∨x∈l.map (·.1):=by
 intro l
 induction l with
 | nil=>intro k v _;exact⟨by simp[ins],fun x hx=>by simp[ins]at hx;exact .inl hx⟩
 | cons a l ih=>
  intro k v hn
  obtain⟨a1,a2⟩:=a
  simp only[List.map_cons,List.nodup_cons]at hn
  unfold ins
  by_cases q:a1=k
  ·rw[if_pos q]
   exact⟨by simp only[List.map_cons,List.nodup_cons];exact hn,fun x hx=>.inr hx⟩
  ·rw[if_neg q]
   obtain⟨h1,h2⟩:=ih (k:=k) (v:=v) hn.2
   refine⟨?_,fun x hx=>?_⟩
   ·simp only[List.map_cons,List.nodup_cons]
    exact⟨fun hm=>(h2 _ hm).elim q hn.1,h1⟩
   ·simp only[List.map_cons,List.mem_cons]at hx ⊢
    rcases hx with hx|hx
    ·exact .inr (.inl hx)
    ·exact (h2 _ hx).elim .inl fun q=>.inr (.inr q)
theorem sf {β:Type}:∀(l:List (Int × β)) (k:Int) (u v:β),ins (ins l k u) k v=ins l k v:=by
 intro l
 induction l with
 | nil=>intro k u v;unfold ins;simp[ins]
 | cons a l ih=>
  intro k u v
  obtain⟨a1,a2⟩:=a
  have h1:∀(x:Int) (y z:β) (m:List (Int × β)),ins ((x,y) :: m) k z=if x=k then (x,z) :: m else (x,y) :: ins m k z:=fun _ _ _ _=>rfl
  rw[h1,h1]
  by_cases q:a1=k
  ·rw[if_pos q,if_pos q,h1,if_pos q]
  ·rw[if_neg q,if_neg q,h1,if_neg q,ih]
theorem YA.mO {o:Ow} {i:Nat} {h:Hp} {ra:RA} {r:Qd} (s:YA o i h ra r) (d:Q3 o h) {k:Int} {b:Nat} {l l':List (Int × Unit)} (hl:Y9 ra.sv k=some b) (hb:J6 o (.VR i k) h b (NW l)) :
  Kp (fun t=>t=.VR i k) o h o (h.setIfInBounds b (Xg (NW l')))∧YA o i (h.setIfInBounds b (Xg (NW l'))) ra { r with Jk:=ins r.Jk k l' }:=by
 have kk:Kp (fun t=>t=.VR i k) o h o (h.setIfInBounds b (Xg (NW l'))):=(Kp.refl d (fun t=>t=.VR i k)).set hb.1 rfl _
 exact⟨kk,s.ZD.Zd kk (by intro e;cases e),s.prom.Zd kk (by intro e;cases e),s.TV.Zd kk,s.prop.Zd kk (by intro e;cases e),s.Jk.Zd kk (by intro e;cases e),QB.put kk ⟨hb.1,Zt hb.2⟩ s.VU s.keys hl,s.keys⟩
def fK (i:Nat) (t:Tg):Prop:=Qr i t∨Xz i t
set_option maxHeartbeats 1000000 in
theorem NH (T:World) (h:Hp) (o:Ow) (wb i nb:Nat) (Z4:Nat→Nat) (a:NA) (n:Nd) (Yy:WA) (fl:List YY) (bad:Nat→Int) (told:List TS) (l:YY) (w:Value) (d:Q3 o h)
  (N:ZH o h wb i nb a n) (W:ZE o h wb Z4 Yy fl bad told) (iv:UZ o h w l.vs) (hk:n.known.length≤100000000000) (hl:n.log.length≤100000000000) (ht:told.length≤100000000000) (hq:n.queue.length≤1000000000000) (hw:n.waiting.length≤1000000000000)
  (hv:∀r s,n.Zi=some r→((Y9 r.Jk s).getD []).length≤1000000) :
  Zc Tryz.prog T 94 #[Zn wb,Zn nb,.agg (YP l w).toArray] h fun v' h'=>∃o' a' Xl,Kp (fK i) o h o' h'∧ZH o' h' wb i nb a' (Yr n l).n∧ZE o' h' wb Z4 Xl fl bad (told++(Yr n l).ts):=by
 obtain⟨pw,cw,rfl⟩:=iv.isSlice
 refine Zc.Zh (args:=[_,_,_]) Tryz.func94 rfl rfl rfl rfl ?_
 unfold Zn YP
 have WS:=Za N.ZD.2
 have R:=Zx N.ZD.2 N.pt.store.len
 obtain⟨h1,Yv⟩:=Zy (h.push (.cells (YP l (.slice pw l.vs.length cw)).toArray 148):Hp)
 have k1:Kp Qe o h o h1:=by rw[Yv];exact ZW d _
 have x5:ZK o h1 h.size (.cells (YP l (.slice pw l.vs.length cw)).toArray 148):=⟨d _ (Nat.le_refl _),by rw[Yv];exact Zb⟩
 have e0:=Yv.symm
 unfold YP at e0
 have N1:=N.still k1
 have W1:=W.still k1
 have sc:=iv.Zd k1
 have R1:=Zx N1.ZD.2 N1.pt.store.len
 have Jv:=Za N1.ZD.2
 have m5:=Za x5.2
 have q0:hc h1 ⟨h.size,0,none⟩=some (.int .i64 l.kind):=Zg x5.2
 have q1:hc h1 ⟨h.size,1,none⟩=some (.int .i64 l.Jj):=Zg x5.2
 have q3:rd h1 ⟨h.size,3,none⟩ 2=some (X1 l.b):=by rw[Z3 x5.2 (by simp[YP])];rfl
 have q5:hc h1 ⟨h.size,5,none⟩=some (.int .i64 l.v.slot):=Zg x5.2
 have q6:rd h1 ⟨h.size,6,none⟩ 2=some (X1 l.v.b):=by rw[Z3 x5.2 (by simp[YP])];rfl
 have q13:hc h1 ⟨h.size,13,none⟩=some (.slice pw l.vs.length cw):=Zg x5.2
 have ib:=N1.pt.Zi
 have oJ:=R.Zi
 cases hr:n.Zi with
 | none=>
  cases sj:a.Zi with
  | some ra=>rw[hr,sj]at ib;exact ib.elim
  | none=>
   have eP:Yr n l=⟨n,[],[]⟩:=by unfold Yr;rw[hr]
   rw[sj]at oJ
   unfold Rk at oJ
   rw[eP,List.append_nil]
   simp -implicitDefEqProofs only[go_sem,↓reduceIte,oJ]
   rw[e0]
   exact⟨o,a,Yy,ZC k1,N1,W1⟩
 | some r=>
  cases sj:a.Zi with
  | none=>rw[hr,sj]at ib;exact ib.elim
  | some ra=>
   rw[hr,sj]at ib
   have RG:YA o i h1 ra r:=ib
   rw[sj]at oJ
   unfold Rk Zn at oJ
   have mrb:=Za RG.ZD.2
   have rr0:rd h1 ⟨ra.rb,0,none⟩ 2=some (X1 r.b):=by rw[Z3 RG.ZD.2 (by simp[Ab])];rfl
   have rr2:hc h1 ⟨ra.rb,2,none⟩=some (.map (some ra.pb)):=Zg RG.ZD.2
   have rr5:hc h1 ⟨ra.rb,5,none⟩=some (.map (some ra.vb)):=Zg RG.ZD.2
   by_cases c1:l.kind=1
   ·have c1b:=eq_true c1
    simp -implicitDefEqProofs only[go_sem,↓reduceIte,oJ,c1b]
    rw[e0]
    refine VS.q mixed (by kernel_rfl) ?_
    simp -implicitDefEqProofs only[go_sem,↓reduceIte,q3,rr0]
    by_cases c2:l.b=r.b
    ·have eP:Yr n l=⟨yR n r l,[],[]⟩:=by unfold Yr;rw[hr];simp only;rw[if_pos c1,if_pos c2]
     rw[eP,List.append_nil]
     have vo:=eq_true c2
     simp -implicitDefEqProofs only[go_sem,↓reduceIte,vo]
     refine VS.z (h1.size) [8] (.p 0 (.p 1 (.p 2 (.q 3 (.p 4 (.q 5 (.p 6 (.q 7 (.w 8 .nil))))))))) mixed (by kernel_rfl) ?_
     simp -implicitDefEqProofs only[go_sem,↓reduceIte,rr2,q1,q13,mrb,m5]
     rw[XK Nw RG.prom.2]
     simp -implicitDefEqProofs only[go_sem,↓reduceIte]
     obtain⟨k2,R2⟩:=RG.bt k1.ZU (k:=l.Jj) sc
     refine⟨o,{ a with Zi:=some { ra with pv:=ins ra.pv l.Jj (.slice pw l.vs.length cw) } },Yy,(ZC k1).trans (k2.mono fun t q=>.inr (.inr (.inl q))),⟨?_,?_⟩,W1.Zd k2 (by rintro t rfl;simp[Tg.of])⟩
     ·have:=N1.ZD.Zd k2 (by intro e;cases e)
      rw[←NF (some { r with prom:=ins r.prom l.Jj l.vs }) sj (ra':={ ra with pv:=ins ra.pv l.Jj (.slice pw l.vs.length cw) }) rfl]at this
      exact this
     ·exact ZT.J7 N1.pt (k2.mono fun t q=>.inr (.inl q)) sj rfl R2
    ·have eP:Yr n l=⟨n,[],[]⟩:=by unfold Yr;rw[hr];simp only;rw[if_pos c1,if_neg c2]
     rw[eP,List.append_nil]
     simp -implicitDefEqProofs only[go_sem,↓reduceIte,c2]
     exact⟨o,a,Yy,ZC k1,N1,W1⟩
   ·simp -implicitDefEqProofs only[go_sem,↓reduceIte,oJ,c1]
    rw[e0]
    refine VS.q mixed (by kernel_rfl) ?_
    simp -implicitDefEqProofs only[go_sem,↓reduceIte,q6,rr0]
    by_cases c2:l.v.b=r.b
    case neg=>
     have eP:Yr n l=⟨n,[],[]⟩:=by unfold Yr;rw[hr];simp only;rw[if_neg c1,if_pos c2]
     rw[eP,List.append_nil]
     simp -implicitDefEqProofs only[go_sem,↓reduceIte,c2]
     exact⟨o,a,Yy,ZC k1,N1,W1⟩
    have eP:Yr n l=if 5<2*(Th r l).length then Ui (NV n r l) l.v.slot l.v.cm else ⟨NV n r l,[],[]⟩:=by unfold Yr;rw[hr];simp only;rw[if_neg c1,if_neg (fun q=>q c2)]
    rw[eP]
    have hvr:=hv r l.v.slot hr
    have vo:=eq_true c2
    have lk:=fun (K:Value→Hp→Prop)=>Yn (K:=K) (n:=l.v.slot) (c:=false) LY I3 RG.Jk.2
    rw[Xf]at lk
    obtain⟨S,hS⟩:=Zy ((Y9 r.Jk l.v.slot).getD [])
    have hlen:S.length≤1000000:=by rw[hS];exact hvr
    have NA1:ZH o h1 wb i nb { a with Zi:=some ra } { n with Zi:=some r }:=by
     have e1:({ a with Zi:=some ra }:NA)=a:=by rw[←sj]
     have e2:({ n with Zi:=some r }:Nd)=n:=by rw[←hr]
     rw[e1,e2];exact N1
    have KG:Kp (fK i) o h o h1:=ZC k1
    have sq:=oJ
    rcases RG.VU.Y9 l.v.slot with⟨e1,e2⟩|⟨sb,S',e1,e2,uM⟩
    ·have hS0:S=[]:=by rw[hS,e2];rfl
     rw[e1]at lk
     simp only[Option.map_none,Option.getD_none,Bool.false_eq_true,if_false]at lk
     -- Ru new set
     obtain⟨h2,UY⟩:=Zy (h1.push (Xg []):Hp)
     have eh2:h1.push (.map #[] 0)=h2:=UY.symm
     have k2a:Kp (Xz i) o h1 (Ji o h1.size (.VR i l.v.slot)) h2:=by
      rw[UY];exact ((Kp.refl k1.ZU _).push _).Tx (Nat.le_refl _) (by simp) (.inr (.inr (.inr (.inr ⟨_,rfl⟩))))
     have kx:Kp Qe o h1 o h2:=by rw[UY];exact ZW k1.ZU _
     have RGx:=RG.Zd kx (fun _ _ q=>q)
     have lo:∀b,b<h1.size→Ji o h1.size (.VR i l.v.slot) b=o b:=fun b hb=>YW (by omega)
     obtain⟨o2,oB⟩:=Zy (Ji o h1.size (.VR i l.v.slot))
     rw[←oB]at k2a lo
     have sr:YA o2 i h2 ra r:=by
      have lt:∀{b:Nat} {x:Obj},h1[b]? = some x→b<h1.size:=Za
      refine⟨⟨(lo _ (Za RG.ZD.2)).trans RG.ZD.1,RGx.ZD.2⟩,⟨(lo _ (Za RG.prom.2)).trans RG.prom.1,RGx.prom.2⟩,RG.TV.Zd k2a,⟨(lo _ (Za RG.prop.2)).trans RG.prop.1,RGx.prop.2⟩,⟨(lo _ (Za RG.Jk.2)).trans RG.Jk.1,RGx.Jk.2⟩,?_,RG.keys⟩
      have key:∀{sv:List (Int × Nat)} {vt:List (Int × List (Int × Unit))},QB o i h1 sv vt→QB o2 i h2 sv vt:=by
       intro sv vt s
       induction s with
       | nil=>exact .nil
       | cons x _ ih=>exact .cons ⟨x.1,⟨(lo _ (Za x.2.2)).trans x.2.1,(x.2.Zd kx id).2⟩⟩ ih
      exact key RG.VU
     have ms:J6 o2 (.VR i l.v.slot) h2 h1.size (NW []):=⟨by rw[oB];exact YR,by rw[UY];exact Zb⟩
     have Zyh:ra.rb<h2.size:=by have:=kx.size;omega
     simp -implicitDefEqProofs only[go_sem,↓reduceIte,oJ,vo,q5,rr5,lk,oH]
     rw[eh2,XK LY sr.Jk.2]
     obtain⟨G,hG⟩:=Zy (h2.setIfInBounds ra.vb (Xg (ins (Ua oH ra.sv) l.v.slot (.map (some h1.size)))))
     rw[←hG]
     obtain⟨fo,zd⟩:∃fo:RA,fo = { ra with sv:=ins ra.sv l.v.slot h1.size }:=⟨_,rfl⟩
     have kk:Kp (fun t=>t=.Jk i) o2 h2 o2 G:=by rw[hG];exact (Kp.refl k2a.ZU (fun t=>t=.Jk i)).set sr.Jk.1 rfl _
     have RGG:YA o2 i G fo { r with Jk:=ins r.Jk l.v.slot [] }:=by
      rw[zd]
      refine⟨sr.ZD.Zd kk (by intro e;cases e),sr.prom.Zd kk (by intro e;cases e),sr.TV.Zd kk,sr.prop.Zd kk (by intro e;cases e),⟨sr.Jk.1,?_⟩,(QB.add ms sr.VU e1).Zd kk (fun _ e=>by cases e),(Ka RG.keys).1⟩
      show G[ra.vb]? = some (Xg (Ua oH (ins ra.sv l.v.slot h1.size)))
      rw[hG,Zt sr.Jk.2,Tv];rfl
     have k2b:Kp (Xz i) o h1 o2 G:=k2a.trans (kk.mono fun t q=>.inr (.inr (.inr (.inl q))))
     have Db:fo.rb=ra.rb:=by rw[zd]
     have NG:ZH o2 G wb i nb { a with Zi:=some fo } { n with Zi:=some { r with Jk:=ins r.Jk l.v.slot [] } }:=by
      refine⟨?_,ZT.J7 NA1.pt k2b rfl Db RGG⟩
      have:=NA1.ZD.Zd k2b (by rintro (q|q|q|q|⟨_,q⟩)<;>cases q)
      rw[show Y4 { n with Zi:=some { r with Jk:=ins r.Jk l.v.slot [] } } { a with Zi:=some fo } = Y4 { n with Zi:=some r } { a with Zi:=some ra } from by unfold Y4 Uk Rk;simp only[Db]]
      exact this
     have WG:=W1.Zd k2b (by intro t q;rw[OD q];simp)
     have XG:=x5.Zd k2b
     have KG2:Kp (fK i) o h o2 G:=(ZC k1).trans (k2b.mono fun t q=>.inr q)
     have LKS:Y9 fo.sv l.v.slot=some h1.size:=by rw[zd];simp[ai]
     have SB:J6 o2 (.VR i l.v.slot) G h1.size (NW S):=by rw[hS0];exact ms.Zd kk (by intro e;cases e)
     have Q5:hc G ⟨h.size,5,none⟩=some (.int .i64 l.v.slot):=Zg XG.2
     have Q1:hc G ⟨h.size,1,none⟩=some (.int .i64 l.Jj):=Zg XG.2
     have RR5:hc G ⟨ra.rb,5,none⟩=some (.map (some fo.vb)):=by rw[←Db];exact Zg RGG.ZD.2
     have MRB:ra.rb<G.size:=by rw[←Db];exact Za RGG.ZD.2
     have M5:=Za XG.2
     have LK:=fun (K:Value→Hp→Prop)=>Yn (K:=K) (n:=l.v.slot) (c:=false) LY I3 RGG.Jk.2
     rw[Xf]at LK
     simp only[LKS,Option.map_some,Option.getD_some,Bool.false_eq_true,if_false,oH]at LK
     simp -implicitDefEqProofs only[go_sem,↓reduceIte]
     refine VS.z (G.size) [9] (.p 0 (.p 1 (.p 2 (.q 3 (.p 4 (.p 6 (.q 7 (.p 8 (.s 5 (.w 9 .nil)))))))))) mixed (by kernel_rfl) ?_
     simp -implicitDefEqProofs only[go_sem,↓reduceIte,sq,vo,Q5,Q1,RR5,LK,MRB,M5]
     rw[XK I1 SB.2]
     obtain⟨k2,sy⟩:=RGG.mO KG2.ZU (l':=ins S l.Jj ()) LKS SB
     rw[show Xg (ins (NW S) l.Jj (.agg #[]))=Xg (NW (ins S l.Jj ())) from by unfold NW;rw[Tv]]
     obtain⟨g2,Qt⟩:=Zy (G.setIfInBounds h1.size (Xg (NW (ins S l.Jj ()))))
     rw[←Qt]at k2 sy ⊢
     have eV:({ r with Jk:=ins r.Jk l.v.slot (Th r l) }:Qd) = { ({ r with Jk:=ins r.Jk l.v.slot [] }:Qd) with Jk:=ins (ins r.Jk l.v.slot []) l.v.slot (ins S l.Jj ()) }:=by unfold Th;rw[hS,sf]
     have K2:Kp (fK i) o2 G o2 g2:=k2.mono fun t q=>.inr (.inr (.inr (.inr (.inr ⟨_,q⟩))))
     have N2:ZH o2 g2 wb i nb { a with Zi:=some fo } (NV n r l):=by
      refine⟨?_,?_⟩
      ·have:=NG.ZD.Zd k2 (by intro e;cases e)
       exact this
      ·have:=ZT.J7 NG.pt (k2.mono fun t q=>.inr (.inr (.inr (.inr ⟨_,q⟩)))) rfl rfl sy
       unfold NV
       rw[eV]
       exact this
     have W2:=WG.Zd k2 (by rintro t rfl;simp[Tg.of])
     have x2:=XG.Zd k2
     have p0:rd g2 ⟨h.size,8,none⟩ 5=some l.v.cm.C:=by rw[Z3 x2.2 (by simp[YP])];rfl
     have p5:hc g2 ⟨fo.rb,5,none⟩=some (.map (some fo.vb)):=Zg sy.ZD.2
     rw[Db]at p5
     have p6:=fun (K:Value→Hp→Prop)=>Yn (K:=K) (n:=l.v.slot) (c:=false) LY I3 sy.Jk.2
     rw[Xf]at p6
     simp only[LKS,Option.map_some,Option.getD_some,Bool.false_eq_true,if_false]at p6
     have SB2:J6 o2 (.VR i l.v.slot) g2 h1.size (NW (ins S l.Jj ())):=⟨SB.1,by rw[Qt];exact Zt SB.2⟩
     have p7:=fun (K:Value→Hp→Prop) (cs:Array Bool) (ty:TypeId)=>VC (T:=T) (K:=K) (ty:=ty) (cs:=cs) I1 SB2.2
     have p8:(NW (ins S l.Jj ())).length=(Th r l).length:=by unfold NW Th;rw[OY,hS]
     rw[p8]at p7
     simp -implicitDefEqProofs only[go_sem,↓reduceIte,sq,vo,p5,p6,p7,oH]
     refine (Mr T g2 (Th r l).length (by unfold Th;rw[←hS,S7];split<;>omega)).use ?_
     rintro _ _ ⟨rfl,rfl⟩
     by_cases c3:5<2*(Th r l).length
     ·rw[if_pos c3]
      simp -implicitDefEqProofs only[go_sem,↓reduceIte,c3,p0]
      refine (L5 T _ o2 wb i nb Z4 _ _ Yy fl bad told l.v.slot l.v.cm k2.ZU N2 W2 hk hl ht hq hw).use ?_
      rintro v' h' ⟨o',a',Xl,kl,N',W'⟩
      simp -implicitDefEqProofs only[go_sem,↓reduceIte]
      exact⟨o',a',Xl,(KG2.trans K2).trans (kl.mono fun t q=>.inl q),N',W'⟩
     ·rw[if_neg c3,List.append_nil]
      simp -implicitDefEqProofs only[go_sem,↓reduceIte,c3]
      exact⟨o2,_,Yy,KG2.trans K2,N2,W2⟩
    ·have hS0:S=S':=by rw[hS,e2];rfl
     subst hS0
     rw[e1]at lk
     simp only[Option.map_some,Option.getD_some,Bool.false_eq_true,if_false]at lk
     simp -implicitDefEqProofs only[go_sem,↓reduceIte,vo,q5,rr5,lk,oH,oJ]
     have WN:=fun (K:Value→Hp→Prop)=>Yn (K:=K) (n:=l.v.slot) (c:=false) LY I3 RG.Jk.2
     rw[Xf]at WN
     simp only[e1,Option.map_some,Option.getD_some,Bool.false_eq_true,if_false,oH]at WN
     refine VS.z (h1.size) [9] (.p 0 (.p 1 (.p 2 (.q 3 (.p 4 (.p 6 (.q 7 (.p 8 (.s 5 (.w 9 .nil)))))))))) mixed (by kernel_rfl) ?_
     simp -implicitDefEqProofs only[go_sem,↓reduceIte,sq,vo,q5,q1,rr5,WN,mrb,m5]
     rw[XK I1 uM.2]
     obtain⟨k2,sy⟩:=RG.mO KG.ZU (l':=ins S l.Jj ()) e1 uM
     rw[show Xg (ins (NW S) l.Jj (.agg #[]))=Xg (NW (ins S l.Jj ())) from by unfold NW;rw[Tv]]
     obtain⟨g2,Qt⟩:=Zy (h1.setIfInBounds sb (Xg (NW (ins S l.Jj ()))))
     rw[←Qt]at k2 sy ⊢
     have eV:({ r with Jk:=ins r.Jk l.v.slot (Th r l) }:Qd) = { r with Jk:=ins r.Jk l.v.slot (ins S l.Jj ()) }:=by unfold Th;rw[hS]
     have K2:Kp (fK i) o h1 o g2:=k2.mono fun t q=>.inr (.inr (.inr (.inr (.inr ⟨_,q⟩))))
     have N2:ZH o g2 wb i nb { a with Zi:=some ra } (NV n r l):=by
      refine⟨?_,?_⟩
      ·have:=NA1.ZD.Zd k2 (by intro e;cases e)
       exact this
      ·have:=ZT.J7 NA1.pt (k2.mono fun t q=>.inr (.inr (.inr (.inr ⟨_,q⟩)))) rfl rfl sy
       unfold NV
       rw[eV]
       exact this
     have W2:=W1.Zd k2 (by rintro t rfl;simp[Tg.of])
     have x2:=x5.Zd k2
     have p0:rd g2 ⟨h.size,8,none⟩ 5=some l.v.cm.C:=by rw[Z3 x2.2 (by simp[YP])];rfl
     have p5:hc g2 ⟨ra.rb,5,none⟩=some (.map (some ra.vb)):=Zg sy.ZD.2
     have p6:=fun (K:Value→Hp→Prop)=>Yn (K:=K) (n:=l.v.slot) (c:=false) LY I3 sy.Jk.2
     rw[Xf]at p6
     simp only[e1,Option.map_some,Option.getD_some,Bool.false_eq_true,if_false]at p6
     have SB2:J6 o (.VR i l.v.slot) g2 sb (NW (ins S l.Jj ())):=⟨uM.1,by rw[Qt];exact Zt uM.2⟩
     have p7:=fun (K:Value→Hp→Prop) (cs:Array Bool) (ty:TypeId)=>VC (T:=T) (K:=K) (ty:=ty) (cs:=cs) I1 SB2.2
     have p8:(NW (ins S l.Jj ())).length=(Th r l).length:=by unfold NW Th;rw[OY,hS]
     rw[p8]at p7
     simp -implicitDefEqProofs only[go_sem,↓reduceIte,sq,vo,p5,p6,p7,oH]
     refine (Mr T g2 (Th r l).length (by unfold Th;rw[←hS,S7];split<;>omega)).use ?_
     rintro _ _ ⟨rfl,rfl⟩
     by_cases c3:5<2*(Th r l).length
     ·rw[if_pos c3]
      simp -implicitDefEqProofs only[go_sem,↓reduceIte,c3,p0]
      refine (L5 T _ o wb i nb Z4 _ _ Yy fl bad told l.v.slot l.v.cm k2.ZU N2 W2 hk hl ht hq hw).use ?_
      rintro v' h' ⟨o',a',Xl,kl,N',W'⟩
      simp -implicitDefEqProofs only[go_sem,↓reduceIte]
      exact⟨o',a',Xl,(KG.trans K2).trans (kl.mono fun t q=>.inl q),N',W'⟩
     ·rw[if_neg c3,List.append_nil]
      simp -implicitDefEqProofs only[go_sem,↓reduceIte,c3]
      exact⟨o,_,Yy,KG.trans K2,N2,W2⟩
def Xu (i:Nat) (t:Tg):Prop:=t=.world∨t=.Zl∨t=.told∨t.of=some i
theorem Kb {i:Nat} {t:Tg} (h:Qr i t):Xu i t:=by
 rcases h with rfl|rfl|rfl|rfl|rfl|rfl|rfl<;>simp[Xu,Tg.of]
theorem Dc {i:Nat} {t:Tg} (h:fK i t):Xu i t:=h.elim Kb fun q=>.inr (.inr (.inr (OD q)))
theorem Dd (T:World) (h:Hp) (o:Ow) (wb i nb:Nat) (a:NA) (n:Nd) (l:YY) (w:Value) (d:Q3 o h) (N:ZH o h wb i nb a n) (iv:UZ o h w l.vs) :
  Zc Tryz.prog T 99 #[Zn wb,Zn nb,.agg (YP l w).toArray] h fun v' h'=>Kp (fun t=>t=.node i) o h o h'∧ZH o h' wb i nb a (notes n l):=by
 obtain⟨pw,cw,rfl⟩:=iv.isSlice
 refine Zc.Zh (args:=[_,_,_]) Tryz.func99 rfl rfl rfl rfl ?_
 unfold Zn YP
 have e0:∃h1:Hp,h1=h.push (.cells (YP l (.slice pw l.vs.length cw)).toArray 148):=⟨_,rfl⟩
 obtain⟨h1,Yv⟩:=e0
 have k1:Kp Qe o h o h1:=by rw[Yv];exact ZW d _
 have x5:ZK o h1 h.size (.cells (YP l (.slice pw l.vs.length cw)).toArray 148):=⟨d _ (Nat.le_refl _),by rw[Yv];exact Zb⟩
 have e0:=Yv.symm
 unfold YP at e0
 have N1:=N.still k1
 have R1:=Zx N1.ZD.2 N1.pt.store.len
 have Jv:=Za N1.ZD.2
 have m5:=Za x5.2
 have q3:rd h1 ⟨h.size,3,none⟩ 2=some (X1 l.b):=by rw[Z3 x5.2 (by simp[YP])];rfl
 have r7:rd h1 ⟨nb,7,none⟩ 2=some (X1 n.heard):=R1.heard
 simp -implicitDefEqProofs only[go_sem,↓reduceIte]
 rw[e0]
 refine VS.mono (N:=fun F' g'=>Zf h1.size h1 g'∧F' 1=.pointer (some ⟨nb,0,none⟩)∧F' 5=.pointer (some ⟨h.size,0,none⟩)∧F' 12=.bool (decide (below n.heard l.b))) ?_ ?_ (fun _ _ _ h=>h) (fun _ _ h=>h)
 ·refine VS.z (h1.size) [6] (.p 0 (.q 1 (.p 2 (.p 3 (.p 4 (.q 5 (.w 6 .nil))))))) mixed (by kernel_rfl) ?_
  simp -implicitDefEqProofs only[go_sem,↓reduceIte,q3,r7,Jv,m5]
  refine (PM T h1 l.b n.heard).use ?_
  rintro _ g ⟨rfl,b⟩
  simp -implicitDefEqProofs only[go_sem,↓reduceIte,b]
 ·rintro F' g ⟨b,f1,f5,f12⟩
  have kb:=ZB k1.ZU b
  have N2:=N1.still kb
  have K2:=k1.trans kb
  by_cases c:below n.heard l.b
  ·have e:notes n l = { n with heard:=l.b }:=by unfold notes;rw[if_pos c]
   rw[e]
   obtain⟨g2,w2,N3,k3⟩:=ZT.write (n:={ n with heard:=l.b }) (a:=a) { N2.pt with } K2.ZU N2.ZD ((YI N2.ZD.2 N2.pt.store.len).heard l.b.r l.b.n)
   have p3:rd g ⟨h.size,3,none⟩ 2=some [.int .i64 l.b.r,.int .i64 l.b.n]:=by rw[Z3 (x5.Zd kb).2 (by simp[YP])];rfl
   have JA:=Za N2.ZD.2
   simp -implicitDefEqProofs only[go_sem,↓reduceIte,f1,f5,f12,c,p3,w2,JA]
   exact⟨(ZC K2).trans k3,N3⟩
  ·have e:notes n l=n:=by unfold notes;rw[if_neg c]
   rw[e]
   simp -implicitDefEqProofs only[go_sem,↓reduceIte,f12,c]
   exact⟨ZC K2,N2⟩
theorem fL (T:World) (h:Hp) (o:Ow) (wb i nb:Nat) (Z4:Nat→Nat) (a:NA) (n:Nd) (Yy:WA) (fl:List YY) (bad:Nat→Int) (told:List TS) (l:YY) (w:Value) (d:Q3 o h)
  (N:ZH o h wb i nb a n) (W:ZE o h wb Z4 Yy fl bad told) (iv:UZ o h w l.vs) (hk:n.known.length≤100000000000) (hl:n.log.length≤100000000000) (ht:told.length≤100000000000) (hq:n.queue.length≤1000000000000) (hw:n.waiting.length≤1000000000000) :
  Zc Tryz.prog T 98 #[Zn wb,Zn nb,.agg (YP l w).toArray] h fun v' h'=>∃o' a' Xl,Kp (Qr i) o h o' h'∧ZH o' h' wb i nb a' (Ui n l.v.slot l.v.cm).n∧ZE o' h' wb Z4 Xl fl bad (told++(Ui n l.v.slot l.v.cm).ts):=by
 obtain⟨pw,cw,rfl⟩:=iv.isSlice
 refine Zc.Zh (args:=[_,_,_]) Tryz.func98 rfl rfl rfl rfl ?_
 unfold Zn YP
 obtain⟨h1,Yv⟩:=Zy (h.push (.cells (YP l (.slice pw l.vs.length cw)).toArray 148):Hp)
 have k1:Kp Qe o h o h1:=by rw[Yv];exact ZW d _
 have e0:=Yv.symm
 unfold YP at e0
 simp -implicitDefEqProofs only[go_sem,↓reduceIte]
 rw[e0]
 refine (L5 T h1 o wb i nb Z4 a n Yy fl bad told l.v.slot l.v.cm k1.ZU (N.still k1) (W.still k1) hk hl ht hq hw).use ?_
 rintro v' h' ⟨o',a',Xl,k,N',W'⟩
 simp -implicitDefEqProofs only[go_sem,↓reduceIte]
 exact⟨o',a',Xl,(ZC k1).trans k,N',W'⟩
theorem mP (T:World) (h:Hp) (o:Ow) (wb i nb:Nat) (a:NA) (n:Nd) (l:YY) (w:Value) (d:Q3 o h) (N:ZH o h wb i nb a n) (iv:UZ o h w l.vs) (hq:n.queue.length≤1000000000000) (hl:n.log.length≤1000000000000) :
  Zc Tryz.prog T 96 #[Zn wb,Zn nb,.agg (YP l w).toArray] h fun v' h'=>∃o' a',Kp (yX i) o h o' h'∧ZH o' h' wb i nb a' (add n l.v.cm):=by
 obtain⟨pw,cw,rfl⟩:=iv.isSlice
 refine Zc.Zh (args:=[_,_,_]) Tryz.func96 rfl rfl rfl rfl ?_
 unfold Zn YP
 obtain⟨h1,Yv⟩:=Zy (h.push (.cells (YP l (.slice pw l.vs.length cw)).toArray 148):Hp)
 have k1:Kp Qe o h o h1:=by rw[Yv];exact ZW d _
 have e0:=Yv.symm
 unfold YP at e0
 simp -implicitDefEqProofs only[go_sem,↓reduceIte]
 rw[e0]
 refine (mI T h1 o wb i nb a n l.v.cm k1.ZU (N.still k1) hq hl).use ?_
 rintro v' h' ⟨o',a',k,N'⟩
 simp -implicitDefEqProofs only[go_sem,↓reduceIte]
 exact⟨o',a',(ZC k1).trans k,N'⟩
theorem mQ (T:World) (h:Hp) (o:Ow) (wb i nb:Nat) (Z4:Nat→Nat) (a:NA) (n:Nd) (Yy:WA) (fl:List YY) (bad:Nat→Int) (told:List TS) (l:YY) (w:Value) (d:Q3 o h)
  (N:ZH o h wb i nb a n) (W:ZE o h wb Z4 Yy fl bad told) (iv:UZ o h w l.vs) (Yk:fl.length≤1000000000000) :
  Zc Tryz.prog T 97 #[Zn wb,Zn nb,.agg (YP l w).toArray] h fun v' h'=>∃o' a' Xl,Kp (fun t=>t=.world∨t=.Zl∨t=.node i) o h o' h'∧ZH o' h' wb i nb a' (UR n l).n∧ZE o' h' wb Z4 Xl (fl++(UR n l).ls) bad told:=by
 obtain⟨pw,cw,rfl⟩:=iv.isSlice
 refine Zc.Zh (args:=[_,_,_]) Tryz.func97 rfl rfl rfl rfl ?_
 unfold Zn YP
 obtain⟨h1,Yv⟩:=Zy (h.push (.cells (YP l (.slice pw l.vs.length cw)).toArray 148):Hp)
 have k1:Kp Qe o h o h1:=by rw[Yv];exact ZW d _
 have x5:ZK o h1 h.size (.cells (YP l (.slice pw l.vs.length cw)).toArray 148):=⟨d _ (Nat.le_refl _),by rw[Yv];exact Zb⟩
 have e0:=Yv.symm
 have cc:=Dd T h1 o wb i nb a n l (.slice pw l.vs.length cw) k1.ZU (N.still k1) (iv.Zd k1)
 unfold YP at e0
 unfold YP Zn at cc
 simp -implicitDefEqProofs only[go_sem,↓reduceIte]
 rw[e0]
 refine cc.use ?_
 rintro _ g ⟨k2,N2⟩
 have W2:=(W.still k1).Zd k2 (by rintro t rfl;simp[Tg.of])
 have y5:=x5.Zd k2
 have R2:=Zx N2.ZD.2 N2.pt.store.len
 have JA:=Za N2.ZD.2
 have m5:=Za y5.2
 have q5:hc g ⟨h.size,5,none⟩=some (.int .i64 l.v.slot):=Zg y5.2
 have ek:(notes n l).known=n.known:=by unfold notes;split<;>rfl
 have eme:(notes n l).me=n.me:=by unfold notes;split<;>rfl
 have lk:=fun (K:Value→Hp→Prop)=>Yn (K:=K) (n:=l.v.slot) (c:=true) Vp PH N2.pt.known.2
 have WN:=fun (K:Value→Hp→Prop) (x:Obj)=>Yn (h:=g.push x) (K:=K) (n:=l.v.slot) (c:=true) Vp PH ((Zq (Za N2.pt.known.2)).trans N2.pt.known.2)
 rw[Xf,ek]at lk
 simp only[Xf,ek]at WN
 have gp:∀x:Obj,(g.push x)[g.size]? = some x:=fun x=>Zb
 simp -implicitDefEqProofs only[go_sem,↓reduceIte]
 cases hx:Y9 n.known l.v.slot with
 | none=>
  have eP:UR n l=⟨notes n l,[],[]⟩:=by unfold UR;rw[hx]
  rw[eP,List.append_nil]
  rw[hx]at lk
  simp only[hx,Option.map_none,Option.getD_none,Option.isSome_none,↓reduceIte]at lk WN
  refine VS.mono (N:=fun F' g'=>Zf g.size g g'∧F' 7=.bool false) ?_ ?_ (fun _ _ _ h=>h) (fun _ _ h=>h)
  ·refine VS.z (g.size) [7,12] (.p 0 (.p 1 (.p 2 (.q 3 (.p 4 (.p 5 (.q 6 (.or 7 (.p 8 (.p 9 (.p 10 (.s 11 (.w 12 (.p 13 .nil)))))) (.s 11 (.w 7 (.p 8 (.p 9 (.p 10 (.w 12 (.p 13 .nil))))))))))))))) mixed (by kernel_rfl) ?_
   simp -implicitDefEqProofs only[go_sem,↓reduceIte,R2.known,q5,JA,m5,lk,WN]
   repeat' (first|exact Zf.refl _ _|exact Zf.push (Nat.le_refl _) _|refine And.intro ?_ ?_)
  ·rintro F' g' ⟨b,f7⟩
   simp -implicitDefEqProofs only[go_sem,↓reduceIte,f7]
   exact⟨o,a,Yy,((ZC k1).trans (k2.mono fun t q=>.inr (.inr q))).Z7 b,N2.still (ZB k2.ZU b),W2.still (ZB k2.ZU b)⟩
 | some y=>
  have eP:UR n l=⟨notes n l,[⟨6,n.me,l.Jj,Jy,Tf l.v.slot Jy y,[]⟩],[]⟩:=by unfold UR;rw[hx]
  rw[eP]
  rw[hx]at lk
  simp only[hx,Option.map_some,Option.getD_some,Option.isSome_some,↓reduceIte]at lk WN
  refine VS.mono (N:=fun F' g'=>Zf g.size g g'∧F' 0=.pointer (some ⟨wb,0,none⟩)∧F' 1=.pointer (some ⟨nb,0,none⟩)∧F' 5=.pointer (some ⟨h.size,0,none⟩)∧F' 7=.bool true∧F' 6=.pointer (some ⟨g.size,0,none⟩)∧g'[g.size]? = some (.cells y.C.toArray 49)) ?_ ?_ (fun _ _ _ h=>h) (fun _ _ h=>h)
  ·refine VS.z (g.size) [7,12] (.p 0 (.p 1 (.p 2 (.q 3 (.p 4 (.p 5 (.q 6 (.or 7 (.p 8 (.p 9 (.p 10 (.s 11 (.w 12 (.p 13 .nil)))))) (.s 11 (.w 7 (.p 8 (.p 9 (.p 10 (.w 12 (.p 13 .nil))))))))))))))) mixed (by kernel_rfl) ?_
   simp -implicitDefEqProofs only[go_sem,↓reduceIte,R2.known,q5,JA,m5,lk,WN,Wr]
   repeat' (first|exact Zf.refl _ _|exact Zf.push (Nat.le_refl _) _|exact gp _|refine And.intro ?_ ?_)
  ·rintro F' g' ⟨b,f0,f1,f5,f7,f6,yy⟩
   have kb:=ZB k2.ZU b
   have N3:=N2.still kb
   have W3:=W2.still kb
   have z5:=y5.Zd kb
   have R3:=Zx N3.ZD.2 N3.pt.store.len
   have p1:hc g' ⟨h.size,1,none⟩=some (.int .i64 l.Jj):=Zg z5.2
   have p5:hc g' ⟨h.size,5,none⟩=some (.int .i64 l.v.slot):=Zg z5.2
   have p6:rd g' ⟨g.size,0,none⟩ 5=some [.int .i64 y.k,.int .i64 y.c,.int .i64 y.s,.int .i64 y.n,.int .i64 y.v]:=Zo yy rfl
   simp -implicitDefEqProofs only[go_sem,↓reduceIte,f0,f1,f5,f7,f6,p1,p5,p6]
   refine (Uv T g' o wb nb Z4 n.me Yy fl bad told l.Jj ⟨6,0,0,Jy,Tf l.v.slot Jy y,[]⟩ (.slice none 0 0) kb.ZU W3 (by rw[←eme];exact R3.me) (Za N3.ZD.2) (Im.nil _ _ _ _) Yk).use ?_
   rintro v' h' ⟨o',Xl,k,_,W'⟩
   simp -implicitDefEqProofs only[go_sem,↓reduceIte]
   exact⟨o',a,Xl,(((ZC k1).trans (k2.mono fun t q=>.inr (.inr q))).trans (ZC kb)).trans (k.mono fun t q=>q.elim .inl fun q=>.inr (.inl q)),N3.Zd k (by rintro t (rfl|rfl)<;>simp[Tg.of]),W'⟩
section
variable {K:Value→Hp→Prop} {X:Hp}
theorem Hb {t e:TypeId} (ht:aj Tryz.prog t=some e) {b:Nat} (hb:b=X.size) {l:List (Int × Value)} {n:Int} {x:Value} :
  OZ Tryz.prog t (.map (some b)) (.int .i64 n) x K (X.push (Xg l))=K undef (X.push (Xg (ins l n x))):=by
 subst hb
 rw[XK ht Zb]
 congr 1
 apply Array.ext_getElem?
 intro j
 rw[Array.getElem?_setIfInBounds,Array.getElem?_push,Array.getElem?_push]
 by_cases hj:X.size=j
 ·subst hj;simp
 ·rw[if_neg hj,if_neg (fun e=>hj e.symm),if_neg (fun e=>hj e.symm)]
theorem Ag {t e:TypeId} (ht:aj Tryz.prog t=some e) {b:Nat} (hb:b=X.size) {n:Int} {x:Value} :
  OZ Tryz.prog t (.map (some b)) (.int .i64 n) x K (X.push (.map #[] 0))=K undef (X.push (Xg [(n,x)])):=Hb (l:=[]) ht hb
theorem Ah {t e:TypeId} {z:Value} (ht:aj Tryz.prog t=some e) (hz:ur Tryz.prog e=some z) {b:Nat} (hb:b=X.size) {l:List (Int × Value)} {n:Int} {x:Value} (hx:Y9 l n=some x) :
  OX Tryz.prog t (.map (some b)) (.int .i64 n) false K (X.push (Xg l))=K x (X.push (Xg l)):=by
 subst hb
 rw[Yn ht hz Zb,hx];rfl
end
theorem De (n:Nd) (l:YY):(YO n l).ts=[]:=by
 unfold YO
 repeat' split
 all_goals rfl
theorem mR (n:Nd) (l:YY):(asked n l).ts=[]:=by
 unfold asked
 repeat' split
 all_goals rfl
theorem mS (n:Nd) (l:YY):(UR n l).ts=[]:=by
 unfold UR
 split<;>rfl
theorem mT (n:Nd) (s:Int) (x:Cm):(Ui n s x).ls=[]:=rfl
theorem NJ (n:Nd) (l:YY):(Yr n l).ls=[]:=by
 unfold Yr
 repeat' split
 all_goals rfl
set_option maxHeartbeats 1000000 in
theorem fM (T:World) (h:Hp) (o:Ow) (wb i nb:Nat) (Z4:Nat→Nat) (a:NA) (n:Nd) (Yy:WA) (fl:List YY) (bad:Nat→Int) (told:List TS) (l:YY) (w:Value) (d:Q3 o h)
  (N:ZH o h wb i nb a n) (W:ZE o h wb Z4 Yy fl bad told) (iv:UZ o h w l.vs) (tb:DT o h) (Zsa:0≤l.kind∧l.kind≤7) (Yk:fl.length≤1000000000000) (lX:n.own.l.length≤1000000) (lD:n.data.length≤1000000)
  (hk:n.known.length≤100000000000) (hl:n.log.length≤100000000000) (ht:told.length≤100000000000) (hq:n.queue.length≤1000000000000) (hw:n.waiting.length≤1000000000000)
  (hv:∀r s,n.Zi=some r→((Y9 r.Jk s).getD []).length≤1000000) :
  Zc Tryz.prog T 78 #[Zn wb,Zn nb,.agg (YP l w).toArray] h fun v' h'=>∃o' a' Xl,Kp (Xu i) o h o' h'∧ZH o' h' wb i nb a' (handle n l).n∧ZE o' h' wb Z4 Xl (fl++(handle n l).ls) bad (told++(handle n l).ts):=by
 obtain⟨pw,cw,rfl⟩:=iv.isSlice
 refine Zc.Zh (args:=[_,_,_]) Tryz.func78 rfl rfl rfl rfl ?_
 obtain⟨h1,Yv⟩:=Zy (h.push (.cells (YP l (.slice pw l.vs.length cw)).toArray 148):Hp)
 have k1:Kp Qe o h o h1:=by rw[Yv];exact ZW d _
 have x5:ZK o h1 h.size (.cells (YP l (.slice pw l.vs.length cw)).toArray 148):=⟨d _ (Nat.le_refl _),by rw[Yv];exact Zb⟩
 have e0:=Yv.symm
 have s1:h1.size=h.size+1:=by rw[Yv];simp
 obtain⟨M,hM⟩:∃M:List (Int × Value),M=[(0,.func (.func 93) #[] #[]),(1,.func (.func 94) #[] #[]),(2,.func (.func 95) #[] #[]),(3,.func (.func 94) #[] #[]),(4,.func (.func 96) #[] #[]),(5,.func (.func 97) #[] #[]),(6,.func (.func 98) #[] #[]),(7,.func (.func 99) #[] #[])]:=⟨_,rfl⟩
 have k2:Kp Qe o h o (h1.push (Xg M)):=k1.push _
 have N2:=N.still k2
 have W2:=W.still k2
 have gY:=iv.Zd k2
 have CY:=tb.Zd k2
 have x2:ZK o (h1.push (Xg M)) h.size (.cells (YP l (.slice pw l.vs.length cw)).toArray 148):=x5.Zd (ZW k1.ZU _)
 have d2:Q3 o (h1.push (Xg M)):=k2.ZU
 have q0:hc (h1.push (Xg M)) ⟨h.size,0,none⟩=some (.int .i64 l.kind):=Zg x2.2
 have sz:rd (h1.push (Xg M)) ⟨h.size,0,none⟩ 14=some (YP l (.slice pw l.vs.length cw)):=Zo x2.2 rfl
 have eM:ins (ins (ins (ins (ins (ins (ins [((0:Int),Value.func (.func 93) #[] #[])] 1 (.func (.func 94) #[] #[])) 2 (.func (.func 95) #[] #[])) 3 (.func (.func 94) #[] #[])) 4 (.func (.func 96) #[] #[])) 5 (.func (.func 97) #[] #[])) 6 (.func (.func 98) #[] #[])) 7 (.func (.func 99) #[] #[])=M:=by rw[hM];rfl
 have u0:=fun (K:Value→Hp→Prop) (n:Int) (x:Value)=>Ag (K:=K) (X:=h1) mA (b:=h1.size) rfl (n:=n) (x:=x)
 have u1:=fun (K:Value→Hp→Prop) (l:List (Int × Value)) (n:Int) (x:Value)=>Hb (K:=K) (X:=h1) mA (b:=h1.size) rfl (l:=l) (n:=n) (x:=x)
 have lk:=fun (K:Value→Hp→Prop) (x:Value) (hx:Y9 M l.kind=some x)=>Ah (K:=K) (X:=h1) mA Zd4 (b:=h1.size) rfl hx
 unfold Zn YP
 unfold YP at e0 sz
 have Kc:l.kind=0∨l.kind=1∨l.kind=2∨l.kind=3∨l.kind=4∨l.kind=5∨l.kind=6∨l.kind=7:=by omega
 rcases Kc with Oz|Oz|Oz|Oz|Oz|Oz|Oz|Oz
 ·have hf:handle n l=YO n l:=by unfold handle;simp[Oz]
  rw[hf]
  have Ai:=fun (K:Value→Hp→Prop)=>lk K (.func (.func 93) #[] #[]) (by rw[Oz,hM];rfl)
  have cc:=Da T _ o wb i nb Z4 a n Yy fl bad told l _ d2 N2 W2 gY Yk lX lD CY
  unfold YP Zn at cc
  simp -implicitDefEqProofs only[go_sem,↓reduceIte,e0,u0,u1,eM,q0,sz,Ai]
  refine cc.use ?_
  rintro v' h' ⟨o',a',Xl,k,N',W'⟩
  simp -implicitDefEqProofs only[go_sem,↓reduceIte]
  exact⟨o',a',Xl,(ZC k2).trans (k.mono fun t q=>by rcases q with rfl|rfl|rfl<;>simp[Xu,Tg.of]),N',by rw[De,List.append_nil];exact W'⟩
 ·have hf:handle n l=Yr n l:=by unfold handle;simp[Oz]
  rw[hf]
  have Ai:=fun (K:Value→Hp→Prop)=>lk K (.func (.func 94) #[] #[]) (by rw[Oz,hM];rfl)
  have cc:=NH T _ o wb i nb Z4 a n Yy fl bad told l _ d2 N2 W2 gY hk hl ht hq hw hv
  unfold YP Zn at cc
  simp -implicitDefEqProofs only[go_sem,↓reduceIte,e0,u0,u1,eM,q0,sz,Ai]
  refine cc.use ?_
  rintro v' h' ⟨o',a',Xl,k,N',W'⟩
  simp -implicitDefEqProofs only[go_sem,↓reduceIte]
  exact⟨o',a',Xl,(ZC k2).trans (k.mono fun t q=>Dc q),N',by rw[NJ,List.append_nil];exact W'⟩
 ·have hf:handle n l=asked n l:=by unfold handle;simp[Oz]
  rw[hf]
  have Ai:=fun (K:Value→Hp→Prop)=>lk K (.func (.func 95) #[] #[]) (by rw[Oz,hM];rfl)
  have cc:=mN T _ o wb i nb Z4 a n Yy fl bad told l _ d2 N2 W2 gY Yk lX lD CY
  unfold YP Zn at cc
  simp -implicitDefEqProofs only[go_sem,↓reduceIte,e0,u0,u1,eM,q0,sz,Ai]
  refine cc.use ?_
  rintro v' h' ⟨o',a',Xl,k,N',W'⟩
  simp -implicitDefEqProofs only[go_sem,↓reduceIte]
  exact⟨o',a',Xl,(ZC k2).trans (k.mono fun t q=>by rcases q with rfl|rfl|rfl<;>simp[Xu,Tg.of]),N',by rw[mR,List.append_nil];exact W'⟩
 ·have hf:handle n l=Yr n l:=by unfold handle;simp[Oz]
  rw[hf]
  have Ai:=fun (K:Value→Hp→Prop)=>lk K (.func (.func 94) #[] #[]) (by rw[Oz,hM];rfl)
  have cc:=NH T _ o wb i nb Z4 a n Yy fl bad told l _ d2 N2 W2 gY hk hl ht hq hw hv
  unfold YP Zn at cc
  simp -implicitDefEqProofs only[go_sem,↓reduceIte,e0,u0,u1,eM,q0,sz,Ai]
  refine cc.use ?_
  rintro v' h' ⟨o',a',Xl,k,N',W'⟩
  simp -implicitDefEqProofs only[go_sem,↓reduceIte]
  exact⟨o',a',Xl,(ZC k2).trans (k.mono fun t q=>Dc q),N',by rw[NJ,List.append_nil];exact W'⟩
 ·have hf:handle n l=⟨add n l.v.cm,[],[]⟩:=by unfold handle;simp[Oz]
  rw[hf]
  have Ai:=fun (K:Value→Hp→Prop)=>lk K (.func (.func 96) #[] #[]) (by rw[Oz,hM];rfl)
  have cc:=mP T _ o wb i nb a n l _ d2 N2 gY hq (by omega)
  unfold YP Zn at cc
  simp -implicitDefEqProofs only[go_sem,↓reduceIte,e0,u0,u1,eM,q0,sz,Ai]
  refine cc.use ?_
  rintro v' h' ⟨o',a',k,N'⟩
  simp -implicitDefEqProofs only[go_sem,↓reduceIte]
  exact⟨o',a',Yy,(ZC k2).trans (k.mono fun t q=>by rcases q with rfl|rfl<;>simp[Xu,Tg.of]),N',by rw[List.append_nil,List.append_nil];exact W2.Zd k (by rintro t (rfl|rfl)<;>simp[Tg.of])⟩
 ·have hf:handle n l=UR n l:=by unfold handle;simp[Oz]
  rw[hf]
  have Ai:=fun (K:Value→Hp→Prop)=>lk K (.func (.func 97) #[] #[]) (by rw[Oz,hM];rfl)
  have cc:=mQ T _ o wb i nb Z4 a n Yy fl bad told l _ d2 N2 W2 gY Yk
  unfold YP Zn at cc
  simp -implicitDefEqProofs only[go_sem,↓reduceIte,e0,u0,u1,eM,q0,sz,Ai]
  refine cc.use ?_
  rintro v' h' ⟨o',a',Xl,k,N',W'⟩
  simp -implicitDefEqProofs only[go_sem,↓reduceIte]
  exact⟨o',a',Xl,(ZC k2).trans (k.mono fun t q=>by rcases q with rfl|rfl|rfl<;>simp[Xu,Tg.of]),N',by rw[mS,List.append_nil];exact W'⟩
 ·have hf:handle n l=Ui n l.v.slot l.v.cm:=by unfold handle;simp[Oz]
  rw[hf]
  have Ai:=fun (K:Value→Hp→Prop)=>lk K (.func (.func 98) #[] #[]) (by rw[Oz,hM];rfl)
  have cc:=fL T _ o wb i nb Z4 a n Yy fl bad told l _ d2 N2 W2 gY hk hl ht hq hw
  unfold YP Zn at cc
  simp -implicitDefEqProofs only[go_sem,↓reduceIte,e0,u0,u1,eM,q0,sz,Ai]
  refine cc.use ?_
  rintro v' h' ⟨o',a',Xl,k,N',W'⟩
  simp -implicitDefEqProofs only[go_sem,↓reduceIte]
  exact⟨o',a',Xl,(ZC k2).trans (k.mono fun t q=>Kb q),N',by rw[mT,List.append_nil];exact W'⟩
 ·have hf:handle n l=⟨notes n l,[],[]⟩:=by unfold handle;simp[Oz]
  rw[hf]
  have Ai:=fun (K:Value→Hp→Prop)=>lk K (.func (.func 99) #[] #[]) (by rw[Oz,hM];rfl)
  have cc:=Dd T _ o wb i nb a n l _ d2 N2 gY
  unfold YP Zn at cc
  simp -implicitDefEqProofs only[go_sem,↓reduceIte,e0,u0,u1,eM,q0,sz,Ai]
  refine cc.use ?_
  rintro v' h' ⟨k,N'⟩
  simp -implicitDefEqProofs only[go_sem,↓reduceIte]
  exact⟨o,a,Yy,(ZC k2).trans (k.mono fun t q=>by rw[q];simp[Xu,Tg.of]),N',by rw[List.append_nil,List.append_nil];exact W2.Zd k (by rintro t rfl;simp[Tg.of])⟩
@[go_sem] theorem Zm0 (x:Cm):List.take 5 x.C=x.C:=rfl
def Ul (n:Nd) (r:Qd) (x:Cm):Int:=match free n r x with|some s=>(s:Int)|none=>0
theorem YA.rr {o:Ow} {i:Nat} {h:Hp} {ra:RA} {r:Qd} (s:YA o i h ra r):rd h ⟨ra.rb,0,none⟩ 2=some (X1 r.b)∧hc h ⟨ra.rb,2,none⟩=some (.map (some ra.pb))∧hc h ⟨ra.rb,3,none⟩=some (.bool r.begun)∧hc h ⟨ra.rb,4,none⟩=some (.map (some ra.qb))∧hc h ⟨ra.rb,5,none⟩=some (.map (some ra.vb)):=
 ⟨by rw[Z3 s.ZD.2 (by simp[Ab])];rfl,Zg s.ZD.2,Zg s.ZD.2,Zg s.ZD.2,Zg s.ZD.2⟩
set_option maxHeartbeats 1000000 in
theorem sA (T:World) (h:Hp) (o:Ow) (wb i nb:Nat) (a:NA) (n:Nd) (ra:RA) (r:Qd) (x:Cm) (d:Q3 o h) (N:ZH o h wb i nb a n) (R:YA o i h ra r) (hl:n.log.length≤1000000000000) :
  Zc Tryz.prog T 121 #[Zn nb,Zn ra.rb,Wr x] h fun v' h'=>v'=.tuple #[.int .i64 (Ul n r x),.bool (free n r x).isSome]∧Zf h.size h h':=by
 have WS:=Za N.ZD.2
 have Ad:=Za R.ZD.2
 refine Zc.XJ (args:=[_,_,_]) Tryz.func121 rfl rfl rfl rfl ?_
 unfold Zn Wr
 obtain⟨h1,Yv⟩:=Zy (h.push (.cells x.C.toArray 49):Hp)
 have k1:Kp Qe o h o h1:=by rw[Yv];exact ZW d _
 have b1:Zf h.size h h1:=by rw[Yv];exact Zf.push (Nat.le_refl _) _
 have x1:ZK o h1 h.size (.cells x.C.toArray 49):=⟨d _ (Nat.le_refl _),by rw[Yv];exact Zb⟩
 have e0:=Yv.symm
 have N1:=N.still k1
 have R1:=R.Zd k1 (fun _ _ q=>q)
 have P1:=Zx N1.ZD.2 N1.pt.store.len
 have P0:=Zx N.ZD.2 N.pt.store.len
 obtain⟨lp,lc,Ii,hlc⟩:=Ys.isSlice N1.pt.log
 have P11:=P1.log
 rw[Ii]at P11
 have Jv:=Za N1.ZD.2
 have e3:((n.log.length:Nat):Int)=(n.log.length:Int):=rfl
 simp -implicitDefEqProofs only[go_sem,↓reduceIte,e0,P11]
 refine VS.ZV (fun F g=>Zf h1.size h1 g∧F 0=.pointer (some ⟨nb,0,none⟩)∧F 1=.pointer (some ⟨ra.rb,0,none⟩)∧F 5=.pointer (some ⟨h.size,0,none⟩)∧∃s:Nat,F 8=.int .i64 s∧n.log.length≤s∧Ue n r x (40-n.log.length) n.log.length=Ue n r x (40-s) s)
  (fun F _=>40-(vi (F 8)).toNat) rfl ⟨Zf.refl _ _,rfl,rfl,rfl,n.log.length,rfl,Nat.le_refl _,rfl⟩ ?_
 rintro F g ⟨hg,f0,f1,f5,s,f8,hs,he⟩
 have kg:=ZB k1.ZU hg
 have N2:=N1.still kg
 have R2:=R1.Zd kg (fun _ _ q=>q)
 have y1:=x1.Zd kg
 have P2:=Zx N2.ZD.2 N2.pt.store.len
 obtain⟨_,_,_,q4,_⟩:=R2.rr
 have gs:=hg.size
 have JA:=Za N2.ZD.2
 have Db:=Za R2.ZD.2
 have bb:Zf h.size h g:=b1.trans (hg.mono b1.size)
 have eF:free n r x=Ue n r x (40-s) s:=he
 by_cases ZA:s<40
 ·have ZI:(s:Int)<40:=by omega
  obtain⟨f,hf⟩:∃f,40-s=f+1:=⟨39-s,by omega⟩
  have ef:f=40-(s+1):=by omega
  rw[hf]at eF he
  have Hc:=fun (K:Value→Hp→Prop)=>Yn (K:=K) (n:=(s:Int)) (c:=true) Vp PH R2.prop.2
  rw[Xf]at Hc
  have WN:=fun (K:Value→Hp→Prop) (z:Obj)=>Yn (h:=g.push z) (K:=K) (n:=(s:Int)) (c:=true) Vp PH ((Zq (Za N2.pt.known.2)).trans N2.pt.known.2)
  simp only[Xf]at WN
  have fz:∀c:Cm,rd g ⟨h.size,0,none⟩ 5=some x.C:=fun _=>Zo y1.2 rfl
  have fx:rd g ⟨h.size,0,none⟩ 5=some x.C:=Zo y1.2 rfl
  have uF:=Za y1.2
  have n1:¬h.size=g.size:=by omega
  have n2:¬h.size=g.size+1:=by omega
  have n3:¬nb=g.size:=by omega
  unfold Ue at eF
  cases c1:Y9 r.prop (s:Int) with
  | none=>
   simp only[c1,Option.map_none,Option.getD_none,Option.isSome_none,↓reduceIte]at Hc
   cases c2:Y9 n.known (s:Int) with
   | none=>
    simp only[c2,Option.map_none,Option.getD_none,Option.isSome_none,↓reduceIte]at WN
    have e4:free n r x=some s:=by rw[eF,if_neg (by rw[c1,c2];simp),if_pos ⟨c1,c2⟩]
    have e5:Ul n r x=s:=by unfold Ul;rw[e4]
    rw[e5,e4]
    simp -implicitDefEqProofs only[go_sem,↓reduceIte,f0,f1,f5,f8,ZI,q4,Hc,WN,P2.known,n1,n2,n3,fx,Wr,Option.isSome_some]
    exact (bb.Yf (by omega) _).Yf (by simp;omega) _
   | some z=>
    simp only[c2,Option.map_some,Option.getD_some,Option.isSome_some,↓reduceIte]at WN
    by_cases qz:z=x
    ·have e4:free n r x=none:=by rw[eF,if_pos (.inr (by rw[c2,qz]))]
     have e5:Ul n r x=0:=by unfold Ul;rw[e4]
     rw[e5,e4]
     simp -implicitDefEqProofs only[go_sem,↓reduceIte,f0,f1,f5,f8,ZI,q4,Hc,WN,P2.known,n1,n2,n3,fx,Wr,qz,Option.isSome_none]
     exact (bb.Yf (by omega) _).Yf (by simp;omega) _
    ·have qz':¬some z=some x:=fun e=>qz (Option.some.inj e)
     simp -implicitDefEqProofs only[go_sem,↓reduceIte,f0,f1,f5,f8,ZI,q4,Hc,WN,P2.known,n1,n2,n3,fx,Wr,qz]
     unfold Y6
     refine⟨⟨(hg.Yf (by omega) _).Yf (by simp;omega) _,f0,f1,f5,s+1,rfl,by omega,?_⟩,?_⟩
     ·rw[he,←ef,Ue,if_neg (by rw[c1,c2];simp[qz]),if_neg (by rw[c2];simp)]
     ·simp only[vi,Zj,↓reduceIte,f8];omega
  | some y=>
   simp only[c1,Option.map_some,Option.getD_some,Option.isSome_some,↓reduceIte]at Hc
   by_cases qy:y=x
   ·have e4:free n r x=none:=by rw[eF,if_pos (.inl (by rw[c1,qy]))]
    have e5:Ul n r x=0:=by unfold Ul;rw[e4]
    rw[e5,e4]
    cases c2:Y9 n.known (s:Int) with
    | none=>
     simp only[c2,Option.map_none,Option.getD_none,Option.isSome_none,↓reduceIte]at WN
     simp -implicitDefEqProofs only[go_sem,↓reduceIte,f0,f1,f5,f8,ZI,q4,Hc,WN,P2.known,n1,n2,n3,fx,Wr,qy,Option.isSome_none]
     exact (bb.Yf (by omega) _).Yf (by simp;omega) _
    | some z=>
     simp only[c2,Option.map_some,Option.getD_some,Option.isSome_some,↓reduceIte]at WN
     simp -implicitDefEqProofs only[go_sem,↓reduceIte,f0,f1,f5,f8,ZI,q4,Hc,WN,P2.known,n1,n2,n3,fx,Wr,qy,Option.isSome_none]
     exact (bb.Yf (by omega) _).Yf (by simp;omega) _
   ·cases c2:Y9 n.known (s:Int) with
    | none=>
     simp only[c2,Option.map_none,Option.getD_none,Option.isSome_none,↓reduceIte]at WN
     simp -implicitDefEqProofs only[go_sem,↓reduceIte,f0,f1,f5,f8,ZI,q4,Hc,WN,P2.known,n1,n2,n3,fx,Wr,qy]
     unfold Y6
     refine⟨⟨(hg.Yf (by omega) _).Yf (by simp;omega) _,f0,f1,f5,s+1,rfl,by omega,?_⟩,?_⟩
     ·rw[he,←ef,Ue,if_neg (by rw[c1,c2];simp[qy]),if_neg (by rw[c1];simp)]
     ·simp only[vi,Zj,↓reduceIte,f8];omega
    | some z=>
     simp only[c2,Option.map_some,Option.getD_some,Option.isSome_some,↓reduceIte]at WN
     by_cases qz:z=x
     ·have e4:free n r x=none:=by rw[eF,if_pos (.inr (by rw[c2,qz]))]
      have e5:Ul n r x=0:=by unfold Ul;rw[e4]
      rw[e5,e4]
      simp -implicitDefEqProofs only[go_sem,↓reduceIte,f0,f1,f5,f8,ZI,q4,Hc,WN,P2.known,n1,n2,n3,fx,Wr,qy,qz,Option.isSome_none]
      exact (bb.Yf (by omega) _).Yf (by simp;omega) _
     ·
      simp -implicitDefEqProofs only[go_sem,↓reduceIte,f0,f1,f5,f8,ZI,q4,Hc,WN,P2.known,n1,n2,n3,fx,Wr,qy,qz]
      unfold Y6
      refine⟨⟨(hg.Yf (by omega) _).Yf (by simp;omega) _,f0,f1,f5,s+1,rfl,by omega,?_⟩,?_⟩
      ·rw[he,←ef,Ue,if_neg (by rw[c1,c2];simp[qy,qz]),if_neg (by rw[c1];simp)]
      ·simp only[vi,Zj,↓reduceIte,f8];omega
 ·have YF:¬(s:Int)<40:=by omega
  have e4:free n r x=none:=by rw[eF,show 40-s=0 by omega];rfl
  have e5:Ul n r x=0:=by unfold Ul;rw[e4]
  rw[e5,e4]
  simp -implicitDefEqProofs only[go_sem,↓reduceIte,f8,YF,bb,Option.isSome_none]
def ze (B:Nat) (o:Ow) (h0 h:Hp) (u:Value) (LL:List (List Vt)):Prop:=
 ∃ws:List Value,J9 B 103 1 h u LL.length ws∧DN (fun w l=>UZ o h0 w l∧l.length≤1000000) ws LL
def Aj (o:Ow) (h:Hp) (u:Value) (LL:List (List Vt)):Prop:=∃p c,u=.slice p LL.length c∧(LL≠[]→∃b off,p=some ⟨b,off,none⟩∧b<h.size∧o b=none∧∀i (hi:i<LL.length),∃w,hc h ⟨b,off+i,none⟩=some w∧UZ o h w LL[i]∧LL[i].length≤1000000)
theorem Aj.vss {o:Ow} {h:Hp} {u:Value} {LL:List (List Vt)} (s:Aj o h u LL):Vss h u LL:=by
 obtain⟨p,c,hv,hh⟩:=s
 refine⟨p,c,hv,fun Yq=>?_⟩
 obtain⟨b,off,h1,h2,h3,h4⟩:=hh Yq
 refine⟨b,off,h1,h2,fun i hi=>?_⟩
 obtain⟨w,g1,g2,g3⟩:=h4 i hi
 exact⟨w,g1,g2.ts,by omega⟩
theorem Aj.Zd {S:Tg→Prop} {o o':Ow} {h h':Hp} {u:Value} {LL:List (List Vt)} (s:Aj o h u LL) (k:Kp S o h o' h'):Aj o' h' u LL:=by
 obtain⟨p,c,hv,hh⟩:=s
 refine⟨p,c,hv,fun Yq=>?_⟩
 obtain⟨b,off,h1,h2,h3,h4⟩:=hh Yq
 obtain⟨q1,q2⟩:=k.Zd b h2 fun t ht=>by rw[h3]at ht;cases ht
 refine⟨b,off,h1,Nat.lt_of_lt_of_le h2 k.size,q2.trans h3,fun i hi=>?_⟩
 obtain⟨w,g1,g2,g3⟩:=h4 i hi
 refine⟨w,?_,g2.Zd k,g3⟩
 unfold hc at g1 ⊢
 rw[q1];exact g1
theorem ze.Zm1 {o:Ow} {h0 h:Hp} {u:Value} {LL:List (List Vt)} (s:ze h0.size o h0 h u LL) (d:Q3 o h0) (hb:Zf h0.size h0 h):Aj o h u LL:=by
 obtain⟨ws,own,al⟩:=s
 have sE:ws.length=LL.length:=by
  clear own
  induction al with
  | nil=>rfl
  | cons _ _ ih=>simp[ih]
 have Zm2:∀i (hi:i<LL.length),∃w,ws[i]? = some w∧UZ o h0 w LL[i]∧LL[i].length≤1000000:=by
  clear own sE
  induction al with
  | nil=>intro i hi;simp at hi
  | cons HJ _ ih=>
   intro i hi
   cases i with
   | zero=>exact⟨_,rfl,HJ⟩
   | succ i=>exact ih i (by simpa using hi)
 obtain⟨p,c,hv,hl,YL⟩:=own.sl
 refine⟨p,c,hv,fun Yq=>?_⟩
 have MF:0<LL.length:=List.length_pos_iff.2 Yq
 obtain⟨b,off,rfl,Ix⟩:=YL (by intro e;rw[e]at sE;simp at sE;omega)
 have hbB:h0.size≤b:=by
  refine own.ZD b ?_
  rcases own with⟨⟨q,h1⟩,h2,h3⟩|⟨b',cap,sp,_,h1,_,_,_,hm⟩
  ·subst h3;simp at sE;omega
  ·rw[hv]at h1
   simp only[Value.slice.injEq,Option.some.injEq,Addr.mk.injEq]at h1
   obtain⟨⟨rfl,_,_⟩,h12,h13⟩:=h1
   rw[hv]
   have:c≠0:=by omega
   simp[ZL,this]
 refine⟨b,off,rfl,QT (Ix 0 (by omega)),d b hbB,fun i hi=>?_⟩
 obtain⟨w,h1,h2,h3⟩:=Zm2 i hi
 have ad:i<ws.length:=by omega
 rw[List.getElem?_eq_getElem ad]at h1
 exact⟨w,by rw[Ix i ad,Option.some.inj h1],h2.Zd (ZB d hb),h3⟩
theorem Df {α β:Type} {R:α→β→Prop} {l:List α} {k:List β} (s:DN R l k) {a:α} {b:β} (h:R a b):DN R (l++[a]) (k++[b]):=by
 induction s with
 | nil=>exact .cons h .nil
 | cons x _ ih=>exact .cons x ih
theorem fN (l:List Vt) (v:Vt):EW (l++[v])=if EW l<v.slot then v.slot else EW l:=by
 unfold EW;rw[List.foldl_append];rfl
theorem YA.bB {o:Ow} {i:Nat} {h:Hp} {ra:RA} {r:Qd} (s:YA o i h ra r) (d:Q3 o h) {k:Int} {x:Cm} :
  Kp (fun t=>t=.prop i) o h o (h.setIfInBounds ra.qb (Xg (ins (Ua Wr r.prop) k (.agg x.C.toArray))))∧YA o i (h.setIfInBounds ra.qb (Xg (ins (Ua Wr r.prop) k (.agg x.C.toArray)))) ra { r with prop:=ins r.prop k x }:=by
 have kk:Kp (fun t=>t=.prop i) o h o (h.setIfInBounds ra.qb (Xg (ins (Ua Wr r.prop) k (.agg x.C.toArray)))):=(Kp.refl d (fun t=>t=.prop i)).set s.prop.1 rfl _
 exact⟨kk,s.ZD.Zd kk (by intro e;cases e),s.prom.Zd kk (by intro e;cases e),s.TV.Zd kk,⟨s.prop.1,by rw[Zt s.prop.2,Tv];rfl⟩,s.Jk.Zd kk (by intro e;cases e),s.VU.Zd kk (fun _ e=>by cases e),s.keys⟩
theorem VV (r:Qd):(XE r).length=5:=rfl
theorem Hd (r:Qd) (m:Nat) (hm:m<(XE r).length):(XE r)[m]=(Y9 r.prom (m:Int)).getD []:=by
 simp only[XE,List.getElem_map,List.getElem_range]
theorem YA.list {o:Ow} {i:Nat} {h:Hp} {ra:RA} {r:Qd} (s:YA o i h ra r) (hp:∀x∈r.prom,x.2.length≤1000000) (m:Int):∃p c vs,(Y9 ra.pv m).getD (.slice none 0 0)=.slice p vs.length c∧(Y9 r.prom m).getD []=vs∧UZ o h (.slice p vs.length c) vs∧vs.length≤1000000:=by
 rcases s.TV.Y9 m with⟨h1,h2⟩|⟨w,vs,h1,h2,iv⟩
 ·exact⟨none,0,[],by rw[h1];rfl,by rw[h2];rfl,Im.nil _ _ _ _,by simp⟩
 ·obtain⟨p,c,rfl⟩:=iv.isSlice
  exact⟨p,c,vs,by rw[h1];rfl,by rw[h2];rfl,iv,hp _ (Mj h2)⟩
set_option maxHeartbeats 1000000 in
theorem mU (T:World) (h:Hp) (o:Ow) (wb i nb:Nat) (a:NA) (n:Nd) (ra:RA) (r:Qd) (d:Q3 o h) (N:ZH o h wb i nb { a with Zi:=some ra } { n with Zi:=some r }) (hp:∀x∈r.prom,x.2.length≤1000000) (hs:∀x∈r.prom,∀v∈x.2,v.slot≤1000000) (hl:n.log.length≤1000000000000) :
  Zc Tryz.prog T 120 #[Zn nb,Zn ra.rb] h fun v' h'=>∃ra',ra'.rb=ra.rb∧Kp (Xz i) o h o h'∧ZH o h' wb i nb { a with Zi:=some ra' } { n with Zi:=some (TT n r) }:=by
 have WS:=Za N.ZD.2
 have R:YA o i h ra r:=N.pt.Zi
 have Ad:=Za R.ZD.2
 refine Zc.Zh (args:=[_,_]) Tryz.func120 rfl rfl rfl rfl ?_
 unfold Zn
 simp -implicitDefEqProofs only[go_sem,↓reduceIte]
 refine VS.ZV (fun F g=>Zf h.size h g∧F 0=.pointer (some ⟨nb,0,none⟩)∧F 1=.pointer (some ⟨ra.rb,0,none⟩)∧∃m:Nat,m≤5∧F 12=.int .i64 m∧ze h.size o h g (F 4) ((XE r).take m)∧F 5=.int .i64 (EW ((XE r).take m).flatten))
  (fun F _=>5-(vi (F 12)).toNat) rfl ⟨Zf.refl _ _,rfl,rfl,0,by omega,rfl,⟨[],J9.nil _ _ _ _,.nil⟩,rfl⟩ ?_
 rintro F g ⟨hg,f0,f1,m,hm,f12,hG,f5⟩
 have kg:=ZB d hg
 have N1:=N.still kg
 have R1:=R.Zd kg (fun _ _ q=>q)
 obtain⟨_,q2,q3,q4,_⟩:=R1.rr
 have gs:=hg.size
 by_cases ZA:m<5
 ·have ZI:(m:Int)<5:=by omega
  obtain⟨pm,cm,vs,e1,e2,iv,lX⟩:=R1.list hp (m:Int)
  have hm5:m<(XE r).length:=by rw[VV];exact ZA
  have e3:(XE r)[m]=vs:=by rw[Hd,e2]
  have e4:(XE r).take (m+1)=(XE r).take m++[vs]:=by rw[Ye _ m hm5,e3]
  have lk:=fun (G:Hp) (hG:Zf g.size g G) (K:Value→Hp→Prop)=>Yn (h:=G) (K:=K) (n:=(m:Int)) (c:=false) Nw mB (hG.get (Za R1.prom.2) R1.prom.2)
  simp only[e1,Bool.false_eq_true,if_false]at lk
  have lk0:=lk g (Zf.refl _ _)
  obtain⟨ws,own,al⟩:=hG
  obtain⟨p4,c4,hF4⟩:∃p c,F 4=.slice p ((XE r).take m).length c:=by
   obtain⟨p,c,h1,_⟩:=own.sl;exact⟨p,c,h1⟩
  have ml:((XE r).take m).length=m:=by rw[List.length_take,VV];omega
  rw[ml]at hF4 own
  rw[hF4]at own
  simp -implicitDefEqProofs only[go_sem,↓reduceIte,f0,f1,f5,f12,hF4,ZI,q2,lk0]
  have src:Sl 1 (g.push (.cells [.slice pm vs.length cm].toArray 103)) (.slice (some ⟨g.size,0,none⟩) 1 1) 1 [.slice pm vs.length cm]:=Sl.made (by simp) 1
  refine OW (E:=103) (n:=1) (B:=h.size) (bytes:=24) (m:=m) (k:=1) (cs:=ws) xq Tryz.underlying240 Zco Zcq rfl Zcp (own.push _) (by simp;omega) src rfl (by omega) (by omega) ?_
  intro u3 g3 Zeo Zm4 _
  have Ak:Zf h.size h g3:=(hg.Yf (by omega) _).trans (Zm4.Z7 (by simp;omega) (own.push (.cells [.slice pm vs.length cm].toArray 103)).ZD)
  have kg3:=ZB d Ak
  have R3:=R.Zd kg3 (fun _ _ q=>q)
  obtain⟨_,q23,_,_,_⟩:=R3.rr
  have lk3:=fun (K:Value→Hp→Prop)=>Yn (K:=K) (n:=(m:Int)) (c:=false) Nw mB R3.prom.2
  simp only[e1,Bool.false_eq_true,if_false]at lk3
  obtain⟨p5,c5,rfl⟩:∃p c,u3=.slice p (m+1) c:=by obtain⟨p,c,h1,_⟩:=Zeo.sl;exact⟨p,c,h1⟩
  have iv0:UZ o h (.slice pm vs.length cm) vs:=by
   obtain⟨pm',cm',vs',x1,x2,iv',_⟩:=R.list hp (m:Int)
   rw[e1]at x1
   rw[e2]at x2
   subst x2
   rw[←x1]at iv'
   exact iv'
  have al3:DN (fun w l=>UZ o h w l∧l.length≤1000000) (ws++[.slice pm vs.length cm]) ((XE r).take m++[vs]):=by
   exact Df al ⟨iv0,lX⟩
  simp -implicitDefEqProofs only[go_sem,↓reduceIte,f0,f1,f5,f12,ZI,q23,lk3]
  obtain⟨LL,hLL⟩:=Zy (((XE r).take m).flatten)
  have qZ:((XE r).take (m+1)).flatten=LL++vs:=by rw[e4,List.flatten_append,←hLL];simp
  rw[←hLL]at f5
  have ivo:=fun g' (hb:Zf h.size h g')=>L4 (iv0.Zd (ZB d hb)).ts
  refine VS.ZV (fun F' g'=>Zf h.size h g'∧F' 0=.pointer (some ⟨nb,0,none⟩)∧F' 1=.pointer (some ⟨ra.rb,0,none⟩)∧F' 12=.int .i64 m∧F' 29=.slice pm vs.length cm∧F' 30=.int .i64 vs.length∧F' 4=.slice p5 (m+1) c5∧J9 h.size 103 1 g' (.slice p5 (m+1) c5) (m+1) (ws++[.slice pm vs.length cm])∧∃j:Nat,j≤vs.length∧F' 31=.int .i64 j∧F' 5=.int .i64 (EW (LL++vs.take j)))
   (fun F' _=>vs.length-(vi (F' 31)).toNat) rfl ⟨Ak,f0,f1,f12,rfl,rfl,rfl,Zeo,0,by omega,rfl,by rw[List.take_zero,List.append_nil];exact f5⟩ ?_
  rintro F2 g4 ⟨PN,f0,f1,f12,f29,f30,f4,Zep,j,hj,f31,f5⟩
  by_cases D3:j<vs.length
  ·have Zm5:(j:Int)<vs.length:=by omega
   obtain⟨pp,cc,hv1,lu⟩:=ivo g4 PN
   obtain⟨bb,oo,hpp,UX,PO⟩:=lu (by intro e;rw[e]at D3;simp at D3)
   simp only[Value.slice.injEq]at hv1
   obtain⟨rfl,_,rfl⟩:=hv1
   subst hpp
   have r1:=PO j D3
   unfold Zm at r1
   simp -implicitDefEqProofs only[go_sem,↓reduceIte,f0,f1,f12,f29,f30,f4,f31,f5,Zm5,r1]
   unfold Y6
   refine⟨⟨PN.Yf PN.size _,f0,f1,f12,f29,f30,f4,Zep.push _,j+1,D3,rfl,?_⟩,?_⟩
   ·show Value.int .i64 _=_
    rw[Ye vs j D3,←List.append_assoc,fN]
   ·simp only[vi,Zj,↓reduceIte,f31];omega
  ·have YF:¬(j:Int)<vs.length:=by omega
   obtain rfl:j=vs.length:=by omega
   rw[List.take_length]at f5
   simp -implicitDefEqProofs only[go_sem,↓reduceIte,f30,f31,YF,f12]
   unfold Y6
   refine⟨⟨PN,f0,f1,m+1,ZA,rfl,⟨_,?_,by rw[e4];exact al3⟩,by rw[qZ];exact f5⟩,?_⟩
   ·show J9 _ _ _ _ (F2 4) _ _
    rw[f4,e4,List.length_append,ml]
    exact Zep
   ·simp only[vi,Zj,↓reduceIte,f12];omega
 ·have YF:¬(m:Int)<5:=by omega
  obtain rfl:m=5:=by omega
  have ht5:(XE r).take 5=XE r:=by rw[List.take_of_length_le];exact Nat.le_of_eq (VV r)
  rw[ht5]at hG f5
  have P1:=Zx N1.ZD.2 N1.pt.store.len
  have Jv:=Za N1.ZD.2
  obtain⟨lp,lc,Ii,_⟩:=Ys.isSlice N1.pt.log
  have P11:=P1.log
  rw[Ii]at P11
  have fO:=hG.Zm1 d hg
  obtain⟨u,hu⟩:=Zy (F 4)
  rw[←hu]at fO hG
  obtain⟨top,eI⟩:=Zy (EW (XE r).flatten)
  rw[←eI]at f5
  have htl:top≤1000000:=by
   rw[eI]
   have key:∀(l:List Vt) (t:Int),t≤1000000→(∀v∈l,v.slot≤1000000)→l.foldl (fun t v=>if t<v.slot then v.slot else t) t≤1000000:=by
    intro l
    induction l with
    | nil=>intro t ht _;exact ht
    | cons x l ih=>
     intro t ht hh
     refine ih _ ?_ (fun v hv=>hh v (List.mem_cons_of_mem _ hv))
     show (if t<x.slot then x.slot else t)≤1000000
     split
     ·exact hh x List.mem_cons_self
     ·exact ht
   refine key _ _ (by omega) ?_
   intro v hv
   simp only[List.mem_flatten]at hv
   obtain⟨l,kj,Ht⟩:=hv
   obtain⟨k,hk,rfl⟩:=List.getElem_of_mem kj
   rw[Hd]at Ht
   cases hx:Y9 r.prom (k:Int) with
   | none=>rw[hx]at Ht;cases Ht
   | some y=>rw[hx]at Ht;exact hs _ (Mj hx) v Ht
  clear hG
  obtain⟨LL,hLL⟩:=Zy (XE r)
  rw[←hLL]at fO eI
  obtain⟨C,hC⟩:=Zy ((top+1).toNat-n.log.length)
  have By:TT n r = { r with prop:=(List.range' n.log.length C).foldl (QI n LL) r.prop,begun:=true }:=by
   unfold TT;rw[hC,eI,hLL]
  rw[By]
  have hu':=hu.symm
  simp -implicitDefEqProofs only[go_sem,↓reduceIte,f0,f1,f5,f12,YF,P11]
  refine VS.ZV (fun F' g'=>Kp (Xz i) o h o g'∧F' 0=.pointer (some ⟨nb,0,none⟩)∧F' 1=.pointer (some ⟨ra.rb,0,none⟩)∧F' 4=u∧F' 5=.int .i64 top∧Aj o g' u LL∧∃k:Nat,k≤C∧F' 9=.int .i64 ((n.log.length+k:Nat):Int)∧ZH o g' wb i nb { a with Zi:=some ra } { n with Zi:=some { r with prop:=(List.range' n.log.length k).foldl (QI n LL) r.prop } })
   (fun F' _=>n.log.length+C-(vi (F' 9)).toNat) rfl ⟨ZC kg,f0,f1,hu',f5,fO,0,by omega,rfl,N1⟩ ?_
  rintro F2 g2 ⟨K2,f0,f1,f4,f5,fO,k,hk,f9,N2⟩
  obtain⟨pk,qI⟩:=Zy ((List.range' n.log.length k).foldl (QI n LL) r.prop)
  rw[←qI]at N2
  have R2:YA o i g2 ra { r with prop:=pk }:=N2.pt.Zi
  obtain⟨_,_,_,q4,_⟩:=R2.rr
  have P2:=Zx N2.ZD.2 N2.pt.store.len
  have JA:=Za N2.ZD.2
  have Db:=Za R2.ZD.2
  by_cases hkc:k<C
  ·have hle:(((n.log.length+k:Nat):Int))≤top:=by omega
   have lk:=fun (K:Value→Hp→Prop)=>Yn (K:=K) (n:=((n.log.length+k:Nat):Int)) (c:=true) Vp PH N2.pt.known.2
   rw[Xf]at lk
   have YE:(List.range' n.log.length (k+1)).foldl (QI n LL) r.prop=QI n LL pk (n.log.length+k):=by
    rw[List.range'_concat,List.foldl_append,←qI];simp
   cases hx:Y9 n.known ((n.log.length+k:Nat):Int) with
   | some y=>
    have e6:QI n LL pk (n.log.length+k)=pk:=by unfold QI;rw[if_neg (by rw[hx];simp)]
    simp only[show ({ n with Zi:=some { r with prop:=pk } }:Nd).known=n.known from rfl,hx,Option.map_some,Option.getD_some,Option.isSome_some,↓reduceIte]at lk
    simp -implicitDefEqProofs only[go_sem,↓reduceIte,f0,f1,f4,f5,f9,hle,P2.known,lk,Wr]
    have kx:=ZW K2.ZU (.cells y.C.toArray 49)
    unfold Y6
    refine⟨⟨K2.push _,f0,f1,f4,f5,fO.Zd kx,k+1,hkc,?_,by rw[YE,e6];exact N2.still kx⟩,?_⟩
    ·show Value.int .i64 _=Value.int .i64 _
     congr 1
    ·simp only[vi,Zj,↓reduceIte,f9];omega
   | none=>
    have e6:QI n LL pk (n.log.length+k)=ins pk ((n.log.length+k:Nat):Int) (EX LL ((n.log.length+k:Nat):Int)):=by unfold QI;rw[if_pos hx]
    simp only[show ({ n with Zi:=some { r with prop:=pk } }:Nd).known=n.known from rfl,hx,Option.map_none,Option.getD_none,Option.isSome_none,↓reduceIte]at lk
    simp -implicitDefEqProofs only[go_sem,↓reduceIte,f0,f1,f4,f5,f9,hle,P2.known,lk]
    obtain⟨g3,Ak⟩:=Zy (g2.push (.cells oF.C.toArray 49):Hp)
    have kx:Kp Qe o g2 o g3:=by rw[Ak];exact ZW K2.ZU _
    rw[←Ak]
    have N3:=N2.still kx
    have R3:YA o i g3 ra { r with prop:=pk }:=N3.pt.Zi
    obtain⟨_,_,_,q43,_⟩:=R3.rr
    have Zm6:=Za R3.ZD.2
    have hv3:=fO.Zd kx
    have LLl:LL.length≤4611686018427387904:=by rw[hLL,VV];omega
    refine VS.z (g3.size) [12] (.p 0 (.p 1 (.p 2 (.q 3 (.p 4 (.p 5 (.p 6 (.s 7 (.p 8 (.p 9 (.p 10 (.p 11 (.w 12 .nil))))))))))))) mixed (by kernel_rfl) ?_
    simp -implicitDefEqProofs only[go_sem,↓reduceIte,f0,f1,f4,f5,f9,q43,Zm6]
    refine (qG T g3 u LL ((n.log.length+k:Nat):Int) hv3.vss LLl).use ?_
    rintro _ g4 ⟨qX,b4⟩
    unfold Gn at qX
    subst qX
    have k4:=ZB kx.ZU b4
    have N4:=N3.still k4
    have R4:YA o i g4 ra { r with prop:=pk }:=N4.pt.Zi
    have eC:Gm (if Sk ((n.log.length+k:Nat):Int) LL.flatten=0 then UO ((n.log.length+k:Nat):Int) LL.flatten else Tm)=(EX LL ((n.log.length+k:Nat):Int)).C:=by
     unfold EX;split<;>rfl
    rw[eC]
    simp -implicitDefEqProofs only[go_sem,↓reduceIte,b4,f0,f1,f4,f5,f9]
    rw[XK Vp R4.prop.2]
    obtain⟨k5,R5⟩:=R4.bB k4.ZU (k:=((n.log.length+k:Nat):Int)) (x:=EX LL ((n.log.length+k:Nat):Int))
    have k5':Kp (Xz i) o g4 o _:=k5.mono fun t q=>.inr (.inr (.inl q))
    simp -implicitDefEqProofs only[go_sem,↓reduceIte,f9]
    unfold Y6
    refine⟨⟨(K2.trans ((ZC kx).trans (ZC k4))).trans k5',f0,f1,f4,f5,(hv3.Zd k4).Zd k5',k+1,hkc,?_,?_⟩,?_⟩
    ·show Value.int .i64 _=Value.int .i64 _
     congr 1
    ·rw[YE,e6]
     exact⟨N4.ZD.Zd k5 (by intro e;cases e),ZT.J7 N4.pt k5' rfl rfl R5⟩
    ·simp only[vi,Zj,↓reduceIte,f9];omega
  ·have yf:¬(((n.log.length+k:Nat):Int))≤top:=by omega
   obtain rfl:k=C:=by omega
   obtain⟨g4,w4,h4⟩:∃g4,Jg g2 ⟨ra.rb,3,none⟩ (.bool true)=some g4∧g4=g2.setIfInBounds ra.rb (.cells (Ab { r with prop:=pk,begun:=true } ra).toArray 169):=by
    refine⟨_,?_,rfl⟩
    rw[Yp R2.ZD.2,if_pos ⟨by simp[Ab],rfl⟩];rfl
   simp -implicitDefEqProofs only[go_sem,↓reduceIte,f0,f1,f4,f5,f9,yf,Db,w4]
   have kk:Kp (fun t=>t=.Zi i) o g2 o g4:=by rw[h4];exact (Kp.refl K2.ZU (fun t=>t=.Zi i)).set R2.ZD.1 rfl _
   have R4:YA o i g4 ra { r with prop:=pk,begun:=true }:=⟨⟨R2.ZD.1,by rw[h4];exact Zt R2.ZD.2⟩,R2.prom.Zd kk (by intro e;cases e),R2.TV.Zd kk,R2.prop.Zd kk (by intro e;cases e),R2.Jk.Zd kk (by intro e;cases e),R2.VU.Zd kk (fun _ e=>by cases e),R2.keys⟩
   rw[←qI]
   refine⟨ra,rfl,K2.trans (kk.mono fun t q=>.inl q),N2.ZD.Zd kk (by intro e;cases e),ZT.J7 N2.pt (kk.mono fun t q=>.inl q) rfl rfl R4⟩
end Go.Proofs.YtpomedigibbeeaaGreatDoor
