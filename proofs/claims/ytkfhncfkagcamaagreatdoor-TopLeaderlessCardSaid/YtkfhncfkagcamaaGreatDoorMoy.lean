/- A node is asked for a promise. -/
import Derived.Test.YtkfhncfkagcamaaGreatDoorMop
import Derived.Test.YtkfhncfkagcamaaGreatDoorOpn
namespace Go.Proofs.YtkfhncfkagcamaaGreatDoor
open Go Go.V
set_option linter.unusedSimpArgs false
set_option linter.unusedVariables false
set_option maxRecDepth 100000
theorem fD (G:Hp) (X Y:Obj):((G.push X).push Y)[G.size]? = some X:=by rw[Zs (by simp),Zb]
theorem gs2 (G:Hp) (k:Nat) (X Y:Obj):((G.setIfInBounds k X).push Y)[G.size]? = some Y:=by
 have:=Zb (h:=G.setIfInBounds k X) (o:=Y);rwa [Array.size_setIfInBounds]at this
theorem gY (G:Hp) (X Y:Obj):((G.push X).push Y)[G.size+1]? = some Y:=by
 have:=Zb (h:=G.push X) (o:=Y);rwa [Array.size_push]at this
def aY (B:Nat) (g':Hp) (A C:Value) (p:XK) (l:List Vt) (b:XK):Prop:=
 ∃ka kc w1 w2,A=Zp ka∧C=Zp kc∧B≤ka∧B≤kc∧g'[ka]? = some (.cells (YD (if Yv p l b=0 then b else ⟨0,0⟩) w1).toArray 131)∧g'[kc]? = some (.cells [w2].toArray 129) ∧
  X9 B 161 Zo 8 g' w1 (if Yv p l b=0 then l else [])∧X9 B 161 Zo 8 g' w2 (if Yv p l b=0 then l else [])
def I6 (B:Nat) (g':Hp) (A:Value) (l:List Nat) (n:Int) (E:Int) (add:List Nat):Prop:=
 ∃ka w,A=.pointer (some ⟨ka,0,none⟩)∧B≤ka∧g'[ka]? = some (.cells [w,.int .i64 (if E=0 then n else 0)].toArray 126)∧Z1 B 5 g' w (if E=0 then l++add else [])
set_option maxHeartbeats 1000000 in
theorem E9 (T:World) (h:Hp) (o:Ow) (wb i nb:Nat) (Z6:Nat→Nat) (a:NA) (n:Nd) (YA:WA) (fl:List Y2) (bad:Nat→Int) (told:List TV) (l:Y2) (w:Value) (d:Q8 o h)
  (N:ZJ o h wb i nb a n) (W:ZG o h wb Z6 YA fl bad told) (iv:U6 o h w l.vs) (Ym:fl.length≤1000000000000) (lW:n.own.l.length≤1000000) (lu:n.data.length≤1000000) (tb:DO o h) :
  Zc Tryz.prog T 104 #[Zp wb,Zp nb,.agg (YR l w).toArray] h fun v' h'=>∃o' a' Xq,Kp (fun t=>t=.world∨t=.Zn∨t=.node i) o h o' h'∧ZJ o' h' wb i nb a' (Y1 n l).n∧ZG o' h' wb Z6 Xq (fl++(Y1 n l).ls) bad told:=by
 obtain⟨pw,cw,rfl⟩:=iv.isSlice
 refine Zc.Zi (args:=[_,_,_]) Tryz.func104 rfl rfl rfl rfl ?_
 unfold Zp YR
 simp -implicitDefEqProofs only[go_sem,↓reduceIte]
 obtain⟨h1,Yw⟩:=ZA (((h.push (.cells [Zp wb].toArray 117)).push (.cells [Zp nb].toArray 124)).push (.cells (YR l (.slice pw l.vs.length cw)).toArray 163):Hp)
 have k1:Kp Qh o h o h1:=by rw[Yw];exact ((Kp.refl d _).push _ |>.push _).push _
 have s1:h1.size=h.size+3:=by rw[Yw];simp
 have d1:∀b,h.size≤b→o b=none:=d
 have x3:ZM o h1 h.size (.cells [Zp wb].toArray 117):=⟨d _ (by omega),by rw[Yw,Zs (by simp;omega),fD]⟩
 have x4:ZM o h1 (h.size+1) (.cells [Zp nb].toArray 124):=⟨d _ (by omega),by rw[Yw,Zs (by simp),gY]⟩
 have x5:ZM o h1 (h.size+2) (.cells (YR l (.slice pw l.vs.length cw)).toArray 163):=⟨d _ (by omega),by
  have:=Zb (h:=(h.push (.cells [Zp wb].toArray 117)).push (.cells [Zp nb].toArray 124)) (o:=.cells (YR l (.slice pw l.vs.length cw)).toArray 163)
  rw[Yw];simpa using this⟩
 have e0:((h.push (.cells [Zp wb].toArray 117)).push (.cells [Zp nb].toArray 124)).push (.cells (YR l (.slice pw l.vs.length cw)).toArray 163)=h1:=Yw.symm
 unfold Zp YR at e0
 rw[e0]
 clear e0 Yw
 have N1:=N.still k1
 have W1:=W.still k1
 have rW:=iv.Zd k1
 have R1:=Zy N1.ZE.2 N1.pt.store.len
 have Jx:=Za N1.ZE.2
 have l3:=Za x3.2
 have l4:=Za x4.2
 have l5:=Za x5.2
 have r3:hc h1 ⟨h.size,0,none⟩=some (Zp wb):=Zh x3.2
 have r4:hc h1 ⟨h.size+1,0,none⟩=some (Zp nb):=Zh x4.2
 have r53:rd h1 ⟨h.size+2,3,none⟩ 2=some [.int .i64 l.b.r,.int .i64 l.b.n]:=by rw[Z5 x5.2 (by simp[YR])];rfl
 have r51:hc h1 ⟨h.size+2,1,none⟩=some (.int .i64 l.Jl):=Zh x5.2
 unfold Zp at r3 r4
 have Ka:=R1.own
 obtain⟨pv,cv,hO⟩:=N1.pt.YG.isSlice
 rw[hO]at Ka
 have call:∀G,Zg h1.size h1 G→Zc Tryz.prog T 114 #[.agg #[.int .i64 n.own.p.r,.int .i64 n.own.p.n,.slice pv n.own.l.length cv],.agg #[.int .i64 l.b.r,.int .i64 l.b.n]] G fun v' h'=>Ea G.size h' v' n.own.p n.own.l l.b∧Zg G.size G h':=fun G hG=>
  VN T G n.own.p _ n.own.l l.b (by rw[←hO];exact N1.pt.YG.ts.Z9 hG) (by omega)
 obtain⟨E,hE⟩:=ZA (Yv n.own.p n.own.l l.b)
 have wA:∀(G:Hp) (k:Nat) (r m:Int) (p:Option Addr) (L c:Nat),G[k]? = some (.cells [.int .i64 0,.int .i64 0,.slice none 0 0].toArray 131)→wr G ⟨k,0,none⟩ [.int .i64 r,.int .i64 m,.slice p L c]=some (G.setIfInBounds k (.cells [.int .i64 r,.int .i64 m,.slice p L c].toArray 131)):=fun G k r m p L c hx=>by
  rw[ZR hx 0 _];rfl
 have wB:∀(G:Hp) (k:Nat) (p:Option Addr) (L c:Nat),G[k]? = some (.cells [.slice none 0 0].toArray 129)→Jh G ⟨k,0,none⟩ (.slice p L c)=some (G.setIfInBounds k (.cells [.slice p L c].toArray 129)):=fun G k p L c hx=>by
  rw[Yr hx 0 _];rfl
 refine VS.mono (N:=fun F' g'=>Zg h1.size h1 g'∧F' 3=.pointer (some ⟨h.size,0,none⟩)∧F' 4=.pointer (some ⟨h.size+1,0,none⟩)∧F' 5=.pointer (some ⟨h.size+2,0,none⟩)∧F' 8=.int .i64 E∧aY h1.size g' (F' 6) (F' 7) n.own.p n.own.l l.b) ?_ ?_ (fun _ _ _ h=>h) (fun _ _ h=>h)
 ·refine VS.z (h1.size) [6,13,14] (.q 0 (.p 1 (.p 2 (.q 3 (.p 4 (.q 5 (.or 6 (.p 7 (.p 8 (.p 9 (.p 10 (.or 11 (.s 12 (.w 13 (.w 14 (.p 15 .nil)))) (.s 12 (.s 11 (.w 13 (.w 14 (.p 15 .nil)))))))))) (.or 11 (.or 6 (.p 7 (.p 8 (.p 9 (.p 10 (.s 12 (.w 13 (.w 14 (.p 15 .nil)))))))) (.s 12 (.w 6 (.p 7 (.p 8 (.p 9 (.p 10 (.w 13 (.w 14 (.p 15 .nil)))))))))) (.s 12 (.or 6 (.p 7 (.p 8 (.p 9 (.p 10 (.s 11 (.w 13 (.w 14 (.p 15 .nil)))))))) (.s 11 (.w 6 (.p 7 (.p 8 (.p 9 (.p 10 (.w 13 (.w 14 (.p 15 .nil))))))))))))))))))) mixed (by kernel_rfl) ?_
  simp -implicitDefEqProofs only[go_sem,↓reduceIte,r4,Ka,r53,Jx,l4,l5]
  unfold aY Zp YD
  repeat' (first|with_reducible exact Zg.refl _ _|with_reducible exact Zg.push (by omega) _|with_reducible refine And.intro ?_ ?_)
  all_goals first
   | (refine (call h1 (Zg.refl _ _)).use ?_
      rintro _ g5 ⟨⟨w1,w2,rfl,o1,o2⟩,b5⟩
      obtain⟨p1,c1,rfl,_⟩:=o1.open
      obtain⟨p2,c2,rfl,_⟩:=o2.open
      rw[←hE]at *
      have s5:=b5.size
      unfold YD
      simp -implicitDefEqProofs only[go_sem,↓reduceIte,b5]
      refine⟨⟨_,_,_,_,rfl,rfl,s5,by omega,fD _ _ _,gY _ _ _,(o1.push _).push _,(o2.push _).push _⟩,⟨_,_,_,_,rfl,rfl,by omega,s5,gY _ _ _,fD _ _ _,(o1.push _).push _,(o2.push _).push _⟩⟩)
   | (refine (call (h1.push (.cells _ 131)) (Zg.push (Nat.le_refl _) _)).use ?_
      rintro _ g5 ⟨⟨w1,w2,rfl,o1,o2⟩,b5⟩
      obtain⟨p1,c1,rfl,_⟩:=o1.open
      obtain⟨p2,c2,rfl,_⟩:=o2.open
      rw[←hE]at *
      have s5:=b5.size
      rw[Array.size_push]at s5
      have B5:Zg h1.size h1 g5:=(Zg.push (Nat.le_refl _) _).trans (b5.mono (by simp))
      have xA:=b5.get (k:=h1.size) (by simp) Zb
      have Tb:=wA _ _ (if E=0 then l.b else ⟨0,0⟩).r (if E=0 then l.b else ⟨0,0⟩).n p1 (if E=0 then n.own.l else []).length c1 xA
      have zA:=Za xA
      unfold YD
      simp -implicitDefEqProofs only[go_sem,↓reduceIte,B5,Tb,zA]
      exact⟨_,_,_,_,rfl,rfl,Nat.le_refl _,by omega,by rw[Zs (by simpa using zA)];exact Zv xA,gs2 _ _ _ _,((o1.ZT (by simp) _).push _).mono (by simp),((o2.ZT (by simp) _).push _).mono (by simp)⟩)
   | (refine (call (h1.push (.cells _ 129)) (Zg.push (Nat.le_refl _) _)).use ?_
      rintro _ g5 ⟨⟨w1,w2,rfl,o1,o2⟩,b5⟩
      obtain⟨p1,c1,rfl,_⟩:=o1.open
      obtain⟨p2,c2,rfl,_⟩:=o2.open
      rw[←hE]at *
      have s5:=b5.size
      rw[Array.size_push]at s5
      have B5:Zg h1.size h1 g5:=(Zg.push (Nat.le_refl _) _).trans (b5.mono (by simp))
      have xB:=b5.get (k:=h1.size) (by simp) Zb
      have L9:=wB _ _ p2 (if E=0 then n.own.l else []).length c2 xB
      have zB:=Za xB
      unfold YD
      simp -implicitDefEqProofs only[go_sem,↓reduceIte,B5,L9,zB]
      exact⟨_,_,_,_,rfl,rfl,by omega,Nat.le_refl _,gs2 _ _ _ _,by rw[Zs (by simpa using zB)];exact Zv xB,((o1.ZT (by simp) _).push _).mono (by simp),((o2.ZT (by simp) _).push _).mono (by simp)⟩)
   | (refine (call ((h1.push (.cells _ 131)).push (.cells _ 129)) ((Zg.push (Nat.le_refl _) _).Yh (by simp) _)).use ?_
      rintro _ g5 ⟨⟨w1,w2,rfl,o1,o2⟩,b5⟩
      obtain⟨p1,c1,rfl,_⟩:=o1.open
      obtain⟨p2,c2,rfl,_⟩:=o2.open
      rw[←hE]at *
      have s5:=b5.size
      rw[Array.size_push,Array.size_push]at s5
      have B5:Zg h1.size h1 g5:=((Zg.push (Nat.le_refl _) _).Yh (by simp) _).trans (b5.mono (by simp;omega))
      have xA:=b5.get (k:=h1.size) (by simp;omega) (fD _ _ _)
      have xB:=b5.get (k:=h1.size+1) (by simp) (gY _ _ _)
      have Tb:=wA _ _ (if E=0 then l.b else ⟨0,0⟩).r (if E=0 then l.b else ⟨0,0⟩).n p1 (if E=0 then n.own.l else []).length c1 xA
      have zA:=Za xA
      have OJ:=fun o:Obj=>(Yi (o:=o) (show h1.size≠h1.size+1 by omega)).trans xB
      have L9:=fun o:Obj=>wB _ _ p2 (if E=0 then n.own.l else []).length c2 (OJ o)
      have zB:h1.size+1<g5.size:=Za xB
      unfold YD
      simp -implicitDefEqProofs only[go_sem,↓reduceIte,B5,Tb,zA,L9,zB]
      exact⟨_,_,_,_,rfl,rfl,by omega,by omega,(Yi (by omega)).trans (Zv xA),Zv (OJ _),((o1.ZT (by simp;omega) _).ZT (by simp) _).mono (by simp;omega),((o2.ZT (by simp;omega) _).ZT (by simp) _).mono (by simp;omega)⟩)
   | (refine (call ((h1.push (.cells _ 129)).push (.cells _ 131)) ((Zg.push (Nat.le_refl _) _).Yh (by simp) _)).use ?_
      rintro _ g5 ⟨⟨w1,w2,rfl,o1,o2⟩,b5⟩
      obtain⟨p1,c1,rfl,_⟩:=o1.open
      obtain⟨p2,c2,rfl,_⟩:=o2.open
      rw[←hE]at *
      have s5:=b5.size
      rw[Array.size_push,Array.size_push]at s5
      have B5:Zg h1.size h1 g5:=((Zg.push (Nat.le_refl _) _).Yh (by simp) _).trans (b5.mono (by simp;omega))
      have xB:=b5.get (k:=h1.size) (by simp;omega) (fD _ _ _)
      have xA:=b5.get (k:=h1.size+1) (by simp) (gY _ _ _)
      have Tb:=wA _ _ (if E=0 then l.b else ⟨0,0⟩).r (if E=0 then l.b else ⟨0,0⟩).n p1 (if E=0 then n.own.l else []).length c1 xA
      have zA:=Za xA
      have OJ:=fun o:Obj=>(Yi (o:=o) (show h1.size+1≠h1.size by omega)).trans xB
      have L9:=fun o:Obj=>wB _ _ p2 (if E=0 then n.own.l else []).length c2 (OJ o)
      have zB:h1.size<g5.size:=Za xB
      unfold YD
      simp -implicitDefEqProofs only[go_sem,↓reduceIte,B5,Tb,zA,L9,zB]
      exact⟨_,_,_,_,rfl,rfl,by omega,by omega,(Yi (by omega)).trans (Zv xA),Zv (OJ _),((o1.ZT (by simp) _).ZT (by simp;omega) _).mono (by simp;omega),((o2.ZT (by simp) _).ZT (by simp;omega) _).mono (by simp;omega)⟩)
 ·rintro F1 g1 ⟨b1,f3,f4,f5,f8,ka,kc,w1,w2,fA,fC,ge1,ge2,yA,yC,o1,o2⟩
  rw[←hE]at yA o1 o2
  have kb:=ZD k1.ZX b1
  have N2:=N1.still kb
  have W2:=W1.still kb
  have K2:Kp Qh o h o g1:=k1.Z9 b1
  have y3:=x3.Zd kb
  have y4:=x4.Zd kb
  have y5:=x5.Zd kb
  have gW:=rW.Zd kb
  have CT:=(tb.Zd k1).Zd kb
  have R2:=Zy N2.ZE.2 N2.pt.store.len
  have m3:=Za y3.2
  have m4:=Za y4.2
  have m5:=Za y5.2
  have JD:=Za N2.ZE.2
  have q3:hc g1 ⟨h.size,0,none⟩=some (Zp wb):=Zh y3.2
  have q4:hc g1 ⟨h.size+1,0,none⟩=some (Zp nb):=Zh y4.2
  have aZ:rd g1 ⟨h.size+2,3,none⟩ 2=some [.int .i64 l.b.r,.int .i64 l.b.n]:=by rw[Z5 y5.2 (by simp[YR])];rfl
  have q51:hc g1 ⟨h.size+2,1,none⟩=some (.int .i64 l.Jl):=Zh y5.2
  unfold Zp at q3 q4
  have R2p:=R2.EX
  by_cases e:E=0
  case neg=>
   have eP:Y1 n l=⟨n,[⟨7,n.me,l.Jl,n.own.p,TQ,[]⟩],[]⟩:=by unfold Y1;rw[←hE,if_pos e]
   rw[eP]
   simp -implicitDefEqProofs only[go_sem,↓reduceIte,f8,e]
   refine VS.z (g1.size) [10] (.q 0 (.q 1 (.p 2 (.q 3 (.q 4 (.p 5 (.p 6 (.p 7 (.q 8 (.p 9 (.w 10 .nil))))))))))) mixed (by kernel_rfl) ?_
   simp -implicitDefEqProofs only[go_sem,↓reduceIte,f3,f4,f5,q3,q4,q51,R2p,m3,m4,m5,JD]
   refine (Uy T g1 o wb nb Z6 n.me YA fl bad told l.Jl ⟨7,0,0,n.own.p,TQ,[]⟩ (.slice none 0 0) K2.ZX W2 R2.me JD (Im.nil _ _ _ _) Ym).use ?_
   rintro v' h' ⟨o',Xq,k,_,W'⟩
   simp -implicitDefEqProofs only[go_sem,↓reduceIte]
   exact⟨o',a,Xq,(ZF K2).trans (k.mono fun t q=>q.elim .inl fun q=>.inr (.inl q)),N2.Zd k (by rintro t (rfl|rfl)<;>simp[Tg.of]),W'⟩
  rw[if_pos e]at yA o1 o2
  have iv7:U6 o g1 w2 n.own.l:=Im.QJ o2.own (fun b hb=>k1.ZX b hb)
  have iv6:U6 o g1 w1 n.own.l:=Im.QJ o1.own (fun b hb=>k1.ZX b hb)
  unfold Zp at fA fC
  simp -implicitDefEqProofs only[go_sem,↓reduceIte,f8,e,f3,f4,f5,fC]
  obtain⟨g2,Qt⟩:=ZA (g1.push (.cells [Wb 122 [h.size,h.size+1,h.size+2,kc]].toArray 1):Hp)
  have k2:=ZY K2.ZX (.cells [Wb 122 [h.size,h.size+1,h.size+2,kc]].toArray 1)
  rw[←Qt]at k2
  have K3:Kp Qh o h o g2:=K2.trans k2
  have x9:ZM o g2 g1.size (.cells [Wb 122 [h.size,h.size+1,h.size+2,kc]].toArray 1):=⟨K2.ZX _ (Nat.le_refl _),by rw[Qt];exact Zb⟩
  have e2:g1.push (.cells [Wb 122 [h.size,h.size+1,h.size+2,kc]].toArray 1)=g2:=Qt.symm
  unfold Wb at e2
  simp only[List.map]at e2
  unfold Zp at e2
  rw[e2]
  clear e2 Qt
  have N3:=N2.still k2
  have W3:=W2.still k2
  have z3:=y3.Zd k2
  have z4:=y4.Zd k2
  have z5:=y5.Zd k2
  have z6:=(show ZM o g1 ka _ from⟨k1.ZX ka ge1,yA⟩).Zd k2
  have z7:=(show ZM o g1 kc _ from⟨k1.ZX kc ge2,yC⟩).Zd k2
  have iw7:=iv7.Zd k2
  have iw6:=iv6.Zd k2
  have tb3:=CT.Zd k2
  clear R2 R2p m3 m4 m5 JD q3 q4 aZ q51 R1 Ka Jx l3 l4 l5 r3 r4 r53 r51
  have R3:=Zy N3.ZE.2 N3.pt.store.len
  have m3:=Za z3.2
  have m4:=Za z4.2
  have m5:=Za z5.2
  have m9:=Za x9.2
  have Rt:=Za N3.ZE.2
  have q4:hc g2 ⟨h.size+1,0,none⟩=some (Zp nb):=Zh z4.2
  have aZ:rd g2 ⟨h.size+2,3,none⟩ 2=some (X3 l.b):=by rw[Z5 z5.2 (by simp[YR])];rfl
  have q9:hc g2 ⟨g1.size,0,none⟩=some (Wb 122 [h.size,h.size+1,h.size+2,kc]):=Zh x9.2
  have R3p:rd g2 ⟨nb,4,none⟩ 2=some (X3 n.own.p):=R3.EX
  unfold Zp at q4
  refine VS.q mixed (by kernel_rfl) ?_
  simp -implicitDefEqProofs only[go_sem,↓reduceIte,f4,f5,q4,aZ,R3p]
  by_cases ep:n.own.p=l.b
  ·have eP:Y1 n l=⟨n,[⟨1,n.me,l.Jl,l.b,TQ,n.own.l⟩],[]⟩:=by unfold Y1;rw[←hE,if_neg (by omega),if_pos ep]
   rw[eP]
   unfold Wb at q9
   simp only[List.map]at q9
   unfold Zp at q9
   simp -implicitDefEqProofs only[go_sem,↓reduceIte,ep,q9]
   refine (aV T g2 o wb nb Z6 n.me YA fl bad told h.size (h.size+1) (h.size+2) kc l _ w2 n.own.l K3.ZX W3 R3.me Rt Ym z3 z4 z5 z7 iw7).use ?_
   rintro v' h' ⟨o',Xq,k,W'⟩
   simp -implicitDefEqProofs only[go_sem,↓reduceIte]
   exact⟨o',a,Xq,(ZF K3).trans (k.mono fun t q=>q.elim .inl fun q=>.inr (.inl q)),N3.Zd k (by rintro t (rfl|rfl)<;>simp[Tg.of]),W'⟩
  simp -implicitDefEqProofs only[go_sem,↓reduceIte,ep]
  have mL:=R3.tape
  obtain⟨pd,cd,Ob⟩:=N3.pt.data.1.isSlice
  rw[Ob]at mL
  obtain⟨E2,fE⟩:=ZA (Qp n.data n.Xe l.b)
  have call2:∀G,Zg g2.size g2 G→Zc Tryz.prog T 123 #[.agg #[.slice pd n.data.length cd,.int .i64 n.Xe],.agg #[.int .i64 l.b.r,.int .i64 l.b.n]] G fun v' h'=>VQ G.size h' v' n.data n.Xe E2 (Y5 (Qq l.b))∧Zg G.size G h':=fun G hG=>by
   rw[fE]
   exact Nv T G _ n.Xe n.data l.b (by rw[←Ob];exact N3.pt.data.bs.Z9 hG) (by omega) (tb3.tk.Ji hG)
  have wT:∀(G:Hp) (k:Nat) (m:Int) (p:Option Addr) (L c:Nat),G[k]? = some (.cells [.slice none 0 0,.int .i64 0].toArray 126)→wr G ⟨k,0,none⟩ [.slice p L c,.int .i64 m]=some (G.setIfInBounds k (.cells [.slice p L c,.int .i64 m].toArray 126)):=fun G k m p L c hx=>by
   rw[ZR hx 0 _];rfl
  unfold X3 at aZ
  refine VS.mono (N:=fun F' g'=>Zg g2.size g2 g'∧F' 3=.pointer (some ⟨h.size,0,none⟩)∧F' 4=.pointer (some ⟨h.size+1,0,none⟩)∧F' 5=.pointer (some ⟨h.size+2,0,none⟩)∧F' 6=.pointer (some ⟨ka,0,none⟩)∧F' 9=.pointer (some ⟨g1.size,0,none⟩)∧F' 8=.int .i64 E2∧I6 g2.size g' (F' 10) n.data n.Xe E2 (Y5 (Qq l.b))) ?_ ?_ (fun _ _ _ h=>h) (fun _ _ h=>h)
  ·refine VS.z (g2.size) [6,11] (.q 0 (.p 1 (.p 2 (.q 3 (.p 4 (.q 5 (.or 6 (.p 7 (.p 8 (.p 9 (.s 10 (.w 11 (.p 12 .nil)))))) (.s 10 (.w 6 (.p 7 (.p 8 (.p 9 (.w 11 (.p 12 .nil)))))))))))))) mixed (by kernel_rfl) ?_
   simp -implicitDefEqProofs only[go_sem,↓reduceIte,f3,f4,f5,fA,q4,mL,aZ,m4,m5,Rt]
   unfold I6
   repeat' (first|with_reducible exact Zg.refl _ _|with_reducible exact Zg.push (by omega) _|with_reducible refine And.intro ?_ ?_)
   all_goals first
    | (refine (call2 g2 (Zg.refl _ _)).use ?_
       rintro _ g5 ⟨⟨w,rfl,o1⟩,b5⟩
       obtain⟨p1,c1,rfl,_⟩:=o1.bs.open
       have s5:=b5.size
       simp -implicitDefEqProofs only[go_sem,↓reduceIte,b5]
       exact⟨f3,f4,f5,fA,_,_,rfl,s5,Zb,o1.push _⟩)
    | (refine (call2 (g2.push (.cells _ 126)) (Zg.push (Nat.le_refl _) _)).use ?_
       rintro _ g5 ⟨⟨w,rfl,o1⟩,b5⟩
       obtain⟨p1,c1,rfl,_⟩:=o1.bs.open
       have B5:Zg g2.size g2 g5:=(Zg.push (Nat.le_refl _) _).trans (b5.mono (by simp))
       have xA:=b5.get (k:=g2.size) (by simp) Zb
       have Tb:=wT _ _ (if E2=0 then n.Xe else 0) p1 (if E2=0 then n.data++Y5 (Qq l.b) else []).length c1 xA
       have zA:=Za xA
       simp -implicitDefEqProofs only[go_sem,↓reduceIte,B5,Tb,zA]
       exact⟨f3,f4,f5,fA,_,_,rfl,Nat.le_refl _,Zv xA,(o1.ZT (by simp) _).mono (by simp)⟩)
  ·rintro F2 g3 ⟨b3,f3,f4,f5,f6,f9,f8,kt,wt,fT,ge3,yT,oT⟩
   have U7:=ZD K3.ZX b3
   have N4:=N3.still U7
   have W4:=W3.still U7
   have K4:Kp Qh o h o g3:=K3.Z9 b3
   by_cases e2:E2=0
   case neg=>
    have eP:Y1 n l=⟨n,[],[]⟩:=by unfold Y1;rw[←hE,if_neg (by omega),if_neg ep,←fE,if_pos e2]
    rw[eP,List.append_nil]
    simp -implicitDefEqProofs only[go_sem,↓reduceIte,f8,e2]
    exact⟨o,a,YA,ZF K4,N4,W4⟩
   rw[if_pos e2]at yT oT
   have u3:=z3.Zd U7
   have u4:=z4.Zd U7
   have u5:=z5.Zd U7
   have u6:=z6.Zd U7
   have u7:=z7.Zd U7
   have u9:=x9.Zd U7
   have iu6:=iw6.Zd U7
   have iu7:=iw7.Zd U7
   have iT:Vz o g3 wt (n.data++Y5 (Qq l.b)):=⟨Im.QJ oT.own (fun b hb=>K3.ZX b hb),oT.byte⟩
   have eP:Y1 n l=⟨{ n with data:=n.data++Y5 (Qq l.b),ZS:=some (.Gy ⟨l.b,n.own.l⟩ l.Jl l.b n.own.l) },[],[]⟩:=by unfold Y1;rw[←hE,if_neg (by omega),if_neg ep,←fE,if_neg (by omega)]
   rw[eP,List.append_nil]
   clear R3 m3 m4 m5 m9 Rt q4 aZ q9 R3p mL
   obtain⟨pt,ct,rfl,_⟩:=oT.bs.open
   have q4:hc g3 ⟨h.size+1,0,none⟩=some (Zp nb):=Zh u4.2
   have qT:rd g3 ⟨kt,0,none⟩ 2=some [.slice pt (n.data++Y5 (Qq l.b)).length ct,.int .i64 n.Xe]:=Zq yT rfl
   have Mb:=Za N4.ZE.2
   obtain⟨g4,w4,N5,k5⟩:=ZV.write (a:={ a with data:=.slice pt (n.data++Y5 (Qq l.b)).length ct }) (n:={ n with data:=n.data++Y5 (Qq l.b) }) { N4.pt with data:=iT } K4.ZX N4.ZE ((YK N4.ZE.2 N4.pt.store.len).tape (.slice pt (n.data++Y5 (Qq l.b)).length ct) n.Xe rfl)
   have v4:=u4.Zd k5
   have q4':hc g4 ⟨h.size+1,0,none⟩=some (Zp nb):=Zh v4.2
   have Ru:=Za N5.ZE.2
   have pn:Q7 o g4 wb i nb a.Zj (Wb 124 [ka,h.size+1,g1.size]) (some (.Gy ⟨l.b,n.own.l⟩ l.Jl l.b n.own.l)):=
    ⟨ka,h.size+1,g1.size,_,rfl,⟨_,u6.Zd k5,iu6.Zd k5⟩,v4,u9.Zd k5,h.size,h.size+1,h.size+2,kc,l,_,w2,rfl,u3.Zd k5,v4,u5.Zd k5,rfl,rfl,u7.Zd k5,iu7.Zd k5⟩
   obtain⟨g6,w6,N6,k6⟩:=ZV.write (a:={ a with data:=.slice pt (n.data++Y5 (Qq l.b)).length ct,ZS:=Wb 124 [ka,h.size+1,g1.size] }) (n:={ n with data:=n.data++Y5 (Qq l.b),ZS:=some (.Gy ⟨l.b,n.own.l⟩ l.Jl l.b n.own.l) }) { N5.pt with ZS:=pn } k5.ZX N5.ZE ((YK N5.ZE.2 N5.pt.store.len).ZS (Wb 124 [ka,h.size+1,g1.size]) rfl)
   unfold Wb at w6
   simp only[List.map]at w6
   unfold Zp at q4 q4' w6
   simp -implicitDefEqProofs only[go_sem,↓reduceIte,f8,e2,f4,f6,f9,fT,q4,qT,w4,Mb,q4',w6,Ru]
   have K6:Kp (fun t=>t=.world∨t=.Zn∨t=.node i) o h o g6:=((ZF K4).trans (k5.mono fun t q=>.inr (.inr q))).trans (k6.mono fun t q=>.inr (.inr q))
   exact⟨o,_,YA,K6,N6,(W4.Zd k5 (by rintro t rfl;simp[Tg.of])).Zd k6 (by rintro t rfl;simp[Tg.of])⟩
def uX (B:Nat) (g':Hp) (A:Value) (p:XK) (l:List Vt) (x:Vt):Prop:=
 ∃ka w,A=.pointer (some ⟨ka,0,none⟩)∧B≤ka∧g'[ka]? = some (.cells (YD (if YV p l x=0 then x.b else ⟨0,0⟩) w).toArray 131)∧X9 B 161 Zo 8 g' w (if YV p l x=0 then Qv l x else [])
set_option maxHeartbeats 1000000 in
theorem mM (T:World) (h:Hp) (o:Ow) (wb i nb:Nat) (Z6:Nat→Nat) (a:NA) (n:Nd) (YA:WA) (fl:List Y2) (bad:Nat→Int) (told:List TV) (l:Y2) (w:Value) (d:Q8 o h)
  (N:ZJ o h wb i nb a n) (W:ZG o h wb Z6 YA fl bad told) (iv:U6 o h w l.vs) (Ym:fl.length≤1000000000000) (lW:n.own.l.length≤1000000) (lu:n.data.length≤1000000) (tb:DO o h) :
  Zc Tryz.prog T 106 #[Zp wb,Zp nb,.agg (YR l w).toArray] h fun v' h'=>∃o' a' Xq,Kp (fun t=>t=.world∨t=.Zn∨t=.node i) o h o' h'∧ZJ o' h' wb i nb a' (asked n l).n∧ZG o' h' wb Z6 Xq (fl++(asked n l).ls) bad told:=by
 obtain⟨pw,cw,rfl⟩:=iv.isSlice
 refine Zc.Zi (args:=[_,_,_]) Tryz.func106 rfl rfl rfl rfl ?_
 unfold Zp YR
 simp -implicitDefEqProofs only[go_sem,↓reduceIte]
 obtain⟨h1,Yw⟩:=ZA (((h.push (.cells [Zp wb].toArray 117)).push (.cells [Zp nb].toArray 124)).push (.cells (YR l (.slice pw l.vs.length cw)).toArray 163):Hp)
 have k1:Kp Qh o h o h1:=by rw[Yw];exact ((Kp.refl d _).push _ |>.push _).push _
 have s1:h1.size=h.size+3:=by rw[Yw];simp
 have d1:∀b,h.size≤b→o b=none:=d
 have x3:ZM o h1 h.size (.cells [Zp wb].toArray 117):=⟨d _ (by omega),by rw[Yw,Zs (by simp;omega),fD]⟩
 have x4:ZM o h1 (h.size+1) (.cells [Zp nb].toArray 124):=⟨d _ (by omega),by rw[Yw,Zs (by simp),gY]⟩
 have x5:ZM o h1 (h.size+2) (.cells (YR l (.slice pw l.vs.length cw)).toArray 163):=⟨d _ (by omega),by
  have:=Zb (h:=(h.push (.cells [Zp wb].toArray 117)).push (.cells [Zp nb].toArray 124)) (o:=.cells (YR l (.slice pw l.vs.length cw)).toArray 163)
  rw[Yw];simpa using this⟩
 have e0:((h.push (.cells [Zp wb].toArray 117)).push (.cells [Zp nb].toArray 124)).push (.cells (YR l (.slice pw l.vs.length cw)).toArray 163)=h1:=Yw.symm
 unfold Zp YR at e0
 rw[e0]
 clear e0 Yw
 have N1:=N.still k1
 have W1:=W.still k1
 have rW:=iv.Zd k1
 have R1:=Zy N1.ZE.2 N1.pt.store.len
 have Jx:=Za N1.ZE.2
 have l3:=Za x3.2
 have l4:=Za x4.2
 have l5:=Za x5.2
 have r3:hc h1 ⟨h.size,0,none⟩=some (Zp wb):=Zh x3.2
 have r4:hc h1 ⟨h.size+1,0,none⟩=some (Zp nb):=Zh x4.2
 have r53:rd h1 ⟨h.size+2,5,none⟩ 8=some (Zo l.v):=by rw[Z5 x5.2 (by simp[YR])];rfl
 have r51:hc h1 ⟨h.size+2,1,none⟩=some (.int .i64 l.Jl):=Zh x5.2
 unfold Zp at r3 r4
 have Ka:=R1.own
 obtain⟨pv,cv,hO⟩:=N1.pt.YG.isSlice
 rw[hO]at Ka
 unfold Zo at r53
 have call:∀G,Zg h1.size h1 G→Zc Tryz.prog T 116 #[.agg #[.int .i64 n.own.p.r,.int .i64 n.own.p.n,.slice pv n.own.l.length cv],.agg (Zo l.v).toArray] G fun v' h'=>aM G.size h' v' n.own.p n.own.l l.v∧Zg G.size G h':=fun G hG=>
  OE T G n.own.p _ n.own.l l.v (by rw[←hO];exact N1.pt.YG.ts.Z9 hG) (by omega)
 unfold Zo at call
 obtain⟨E,hE⟩:=ZA (YV n.own.p n.own.l l.v)
 have wA:∀(G:Hp) (k:Nat) (r m:Int) (p:Option Addr) (L c:Nat),G[k]? = some (.cells [.int .i64 0,.int .i64 0,.slice none 0 0].toArray 131)→wr G ⟨k,0,none⟩ [.int .i64 r,.int .i64 m,.slice p L c]=some (G.setIfInBounds k (.cells [.int .i64 r,.int .i64 m,.slice p L c].toArray 131)):=fun G k r m p L c hx=>by
  rw[ZR hx 0 _];rfl
 refine VS.mono (N:=fun F' g'=>Zg h1.size h1 g'∧F' 3=.pointer (some ⟨h.size,0,none⟩)∧F' 4=.pointer (some ⟨h.size+1,0,none⟩)∧F' 5=.pointer (some ⟨h.size+2,0,none⟩)∧F' 7=.int .i64 E∧uX h1.size g' (F' 6) n.own.p n.own.l l.v) ?_ ?_ (fun _ _ _ h=>h) (fun _ _ h=>h)
 ·refine VS.z (h1.size) [6,11] (.q 0 (.p 1 (.p 2 (.q 3 (.p 4 (.q 5 (.or 6 (.p 7 (.p 8 (.p 9 (.s 10 (.w 11 (.p 12 .nil)))))) (.s 10 (.w 6 (.p 7 (.p 8 (.p 9 (.w 11 (.p 12 .nil)))))))))))))) mixed (by kernel_rfl) ?_
  simp -implicitDefEqProofs only[go_sem,↓reduceIte,r4,Ka,r53,Jx,l4,l5]
  unfold uX YD
  repeat' (first|with_reducible exact Zg.refl _ _|with_reducible exact Zg.push (by omega) _|with_reducible refine And.intro ?_ ?_)
  all_goals first
   | (refine (call h1 (Zg.refl _ _)).use ?_
      rintro _ g5 ⟨⟨w1,rfl,o1⟩,b5⟩
      obtain⟨p1,c1,rfl,_⟩:=o1.open
      rw[←hE]at *
      have s5:=b5.size
      unfold YD
      simp -implicitDefEqProofs only[go_sem,↓reduceIte,b5]
      exact⟨_,_,rfl,s5,Zb,o1.push _⟩)
   | (refine (call (h1.push (.cells _ 131)) (Zg.push (Nat.le_refl _) _)).use ?_
      rintro _ g5 ⟨⟨w1,rfl,o1⟩,b5⟩
      obtain⟨p1,c1,rfl,_⟩:=o1.open
      rw[←hE]at *
      have B5:Zg h1.size h1 g5:=(Zg.push (Nat.le_refl _) _).trans (b5.mono (by simp))
      have xA:=b5.get (k:=h1.size) (by simp) Zb
      have Tb:=wA _ _ (if E=0 then l.v.b else ⟨0,0⟩).r (if E=0 then l.v.b else ⟨0,0⟩).n p1 (if E=0 then Qv n.own.l l.v else []).length c1 xA
      have zA:=Za xA
      unfold YD
      simp -implicitDefEqProofs only[go_sem,↓reduceIte,B5,Tb,zA]
      exact⟨_,_,rfl,Nat.le_refl _,Zv xA,(o1.ZT (by simp) _).mono (by simp)⟩)
 ·rintro F1 g1 ⟨b1,f3,f4,f5,f8,ka,w1,fA,ge1,yA,o1⟩
  rw[←hE]at yA o1
  have kb:=ZD k1.ZX b1
  have N2:=N1.still kb
  have W2:=W1.still kb
  have K2:Kp Qh o h o g1:=k1.Z9 b1
  have y3:=x3.Zd kb
  have y4:=x4.Zd kb
  have y5:=x5.Zd kb
  have gW:=rW.Zd kb
  have CT:=(tb.Zd k1).Zd kb
  have R2:=Zy N2.ZE.2 N2.pt.store.len
  have m3:=Za y3.2
  have m4:=Za y4.2
  have m5:=Za y5.2
  have JD:=Za N2.ZE.2
  have q3:hc g1 ⟨h.size,0,none⟩=some (Zp wb):=Zh y3.2
  have q4:hc g1 ⟨h.size+1,0,none⟩=some (Zp nb):=Zh y4.2
  have q51:hc g1 ⟨h.size+2,1,none⟩=some (.int .i64 l.Jl):=Zh y5.2
  unfold Zp at q3 q4
  have R2p:=R2.EX
  by_cases e:E=0
  case neg=>
   have eP:asked n l=⟨n,[⟨7,n.me,l.Jl,n.own.p,TQ,[]⟩],[]⟩:=by unfold asked;rw[←hE,if_pos e]
   rw[eP]
   simp -implicitDefEqProofs only[go_sem,↓reduceIte,f8,e]
   refine VS.z (g1.size) [10] (.q 0 (.q 1 (.p 2 (.q 3 (.q 4 (.p 5 (.p 6 (.p 7 (.q 8 (.p 9 (.w 10 .nil))))))))))) mixed (by kernel_rfl) ?_
   simp -implicitDefEqProofs only[go_sem,↓reduceIte,f3,f4,f5,q3,q4,q51,R2p,m3,m4,m5,JD]
   refine (Uy T g1 o wb nb Z6 n.me YA fl bad told l.Jl ⟨7,0,0,n.own.p,TQ,[]⟩ (.slice none 0 0) K2.ZX W2 R2.me JD (Im.nil _ _ _ _) Ym).use ?_
   rintro v' h' ⟨o',Xq,k,_,W'⟩
   simp -implicitDefEqProofs only[go_sem,↓reduceIte]
   exact⟨o',a,Xq,(ZF K2).trans (k.mono fun t q=>q.elim .inl fun q=>.inr (.inl q)),N2.Zd k (by rintro t (rfl|rfl)<;>simp[Tg.of]),W'⟩
  rw[if_pos e]at yA o1
  have iv6:U6 o g1 w1 (Qv n.own.l l.v):=Im.QJ o1.own (fun b hb=>k1.ZX b hb)
  simp -implicitDefEqProofs only[go_sem,↓reduceIte,f8,e,f3,f4,f5]
  obtain⟨g2,Qt⟩:=ZA (g1.push (.cells [Wb 127 [h.size,h.size+1,h.size+2]].toArray 1):Hp)
  have k2:=ZY K2.ZX (.cells [Wb 127 [h.size,h.size+1,h.size+2]].toArray 1)
  rw[←Qt]at k2
  have K3:Kp Qh o h o g2:=K2.trans k2
  have x9:ZM o g2 g1.size (.cells [Wb 127 [h.size,h.size+1,h.size+2]].toArray 1):=⟨K2.ZX _ (Nat.le_refl _),by rw[Qt];exact Zb⟩
  have e2:g1.push (.cells [Wb 127 [h.size,h.size+1,h.size+2]].toArray 1)=g2:=Qt.symm
  unfold Wb at e2
  simp only[List.map]at e2
  unfold Zp at e2
  rw[e2]
  clear e2 Qt
  have N3:=N2.still k2
  have W3:=W2.still k2
  have z3:=y3.Zd k2
  have z4:=y4.Zd k2
  have z5:=y5.Zd k2
  have z6:=(show ZM o g1 ka _ from⟨k1.ZX ka ge1,yA⟩).Zd k2
  have iw6:=iv6.Zd k2
  have tb3:=CT.Zd k2
  clear R2 R2p m3 m4 m5 JD q3 q4 q51 R1 Ka Jx l3 l4 l5 r3 r4 r53 r51
  have R3:=Zy N3.ZE.2 N3.pt.store.len
  have m3:=Za z3.2
  have m4:=Za z4.2
  have m5:=Za z5.2
  have m9:=Za x9.2
  have Rt:=Za N3.ZE.2
  have q4:hc g2 ⟨h.size+1,0,none⟩=some (Zp nb):=Zh z4.2
  have aZ:rd g2 ⟨h.size+2,5,none⟩ 8=some (Zo l.v):=by rw[Z5 z5.2 (by simp[YR])];rfl
  have q9:hc g2 ⟨g1.size,0,none⟩=some (Wb 127 [h.size,h.size+1,h.size+2]):=Zh x9.2
  have R3v:=R3.YG
  have N3v:=N3.pt.YG
  unfold Zp at q4
  unfold Zo at aZ
  refine VS.mono (N:=fun F' g'=>Zg g2.size g2 g'∧F' 3=.pointer (some ⟨h.size,0,none⟩)∧F' 4=.pointer (some ⟨h.size+1,0,none⟩)∧F' 5=.pointer (some ⟨h.size+2,0,none⟩)∧F' 6=.pointer (some ⟨ka,0,none⟩)∧F' 8=.pointer (some ⟨g1.size,0,none⟩)∧F' 41=.bool (decide (l.v∈n.own.l))) ?_ ?_ (fun _ _ _ h=>h) (fun _ _ h=>h)
  ·refine VS.z (g2.size) [7] (.q 0 (.p 1 (.p 2 (.p 3 (.q 4 (.p 5 (.q 6 (.w 7 .nil)))))))) mixed (by kernel_rfl) ?_
   simp -implicitDefEqProofs only[go_sem,↓reduceIte,f3,f4,f5,fA,q4,aZ,R3v,m4,m5,Rt]
   have cv:=Ic T g2 a.YG n.own.l l.v N3v.ts (by omega)
   unfold Zo at cv
   refine cv.use ?_
   rintro _ g5 ⟨rfl,b5⟩
   simp -implicitDefEqProofs only[go_sem,↓reduceIte,b5,f3,f4,f5,fA]
  rintro F1' Aa ⟨qm,f3,f4,f5,fA,f9,f41⟩
  have SF:=ZD K3.ZX qm
  replace N3:=N3.still SF
  replace W3:=W3.still SF
  replace K3:=K3.trans SF
  replace z3:=z3.Zd SF
  replace z4:=z4.Zd SF
  replace z5:=z5.Zd SF
  replace z6:=z6.Zd SF
  replace iw6:=iw6.Zd SF
  replace tb3:=tb3.Zd SF
  replace x9:=x9.Zd SF
  clear R3 m3 m4 m5 m9 Rt q4 aZ q9 R3v N3v
  have R3:=Zy N3.ZE.2 N3.pt.store.len
  have m3:=Za z3.2
  have m4:=Za z4.2
  have m5:=Za z5.2
  have m9:=Za x9.2
  have Rt:=Za N3.ZE.2
  have q4:hc Aa ⟨h.size+1,0,none⟩=some (Zp nb):=Zh z4.2
  have aZ:rd Aa ⟨h.size+2,5,none⟩ 8=some (Zo l.v):=by rw[Z5 z5.2 (by simp[YR])];rfl
  have q9:hc Aa ⟨g1.size,0,none⟩=some (Wb 127 [h.size,h.size+1,h.size+2]):=Zh x9.2
  unfold Zp at q4
  by_cases ep:l.v∈n.own.l
  ·have eP:asked n l=⟨n,[⟨3,n.me,l.Jl,JA,l.v,[]⟩],[]⟩:=by unfold asked;rw[←hE,if_neg (by omega),if_pos ep]
   rw[eP]
   unfold Wb at q9
   simp only[List.map]at q9
   unfold Zp at q9
   simp -implicitDefEqProofs only[go_sem,↓reduceIte,f41,ep,f9,q9]
   refine (aW T Aa o wb nb Z6 n.me YA fl bad told h.size (h.size+1) (h.size+2) l _ K3.ZX W3 R3.me Rt Ym z3 z4 z5).use ?_
   rintro v' h' ⟨o',Xq,k,W'⟩
   simp -implicitDefEqProofs only[go_sem,↓reduceIte]
   exact⟨o',a,Xq,(ZF K3).trans (k.mono fun t q=>q.elim .inl fun q=>.inr (.inl q)),N3.Zd k (by rintro t (rfl|rfl)<;>simp[Tg.of]),W'⟩
  simp -implicitDefEqProofs only[go_sem,↓reduceIte,f41,ep]
  have mL:=R3.tape
  obtain⟨pd,cd,Ob⟩:=N3.pt.data.1.isSlice
  rw[Ob]at mL
  obtain⟨E2,fE⟩:=ZA (Ug n.data n.Xe l.v)
  have call2:∀G,Zg Aa.size Aa G→Zc Tryz.prog T 129 #[.agg #[.slice pd n.data.length cd,.int .i64 n.Xe],.agg (Zo l.v).toArray] G fun v' h'=>VQ G.size h' v' n.data n.Xe E2 (Y5 (SD l.v))∧Zg G.size G h':=fun G hG=>by
   rw[fE]
   exact mb T G _ n.Xe n.data l.v (by rw[←Ob];exact N3.pt.data.bs.Z9 hG) (by omega) (tb3.tk.Ji hG)
  have wT:∀(G:Hp) (k:Nat) (m:Int) (p:Option Addr) (L c:Nat),G[k]? = some (.cells [.slice none 0 0,.int .i64 0].toArray 126)→wr G ⟨k,0,none⟩ [.slice p L c,.int .i64 m]=some (G.setIfInBounds k (.cells [.slice p L c,.int .i64 m].toArray 126)):=fun G k m p L c hx=>by
   rw[ZR hx 0 _];rfl
  unfold Zo at aZ call2
  refine VS.mono (N:=fun F' g'=>Zg Aa.size Aa g'∧F' 3=.pointer (some ⟨h.size,0,none⟩)∧F' 4=.pointer (some ⟨h.size+1,0,none⟩)∧F' 5=.pointer (some ⟨h.size+2,0,none⟩)∧F' 6=.pointer (some ⟨ka,0,none⟩)∧F' 8=.pointer (some ⟨g1.size,0,none⟩)∧F' 7=.int .i64 E2∧I6 Aa.size g' (F' 9) n.data n.Xe E2 (Y5 (SD l.v))) ?_ ?_ (fun _ _ _ h=>h) (fun _ _ h=>h)
  ·refine VS.z (Aa.size) [6,11] (.q 0 (.p 1 (.p 2 (.q 3 (.p 4 (.q 5 (.or 6 (.p 7 (.p 8 (.p 9 (.s 10 (.w 11 (.p 12 .nil)))))) (.s 10 (.w 6 (.p 7 (.p 8 (.p 9 (.w 11 (.p 12 .nil)))))))))))))) mixed (by kernel_rfl) ?_
   simp -implicitDefEqProofs only[go_sem,↓reduceIte,f3,f4,f5,fA,f9,q4,mL,aZ,m4,m5,Rt]
   unfold I6
   repeat' (first|with_reducible exact Zg.refl _ _|with_reducible exact Zg.push (by omega) _|with_reducible refine And.intro ?_ ?_)
   all_goals first
    | (refine (call2 Aa (Zg.refl _ _)).use ?_
       rintro _ g5 ⟨⟨w,rfl,o1⟩,b5⟩
       obtain⟨p1,c1,rfl,_⟩:=o1.bs.open
       have s5:=b5.size
       simp -implicitDefEqProofs only[go_sem,↓reduceIte,b5]
       exact⟨f3,f4,f5,fA,f9,_,_,rfl,s5,Zb,o1.push _⟩)
    | (refine (call2 (Aa.push (.cells _ 126)) (Zg.push (Nat.le_refl _) _)).use ?_
       rintro _ g5 ⟨⟨w,rfl,o1⟩,b5⟩
       obtain⟨p1,c1,rfl,_⟩:=o1.bs.open
       have B5:Zg Aa.size Aa g5:=(Zg.push (Nat.le_refl _) _).trans (b5.mono (by simp))
       have xA:=b5.get (k:=Aa.size) (by simp) Zb
       have Tb:=wT _ _ (if E2=0 then n.Xe else 0) p1 (if E2=0 then n.data++Y5 (SD l.v) else []).length c1 xA
       have zA:=Za xA
       simp -implicitDefEqProofs only[go_sem,↓reduceIte,B5,Tb,zA]
       exact⟨f3,f4,f5,fA,f9,_,_,rfl,Nat.le_refl _,Zv xA,(o1.ZT (by simp) _).mono (by simp)⟩)
  ·rintro F2 g3 ⟨b3,f3,f4,f5,f6,f9,f8,kt,wt,fT,ge3,yT,oT⟩
   have U7:=ZD K3.ZX b3
   have N4:=N3.still U7
   have W4:=W3.still U7
   have K4:Kp Qh o h o g3:=K3.Z9 b3
   by_cases e2:E2=0
   case neg=>
    have eP:asked n l=⟨n,[],[]⟩:=by unfold asked;rw[←hE,if_neg (by omega),if_neg ep,←fE,if_pos e2]
    rw[eP,List.append_nil]
    simp -implicitDefEqProofs only[go_sem,↓reduceIte,f8,e2]
    exact⟨o,a,YA,ZF K4,N4,W4⟩
   rw[if_pos e2]at yT oT
   have u3:=z3.Zd U7
   have u4:=z4.Zd U7
   have u5:=z5.Zd U7
   have u6:=z6.Zd U7
   have u9:=x9.Zd U7
   have iu6:=iw6.Zd U7
   have iT:Vz o g3 wt (n.data++Y5 (SD l.v)):=⟨Im.QJ oT.own (fun b hb=>K3.ZX b hb),oT.byte⟩
   have eP:asked n l=⟨{ n with data:=n.data++Y5 (SD l.v),ZS:=some (.Gz ⟨l.v.b,Qv n.own.l l.v⟩ l.Jl l.v) },[],[]⟩:=by unfold asked;rw[←hE,if_neg (by omega),if_neg ep,←fE,if_neg (by omega)]
   rw[eP,List.append_nil]
   clear R3 m3 m4 m5 m9 Rt q4 aZ q9 mL
   obtain⟨pt,ct,rfl,_⟩:=oT.bs.open
   have q4:hc g3 ⟨h.size+1,0,none⟩=some (Zp nb):=Zh u4.2
   have qT:rd g3 ⟨kt,0,none⟩ 2=some [.slice pt (n.data++Y5 (SD l.v)).length ct,.int .i64 n.Xe]:=Zq yT rfl
   have Mb:=Za N4.ZE.2
   obtain⟨g4,w4,N5,k5⟩:=ZV.write (a:={ a with data:=.slice pt (n.data++Y5 (SD l.v)).length ct }) (n:={ n with data:=n.data++Y5 (SD l.v) }) { N4.pt with data:=iT } K4.ZX N4.ZE ((YK N4.ZE.2 N4.pt.store.len).tape (.slice pt (n.data++Y5 (SD l.v)).length ct) n.Xe rfl)
   have v4:=u4.Zd k5
   have q4':hc g4 ⟨h.size+1,0,none⟩=some (Zp nb):=Zh v4.2
   have Ru:=Za N5.ZE.2
   have pn:Q7 o g4 wb i nb a.Zj (Wb 130 [ka,h.size+1,g1.size]) (some (.Gz ⟨l.v.b,Qv n.own.l l.v⟩ l.Jl l.v)):=
    ⟨ka,h.size+1,g1.size,_,rfl,⟨_,u6.Zd k5,iu6.Zd k5⟩,v4,u9.Zd k5,h.size,h.size+1,h.size+2,l,_,rfl,u3.Zd k5,v4,u5.Zd k5,rfl,rfl⟩
   obtain⟨g6,w6,N6,k6⟩:=ZV.write (a:={ a with data:=.slice pt (n.data++Y5 (SD l.v)).length ct,ZS:=Wb 130 [ka,h.size+1,g1.size] }) (n:={ n with data:=n.data++Y5 (SD l.v),ZS:=some (.Gz ⟨l.v.b,Qv n.own.l l.v⟩ l.Jl l.v) }) { N5.pt with ZS:=pn } k5.ZX N5.ZE ((YK N5.ZE.2 N5.pt.store.len).ZS (Wb 130 [ka,h.size+1,g1.size]) rfl)
   unfold Wb at w6
   simp only[List.map]at w6
   unfold Zp at q4 q4' w6
   simp -implicitDefEqProofs only[go_sem,↓reduceIte,f8,e2,f4,f6,f9,fT,q4,qT,w4,Mb,q4',w6,Ru]
   have K6:Kp (fun t=>t=.world∨t=.Zn∨t=.node i) o h o g6:=((ZF K4).trans (k5.mono fun t q=>.inr (.inr q))).trans (k6.mono fun t q=>.inr (.inr q))
   exact⟨o,_,YA,K6,N6,(W4.Zd k5 (by rintro t rfl;simp[Tg.of])).Zd k6 (by rintro t rfl;simp[Tg.of])⟩
theorem QB.Xc {o:Ow} {i:Nat} {h:Hp} {sv:List (Int × Nat)} {vt:List (Int × List (Int × Unit))} (s:QB o i h sv vt) (k:Int):(Go.V.Xc sv k=none∧Go.V.Xc vt k=none)∨∃b l,Go.V.Xc sv k=some b∧Go.V.Xc vt k=some l∧J9 o (.VV i k) h b (Ma l):=by
 induction s with
 | nil=>exact .inl ⟨rfl,rfl⟩
 | @cons a b l m HE _ ih=>
  obtain⟨a1,a2⟩:=a
  obtain⟨b1,b2⟩:=b
  obtain⟨rfl,h2⟩:=HE
  unfold Go.V.Xc
  by_cases q:a1=k
  ·rw[if_pos q,if_pos q];subst q;exact .inr ⟨_,_,rfl,rfl,h2⟩
  ·rw[if_neg q,if_neg q];exact ih
theorem QB.add {o:Ow} {i:Nat} {h:Hp} {k:Int} {b:Nat} {l:List (Int × Unit)} (hb:J9 o (.VV i k) h b (Ma l)):∀{sv:List (Int × Nat)} {vt:List (Int × List (Int × Unit))},QB o i h sv vt→Go.V.Xc sv k=none→QB o i h (ins sv k b) (ins vt k l):=by
 intro sv vt s
 induction s with
 | nil=>intro _;exact .cons ⟨rfl,hb⟩ .nil
 | @cons a b l m HE _ ih=>
  intro hn
  obtain⟨a1,a2⟩:=a
  obtain⟨b1,b2⟩:=b
  obtain⟨rfl,h2⟩:=HE
  unfold Go.V.Xc at hn
  split at hn
  ·cases hn
  ·rename_i q
   unfold ins
   rw[if_neg q,if_neg q]
   exact .cons ⟨rfl,h2⟩ (ih hn)
theorem QB.put {o:Ow} {i:Nat} {h h':Hp} {k:Int} {b:Nat} {l':List (Int × Unit)} (kp:Kp (fun t=>t=.VV i k) o h o h') (hb:J9 o (.VV i k) h' b (Ma l')):∀{sv:List (Int × Nat)} {vt:List (Int × List (Int × Unit))},QB o i h sv vt→(sv.map (·.1)).Nodup→Go.V.Xc sv k=some b→QB o i h' sv (ins vt k l'):=by
 intro sv vt s
 induction s with
 | nil=>intro _ h;cases h
 | @cons a c l m HE tl ih=>
  intro hn hl
  obtain⟨a1,a2⟩:=a
  obtain⟨b1,b2⟩:=c
  obtain⟨h1,h2⟩:=HE
  simp only at h1 h2
  subst h1
  simp only[List.map_cons,List.nodup_cons]at hn
  unfold Go.V.Xc at hl
  unfold ins
  by_cases q:a1=k
  ·rw[if_pos q]at hl ⊢
   subst q
   obtain rfl:=Option.some.inj hl
   refine .cons ⟨rfl,hb⟩ ?_
   have key:∀{l:List (Int × Nat)} {m:List (Int × List (Int × Unit))},QB o i h l m→a1 ∉ l.map (·.1)→QB o i h' l m:=by
    intro l m s
    induction s with
    | nil=>intro _;exact .nil
    | @cons x y l m hxy _ ih2=>
     intro hn
     simp only[List.map_cons,List.mem_cons,not_or]at hn
     exact .cons ⟨hxy.1,hxy.2.Zd kp (by intro e;cases e;exact hn.1 hxy.1.symm)⟩ (ih2 hn.2)
   exact key tl hn.1
  ·rw[if_neg q]at hl ⊢
   exact .cons ⟨rfl,h2.Zd kp (by intro e;cases e;exact q rfl)⟩ (ih hn.2 hl)
theorem Da {β:Type}:∀{l:List (Int × β)} {k:Int} {v:β},(l.map (·.1)).Nodup→((ins l k v).map (·.1)).Nodup∧∀x,x∈(ins l k v).map (·.1)→x=k∨x∈l.map (·.1):=by
 intro l
 induction l with
 | nil=>intro k v _;exact⟨by simp[ins],fun x hx=>by simp[ins]at hx;exact .inl hx⟩
 | cons a l ih=>
  intro k v hn
  obtain⟨a1,a2⟩:=a
  simp only[List.map_cons,List.nodup_cons]at hn
  unfold ins
  by_cases q:a1=k
  ·rw[if_pos q]
   exact⟨by simp only[List.map_cons,List.nodup_cons];exact hn,fun x hx=>.inr hx⟩
  ·rw[if_neg q]
   obtain⟨h1,h2⟩:=ih (k:=k) (v:=v) hn.2
   refine⟨?_,fun x hx=>?_⟩
   ·simp only[List.map_cons,List.nodup_cons]
    exact⟨fun hm=>(h2 _ hm).elim q hn.1,h1⟩
   ·simp only[List.map_cons,List.mem_cons]at hx ⊢
    rcases hx with hx|hx
    ·exact .inr (.inl hx)
    ·exact (h2 _ hx).elim .inl fun q=>.inr (.inr q)
theorem rX {β:Type}:∀(l:List (Int × β)) (k:Int) (u v:β),ins (ins l k u) k v=ins l k v:=by
 intro l
 induction l with
 | nil=>intro k u v;unfold ins;simp[ins]
 | cons a l ih=>
  intro k u v
  obtain⟨a1,a2⟩:=a
  have h1:∀(x:Int) (y z:β) (m:List (Int × β)),ins ((x,y) :: m) k z=if x=k then (x,z) :: m else (x,y) :: ins m k z:=fun _ _ _ _=>rfl
  rw[h1,h1]
  by_cases q:a1=k
  ·rw[if_pos q,if_pos q,h1,if_pos q]
  ·rw[if_neg q,if_neg q,h1,if_neg q,ih]
theorem YC.mN {o:Ow} {i:Nat} {h:Hp} {ra:RA} {r:Qg} (s:YC o i h ra r) (d:Q8 o h) {k:Int} {b:Nat} {l l':List (Int × Unit)} (hl:Xc ra.sv k=some b) (hb:J9 o (.VV i k) h b (Ma l)) :
  Kp (fun t=>t=.VV i k) o h o (h.setIfInBounds b (Xi (Ma l')))∧YC o i (h.setIfInBounds b (Xi (Ma l'))) ra { r with Jm:=ins r.Jm k l' }:=by
 have kk:Kp (fun t=>t=.VV i k) o h o (h.setIfInBounds b (Xi (Ma l'))):=(Kp.refl d (fun t=>t=.VV i k)).set hb.1 rfl _
 exact⟨kk,s.ZE.Zd kk (by intro e;cases e),s.prom.Zd kk (by intro e;cases e),s.TZ.Zd kk,s.prop.Zd kk (by intro e;cases e),s.Jm.Zd kk (by intro e;cases e),QB.put kk ⟨hb.1,Zv hb.2⟩ s.VW s.keys hl,s.keys⟩
def fF (i:Nat) (t:Tg):Prop:=Qs i t∨XA i t
set_option maxHeartbeats 1000000 in
theorem NM (T:World) (h:Hp) (o:Ow) (wb i nb:Nat) (Z6:Nat→Nat) (a:NA) (n:Nd) (YA:WA) (fl:List Y2) (bad:Nat→Int) (told:List TV) (l:Y2) (w:Value) (d:Q8 o h)
  (N:ZJ o h wb i nb a n) (W:ZG o h wb Z6 YA fl bad told) (iv:U6 o h w l.vs) (hk:n.known.length≤100000000000) (hl:n.log.length≤100000000000) (ht:told.length≤100000000000) (hq:n.queue.length≤1000000000000) (hw:n.waiting.length≤1000000000000)
  (hv:∀r s,n.Zj=some r→((Xc r.Jm s).getD []).length≤1000000) :
  Zc Tryz.prog T 105 #[Zp wb,Zp nb,.agg (YR l w).toArray] h fun v' h'=>∃o' a' Xq,Kp (fF i) o h o' h'∧ZJ o' h' wb i nb a' (Yz n l).n∧ZG o' h' wb Z6 Xq fl bad (told++(Yz n l).ts):=by
 obtain⟨pw,cw,rfl⟩:=iv.isSlice
 refine Zc.Zi (args:=[_,_,_]) Tryz.func105 rfl rfl rfl rfl ?_
 unfold Zp YR
 have WX:=Za N.ZE.2
 have R:=Zy N.ZE.2 N.pt.store.len
 obtain⟨h1,Yw⟩:=ZA (h.push (.cells (YR l (.slice pw l.vs.length cw)).toArray 163):Hp)
 have k1:Kp Qh o h o h1:=by rw[Yw];exact ZY d _
 have x5:ZM o h1 h.size (.cells (YR l (.slice pw l.vs.length cw)).toArray 163):=⟨d _ (Nat.le_refl _),by rw[Yw];exact Zb⟩
 have e0:=Yw.symm
 unfold YR at e0
 have N1:=N.still k1
 have W1:=W.still k1
 have rW:=iv.Zd k1
 have R1:=Zy N1.ZE.2 N1.pt.store.len
 have Jx:=Za N1.ZE.2
 have m5:=Za x5.2
 have q0:hc h1 ⟨h.size,0,none⟩=some (.int .i64 l.kind):=Zh x5.2
 have q1:hc h1 ⟨h.size,1,none⟩=some (.int .i64 l.Jl):=Zh x5.2
 have q3:rd h1 ⟨h.size,3,none⟩ 2=some (X3 l.b):=by rw[Z5 x5.2 (by simp[YR])];rfl
 have q5:hc h1 ⟨h.size,5,none⟩=some (.int .i64 l.v.slot):=Zh x5.2
 have q6:rd h1 ⟨h.size,6,none⟩ 2=some (X3 l.v.b):=by rw[Z5 x5.2 (by simp[YR])];rfl
 have q13:hc h1 ⟨h.size,13,none⟩=some (.slice pw l.vs.length cw):=Zh x5.2
 have hQ:=N1.pt.Zj
 have oF:=R.Zj
 cases hr:n.Zj with
 | none=>
  cases rY:a.Zj with
  | some ra=>rw[hr,rY]at hQ;exact hQ.elim
  | none=>
   have eP:Yz n l=⟨n,[],[]⟩:=by unfold Yz;rw[hr]
   rw[rY]at oF
   unfold Rs at oF
   rw[eP,List.append_nil]
   simp -implicitDefEqProofs only[go_sem,↓reduceIte,oF]
   rw[e0]
   exact⟨o,a,YA,ZF k1,N1,W1⟩
 | some r=>
  cases rY:a.Zj with
  | none=>rw[hr,rY]at hQ;exact hQ.elim
  | some ra=>
   rw[hr,rY]at hQ
   have RG:YC o i h1 ra r:=hQ
   rw[rY]at oF
   unfold Rs Zp at oF
   have mrb:=Za RG.ZE.2
   have rr0:rd h1 ⟨ra.rb,0,none⟩ 2=some (X3 r.b):=by rw[Z5 RG.ZE.2 (by simp[BX])];rfl
   have rr2:hc h1 ⟨ra.rb,2,none⟩=some (.map (some ra.pb)):=Zh RG.ZE.2
   have rr5:hc h1 ⟨ra.rb,5,none⟩=some (.map (some ra.vb)):=Zh RG.ZE.2
   by_cases c1:l.kind=1
   ·have c1b:=eq_true c1
    simp -implicitDefEqProofs only[go_sem,↓reduceIte,oF,c1b]
    rw[e0]
    refine VS.q mixed (by kernel_rfl) ?_
    simp -implicitDefEqProofs only[go_sem,↓reduceIte,q3,rr0]
    by_cases c2:l.b=r.b
    ·have eP:Yz n l=⟨yH n r l,[],[]⟩:=by unfold Yz;rw[hr];simp only;rw[if_pos c1,if_pos c2]
     rw[eP,List.append_nil]
     have uY:=eq_true c2
     simp -implicitDefEqProofs only[go_sem,↓reduceIte,uY]
     refine VS.z (h1.size) [8] (.p 0 (.p 1 (.p 2 (.q 3 (.p 4 (.q 5 (.p 6 (.q 7 (.w 8 .nil))))))))) mixed (by kernel_rfl) ?_
     simp -implicitDefEqProofs only[go_sem,↓reduceIte,rr2,q1,q13,mrb,m5]
     rw[XJ NB RG.prom.2]
     simp -implicitDefEqProofs only[go_sem,↓reduceIte]
     obtain⟨k2,R2⟩:=RG.aX k1.ZX (k:=l.Jl) rW
     refine⟨o,{ a with Zj:=some { ra with pv:=ins ra.pv l.Jl (.slice pw l.vs.length cw) } },YA,(ZF k1).trans (k2.mono fun t q=>.inr (.inr (.inl q))),⟨?_,?_⟩,W1.Zd k2 (by rintro t rfl;simp[Tg.of])⟩
     ·have:=N1.ZE.Zd k2 (by intro e;cases e)
      rw[←NL (some { r with prom:=ins r.prom l.Jl l.vs }) rY (ra':={ ra with pv:=ins ra.pv l.Jl (.slice pw l.vs.length cw) }) rfl]at this
      exact this
     ·exact ZV.Qa N1.pt (k2.mono fun t q=>.inr (.inl q)) rY rfl R2
    ·have eP:Yz n l=⟨n,[],[]⟩:=by unfold Yz;rw[hr];simp only;rw[if_pos c1,if_neg c2]
     rw[eP,List.append_nil]
     simp -implicitDefEqProofs only[go_sem,↓reduceIte,c2]
     exact⟨o,a,YA,ZF k1,N1,W1⟩
   ·simp -implicitDefEqProofs only[go_sem,↓reduceIte,oF,c1]
    rw[e0]
    refine VS.q mixed (by kernel_rfl) ?_
    simp -implicitDefEqProofs only[go_sem,↓reduceIte,q6,rr0]
    by_cases c2:l.v.b=r.b
    case neg=>
     have eP:Yz n l=⟨n,[],[]⟩:=by unfold Yz;rw[hr];simp only;rw[if_neg c1,if_pos c2]
     rw[eP,List.append_nil]
     simp -implicitDefEqProofs only[go_sem,↓reduceIte,c2]
     exact⟨o,a,YA,ZF k1,N1,W1⟩
    have eP:Yz n l=if 5<2*(Tm r l).length then Ul (N9 n r l) l.v.slot l.v.cm else ⟨N9 n r l,[],[]⟩:=by unfold Yz;rw[hr];simp only;rw[if_neg c1,if_neg (fun q=>q c2)]
    rw[eP]
    have hvr:=hv r l.v.slot hr
    have uY:=eq_true c2
    have lk:=fun (K:Value→Hp→Prop)=>Yo (K:=K) (n:=l.v.slot) (c:=false) LZ IZ RG.Jm.2
    rw[Xh]at lk
    obtain⟨S,hS⟩:=ZA ((Xc r.Jm l.v.slot).getD [])
    have hlen:S.length≤1000000:=by rw[hS];exact hvr
    have NA1:ZJ o h1 wb i nb { a with Zj:=some ra } { n with Zj:=some r }:=by
     have e1:({ a with Zj:=some ra }:NA)=a:=by rw[←rY]
     have e2:({ n with Zj:=some r }:Nd)=n:=by rw[←hr]
     rw[e1,e2];exact N1
    have KG:Kp (fF i) o h o h1:=ZF k1
    have rZ:=oF
    rcases RG.VW.Xc l.v.slot with⟨e1,e2⟩|⟨sb,S',e1,e2,uF⟩
    ·have hS0:S=[]:=by rw[hS,e2];rfl
     rw[e1]at lk
     simp only[Option.map_none,Option.getD_none,Bool.false_eq_true,if_false]at lk
     -- RC new set
     obtain⟨h2,U3⟩:=ZA (h1.push (Xi []):Hp)
     have eh2:h1.push (.map #[] 0)=h2:=U3.symm
     have k2a:Kp (XA i) o h1 (Jj o h1.size (.VV i l.v.slot)) h2:=by
      rw[U3];exact ((Kp.refl k1.ZX _).push _).Ty (Nat.le_refl _) (by simp) (.inr (.inr (.inr (.inr ⟨_,rfl⟩))))
     have kx:Kp Qh o h1 o h2:=by rw[U3];exact ZY k1.ZX _
     have RGx:=RG.Zd kx (fun _ _ q=>q)
     have lo:∀b,b<h1.size→Jj o h1.size (.VV i l.v.slot) b=o b:=fun b hb=>YZ (by omega)
     obtain⟨o2,om⟩:=ZA (Jj o h1.size (.VV i l.v.slot))
     rw[←om]at k2a lo
     have sc:YC o2 i h2 ra r:=by
      have lt:∀{b:Nat} {x:Obj},h1[b]? = some x→b<h1.size:=Za
      refine⟨⟨(lo _ (Za RG.ZE.2)).trans RG.ZE.1,RGx.ZE.2⟩,⟨(lo _ (Za RG.prom.2)).trans RG.prom.1,RGx.prom.2⟩,RG.TZ.Zd k2a,⟨(lo _ (Za RG.prop.2)).trans RG.prop.1,RGx.prop.2⟩,⟨(lo _ (Za RG.Jm.2)).trans RG.Jm.1,RGx.Jm.2⟩,?_,RG.keys⟩
      have key:∀{sv:List (Int × Nat)} {vt:List (Int × List (Int × Unit))},QB o i h1 sv vt→QB o2 i h2 sv vt:=by
       intro sv vt s
       induction s with
       | nil=>exact .nil
       | cons x _ ih=>exact .cons ⟨x.1,⟨(lo _ (Za x.2.2)).trans x.2.1,(x.2.Zd kx id).2⟩⟩ ih
      exact key RG.VW
     have ms:J9 o2 (.VV i l.v.slot) h2 h1.size (Ma []):=⟨by rw[om];exact YT,by rw[U3];exact Zb⟩
     have Zx2:ra.rb<h2.size:=by have:=kx.size;omega
     simp -implicitDefEqProofs only[go_sem,↓reduceIte,oF,uY,q5,rr5,lk,oB]
     rw[eh2,XJ LZ sc.Jm.2]
     obtain⟨G,hG⟩:=ZA (h2.setIfInBounds ra.vb (Xi (ins (Ue oB ra.sv) l.v.slot (.map (some h1.size)))))
     rw[←hG]
     obtain⟨ff,yR⟩:∃ff:RA,ff = { ra with sv:=ins ra.sv l.v.slot h1.size }:=⟨_,rfl⟩
     have kk:Kp (fun t=>t=.Jm i) o2 h2 o2 G:=by rw[hG];exact (Kp.refl k2a.ZX (fun t=>t=.Jm i)).set sc.Jm.1 rfl _
     have RGG:YC o2 i G ff { r with Jm:=ins r.Jm l.v.slot [] }:=by
      rw[yR]
      refine⟨sc.ZE.Zd kk (by intro e;cases e),sc.prom.Zd kk (by intro e;cases e),sc.TZ.Zd kk,sc.prop.Zd kk (by intro e;cases e),⟨sc.Jm.1,?_⟩,(QB.add ms sc.VW e1).Zd kk (fun _ e=>by cases e),(Da RG.keys).1⟩
      show G[ra.vb]? = some (Xi (Ue oB (ins ra.sv l.v.slot h1.size)))
      rw[hG,Zv sc.Jm.2,Tw];rfl
     have k2b:Kp (XA i) o h1 o2 G:=k2a.trans (kk.mono fun t q=>.inr (.inr (.inr (.inl q))))
     have Db:ff.rb=ra.rb:=by rw[yR]
     have NG:ZJ o2 G wb i nb { a with Zj:=some ff } { n with Zj:=some { r with Jm:=ins r.Jm l.v.slot [] } }:=by
      refine⟨?_,ZV.Qa NA1.pt k2b rfl Db RGG⟩
      have:=NA1.ZE.Zd k2b (by rintro (q|q|q|q|⟨_,q⟩)<;>cases q)
      rw[show Y8 { n with Zj:=some { r with Jm:=ins r.Jm l.v.slot [] } } { a with Zj:=some ff } = Y8 { n with Zj:=some r } { a with Zj:=some ra } from by unfold Y8 Un Rs;simp only[Db]]
      exact this
     have WG:=W1.Zd k2b (by intro t q;rw[OG q];simp)
     have XG:=x5.Zd k2b
     have KG2:Kp (fF i) o h o2 G:=(ZF k1).trans (k2b.mono fun t q=>.inr q)
     have LKS:Xc ff.sv l.v.slot=some h1.size:=by rw[yR];simp[ae]
     have SB:J9 o2 (.VV i l.v.slot) G h1.size (Ma S):=by rw[hS0];exact ms.Zd kk (by intro e;cases e)
     have Q5:hc G ⟨h.size,5,none⟩=some (.int .i64 l.v.slot):=Zh XG.2
     have Q1:hc G ⟨h.size,1,none⟩=some (.int .i64 l.Jl):=Zh XG.2
     have RR5:hc G ⟨ra.rb,5,none⟩=some (.map (some ff.vb)):=by rw[←Db];exact Zh RGG.ZE.2
     have MRB:ra.rb<G.size:=by rw[←Db];exact Za RGG.ZE.2
     have M5:=Za XG.2
     have LK:=fun (K:Value→Hp→Prop)=>Yo (K:=K) (n:=l.v.slot) (c:=false) LZ IZ RGG.Jm.2
     rw[Xh]at LK
     simp only[LKS,Option.map_some,Option.getD_some,Bool.false_eq_true,if_false,oB]at LK
     simp -implicitDefEqProofs only[go_sem,↓reduceIte]
     refine VS.z (G.size) [9] (.p 0 (.p 1 (.p 2 (.q 3 (.p 4 (.p 6 (.q 7 (.p 8 (.s 5 (.w 9 .nil)))))))))) mixed (by kernel_rfl) ?_
     simp -implicitDefEqProofs only[go_sem,↓reduceIte,rZ,uY,Q5,Q1,RR5,LK,MRB,M5]
     rw[XJ IY SB.2]
     obtain⟨k2,sf⟩:=RGG.mN KG2.ZX (l':=ins S l.Jl ()) LKS SB
     rw[show Xi (ins (Ma S) l.Jl (.agg #[]))=Xi (Ma (ins S l.Jl ())) from by unfold Ma;rw[Tw]]
     obtain⟨g2,Qt⟩:=ZA (G.setIfInBounds h1.size (Xi (Ma (ins S l.Jl ()))))
     rw[←Qt]at k2 sf ⊢
     have eV:({ r with Jm:=ins r.Jm l.v.slot (Tm r l) }:Qg) = { ({ r with Jm:=ins r.Jm l.v.slot [] }:Qg) with Jm:=ins (ins r.Jm l.v.slot []) l.v.slot (ins S l.Jl ()) }:=by unfold Tm;rw[hS,rX]
     have K2:Kp (fF i) o2 G o2 g2:=k2.mono fun t q=>.inr (.inr (.inr (.inr (.inr ⟨_,q⟩))))
     have N2:ZJ o2 g2 wb i nb { a with Zj:=some ff } (N9 n r l):=by
      refine⟨?_,?_⟩
      ·have:=NG.ZE.Zd k2 (by intro e;cases e)
       exact this
      ·have:=ZV.Qa NG.pt (k2.mono fun t q=>.inr (.inr (.inr (.inr ⟨_,q⟩)))) rfl rfl sf
       unfold N9
       rw[eV]
       exact this
     have W2:=WG.Zd k2 (by rintro t rfl;simp[Tg.of])
     have x2:=XG.Zd k2
     have p0:rd g2 ⟨h.size,8,none⟩ 5=some l.v.cm.C:=by rw[Z5 x2.2 (by simp[YR])];rfl
     have p5:hc g2 ⟨ff.rb,5,none⟩=some (.map (some ff.vb)):=Zh sf.ZE.2
     rw[Db]at p5
     have p6:=fun (K:Value→Hp→Prop)=>Yo (K:=K) (n:=l.v.slot) (c:=false) LZ IZ sf.Jm.2
     rw[Xh]at p6
     simp only[LKS,Option.map_some,Option.getD_some,Bool.false_eq_true,if_false]at p6
     have SB2:J9 o2 (.VV i l.v.slot) g2 h1.size (Ma (ins S l.Jl ())):=⟨SB.1,by rw[Qt];exact Zv SB.2⟩
     have p7:=fun (K:Value→Hp→Prop) (cs:Array Bool) (ty:TypeId)=>VG (T:=T) (K:=K) (ty:=ty) (cs:=cs) IY SB2.2
     have p8:(Ma (ins S l.Jl ())).length=(Tm r l).length:=by unfold Ma Tm;rw[O3,hS]
     rw[p8]at p7
     simp -implicitDefEqProofs only[go_sem,↓reduceIte,rZ,uY,p5,p6,p7,oB]
     refine (My T g2 (Tm r l).length (by unfold Tm;rw[←hS,Rh];split<;>omega)).use ?_
     rintro _ _ ⟨rfl,rfl⟩
     by_cases c3:5<2*(Tm r l).length
     ·rw[if_pos c3]
      simp -implicitDefEqProofs only[go_sem,↓reduceIte,c3,p0]
      refine (L6 T _ o2 wb i nb Z6 _ _ YA fl bad told l.v.slot l.v.cm k2.ZX N2 W2 hk hl ht hq hw).use ?_
      rintro v' h' ⟨o',a',Xq,kl,N',W'⟩
      simp -implicitDefEqProofs only[go_sem,↓reduceIte]
      exact⟨o',a',Xq,(KG2.trans K2).trans (kl.mono fun t q=>.inl q),N',W'⟩
     ·rw[if_neg c3,List.append_nil]
      simp -implicitDefEqProofs only[go_sem,↓reduceIte,c3]
      exact⟨o2,_,YA,KG2.trans K2,N2,W2⟩
    ·have hS0:S=S':=by rw[hS,e2];rfl
     subst hS0
     rw[e1]at lk
     simp only[Option.map_some,Option.getD_some,Bool.false_eq_true,if_false]at lk
     simp -implicitDefEqProofs only[go_sem,↓reduceIte,uY,q5,rr5,lk,oB,oF]
     have WS:=fun (K:Value→Hp→Prop)=>Yo (K:=K) (n:=l.v.slot) (c:=false) LZ IZ RG.Jm.2
     rw[Xh]at WS
     simp only[e1,Option.map_some,Option.getD_some,Bool.false_eq_true,if_false,oB]at WS
     refine VS.z (h1.size) [9] (.p 0 (.p 1 (.p 2 (.q 3 (.p 4 (.p 6 (.q 7 (.p 8 (.s 5 (.w 9 .nil)))))))))) mixed (by kernel_rfl) ?_
     simp -implicitDefEqProofs only[go_sem,↓reduceIte,rZ,uY,q5,q1,rr5,WS,mrb,m5]
     rw[XJ IY uF.2]
     obtain⟨k2,sf⟩:=RG.mN KG.ZX (l':=ins S l.Jl ()) e1 uF
     rw[show Xi (ins (Ma S) l.Jl (.agg #[]))=Xi (Ma (ins S l.Jl ())) from by unfold Ma;rw[Tw]]
     obtain⟨g2,Qt⟩:=ZA (h1.setIfInBounds sb (Xi (Ma (ins S l.Jl ()))))
     rw[←Qt]at k2 sf ⊢
     have eV:({ r with Jm:=ins r.Jm l.v.slot (Tm r l) }:Qg) = { r with Jm:=ins r.Jm l.v.slot (ins S l.Jl ()) }:=by unfold Tm;rw[hS]
     have K2:Kp (fF i) o h1 o g2:=k2.mono fun t q=>.inr (.inr (.inr (.inr (.inr ⟨_,q⟩))))
     have N2:ZJ o g2 wb i nb { a with Zj:=some ra } (N9 n r l):=by
      refine⟨?_,?_⟩
      ·have:=NA1.ZE.Zd k2 (by intro e;cases e)
       exact this
      ·have:=ZV.Qa NA1.pt (k2.mono fun t q=>.inr (.inr (.inr (.inr ⟨_,q⟩)))) rfl rfl sf
       unfold N9
       rw[eV]
       exact this
     have W2:=W1.Zd k2 (by rintro t rfl;simp[Tg.of])
     have x2:=x5.Zd k2
     have p0:rd g2 ⟨h.size,8,none⟩ 5=some l.v.cm.C:=by rw[Z5 x2.2 (by simp[YR])];rfl
     have p5:hc g2 ⟨ra.rb,5,none⟩=some (.map (some ra.vb)):=Zh sf.ZE.2
     have p6:=fun (K:Value→Hp→Prop)=>Yo (K:=K) (n:=l.v.slot) (c:=false) LZ IZ sf.Jm.2
     rw[Xh]at p6
     simp only[e1,Option.map_some,Option.getD_some,Bool.false_eq_true,if_false]at p6
     have SB2:J9 o (.VV i l.v.slot) g2 sb (Ma (ins S l.Jl ())):=⟨uF.1,by rw[Qt];exact Zv uF.2⟩
     have p7:=fun (K:Value→Hp→Prop) (cs:Array Bool) (ty:TypeId)=>VG (T:=T) (K:=K) (ty:=ty) (cs:=cs) IY SB2.2
     have p8:(Ma (ins S l.Jl ())).length=(Tm r l).length:=by unfold Ma Tm;rw[O3,hS]
     rw[p8]at p7
     simp -implicitDefEqProofs only[go_sem,↓reduceIte,rZ,uY,p5,p6,p7,oB]
     refine (My T g2 (Tm r l).length (by unfold Tm;rw[←hS,Rh];split<;>omega)).use ?_
     rintro _ _ ⟨rfl,rfl⟩
     by_cases c3:5<2*(Tm r l).length
     ·rw[if_pos c3]
      simp -implicitDefEqProofs only[go_sem,↓reduceIte,c3,p0]
      refine (L6 T _ o wb i nb Z6 _ _ YA fl bad told l.v.slot l.v.cm k2.ZX N2 W2 hk hl ht hq hw).use ?_
      rintro v' h' ⟨o',a',Xq,kl,N',W'⟩
      simp -implicitDefEqProofs only[go_sem,↓reduceIte]
      exact⟨o',a',Xq,(KG.trans K2).trans (kl.mono fun t q=>.inl q),N',W'⟩
     ·rw[if_neg c3,List.append_nil]
      simp -implicitDefEqProofs only[go_sem,↓reduceIte,c3]
      exact⟨o,_,YA,KG.trans K2,N2,W2⟩
def Xw (i:Nat) (t:Tg):Prop:=t=.world∨t=.Zn∨t=.told∨t.of=some i
theorem Kb {i:Nat} {t:Tg} (h:Qs i t):Xw i t:=by
 rcases h with rfl|rfl|rfl|rfl|rfl|rfl|rfl<;>simp[Xw,Tg.of]
theorem Dc {i:Nat} {t:Tg} (h:fF i t):Xw i t:=h.elim Kb fun q=>.inr (.inr (.inr (OG q)))
theorem Dd (T:World) (h:Hp) (o:Ow) (wb i nb:Nat) (a:NA) (n:Nd) (l:Y2) (w:Value) (d:Q8 o h) (N:ZJ o h wb i nb a n) (iv:U6 o h w l.vs) :
  Zc Tryz.prog T 110 #[Zp wb,Zp nb,.agg (YR l w).toArray] h fun v' h'=>Kp (fun t=>t=.node i) o h o h'∧ZJ o h' wb i nb a (notes n l):=by
 obtain⟨pw,cw,rfl⟩:=iv.isSlice
 refine Zc.Zi (args:=[_,_,_]) Tryz.func110 rfl rfl rfl rfl ?_
 unfold Zp YR
 have e0:∃h1:Hp,h1=h.push (.cells (YR l (.slice pw l.vs.length cw)).toArray 163):=⟨_,rfl⟩
 obtain⟨h1,Yw⟩:=e0
 have k1:Kp Qh o h o h1:=by rw[Yw];exact ZY d _
 have x5:ZM o h1 h.size (.cells (YR l (.slice pw l.vs.length cw)).toArray 163):=⟨d _ (Nat.le_refl _),by rw[Yw];exact Zb⟩
 have e0:=Yw.symm
 unfold YR at e0
 have N1:=N.still k1
 have R1:=Zy N1.ZE.2 N1.pt.store.len
 have Jx:=Za N1.ZE.2
 have m5:=Za x5.2
 have q3:rd h1 ⟨h.size,3,none⟩ 2=some (X3 l.b):=by rw[Z5 x5.2 (by simp[YR])];rfl
 have r7:rd h1 ⟨nb,7,none⟩ 2=some (X3 n.heard):=R1.heard
 simp -implicitDefEqProofs only[go_sem,↓reduceIte]
 rw[e0]
 refine VS.mono (N:=fun F' g'=>Zg h1.size h1 g'∧F' 1=.pointer (some ⟨nb,0,none⟩)∧F' 5=.pointer (some ⟨h.size,0,none⟩)∧F' 12=.bool (decide (below n.heard l.b))) ?_ ?_ (fun _ _ _ h=>h) (fun _ _ h=>h)
 ·refine VS.z (h1.size) [6] (.p 0 (.q 1 (.p 2 (.p 3 (.p 4 (.q 5 (.w 6 .nil))))))) mixed (by kernel_rfl) ?_
  simp -implicitDefEqProofs only[go_sem,↓reduceIte,q3,r7,Jx,m5]
  refine (PT T h1 l.b n.heard).use ?_
  rintro _ g ⟨rfl,b⟩
  simp -implicitDefEqProofs only[go_sem,↓reduceIte,b]
 ·rintro F' g ⟨b,f1,f5,f12⟩
  have kb:=ZD k1.ZX b
  have N2:=N1.still kb
  have K2:=k1.trans kb
  by_cases c:below n.heard l.b
  ·have e:notes n l = { n with heard:=l.b }:=by unfold notes;rw[if_pos c]
   rw[e]
   obtain⟨g2,w2,N3,k3⟩:=ZV.write (n:={ n with heard:=l.b }) (a:=a) { N2.pt with } K2.ZX N2.ZE ((YK N2.ZE.2 N2.pt.store.len).heard l.b.r l.b.n)
   have p3:rd g ⟨h.size,3,none⟩ 2=some [.int .i64 l.b.r,.int .i64 l.b.n]:=by rw[Z5 (x5.Zd kb).2 (by simp[YR])];rfl
   have JD:=Za N2.ZE.2
   simp -implicitDefEqProofs only[go_sem,↓reduceIte,f1,f5,f12,c,p3,w2,JD]
   exact⟨(ZF K2).trans k3,N3⟩
  ·have e:notes n l=n:=by unfold notes;rw[if_neg c]
   rw[e]
   simp -implicitDefEqProofs only[go_sem,↓reduceIte,f12,c]
   exact⟨ZF K2,N2⟩
theorem fG (T:World) (h:Hp) (o:Ow) (wb i nb:Nat) (Z6:Nat→Nat) (a:NA) (n:Nd) (YA:WA) (fl:List Y2) (bad:Nat→Int) (told:List TV) (l:Y2) (w:Value) (d:Q8 o h)
  (N:ZJ o h wb i nb a n) (W:ZG o h wb Z6 YA fl bad told) (iv:U6 o h w l.vs) (hk:n.known.length≤100000000000) (hl:n.log.length≤100000000000) (ht:told.length≤100000000000) (hq:n.queue.length≤1000000000000) (hw:n.waiting.length≤1000000000000) :
  Zc Tryz.prog T 109 #[Zp wb,Zp nb,.agg (YR l w).toArray] h fun v' h'=>∃o' a' Xq,Kp (Qs i) o h o' h'∧ZJ o' h' wb i nb a' (Ul n l.v.slot l.v.cm).n∧ZG o' h' wb Z6 Xq fl bad (told++(Ul n l.v.slot l.v.cm).ts):=by
 obtain⟨pw,cw,rfl⟩:=iv.isSlice
 refine Zc.Zi (args:=[_,_,_]) Tryz.func109 rfl rfl rfl rfl ?_
 unfold Zp YR
 obtain⟨h1,Yw⟩:=ZA (h.push (.cells (YR l (.slice pw l.vs.length cw)).toArray 163):Hp)
 have k1:Kp Qh o h o h1:=by rw[Yw];exact ZY d _
 have e0:=Yw.symm
 unfold YR at e0
 simp -implicitDefEqProofs only[go_sem,↓reduceIte]
 rw[e0]
 refine (L6 T h1 o wb i nb Z6 a n YA fl bad told l.v.slot l.v.cm k1.ZX (N.still k1) (W.still k1) hk hl ht hq hw).use ?_
 rintro v' h' ⟨o',a',Xq,k,N',W'⟩
 simp -implicitDefEqProofs only[go_sem,↓reduceIte]
 exact⟨o',a',Xq,(ZF k1).trans k,N',W'⟩
theorem mO (T:World) (h:Hp) (o:Ow) (wb i nb:Nat) (a:NA) (n:Nd) (l:Y2) (w:Value) (d:Q8 o h) (N:ZJ o h wb i nb a n) (iv:U6 o h w l.vs) (hq:n.queue.length≤1000000000000) (hl:n.log.length≤1000000000000) :
  Zc Tryz.prog T 107 #[Zp wb,Zp nb,.agg (YR l w).toArray] h fun v' h'=>∃o' a',Kp (yM i) o h o' h'∧ZJ o' h' wb i nb a' (add n l.v.cm):=by
 obtain⟨pw,cw,rfl⟩:=iv.isSlice
 refine Zc.Zi (args:=[_,_,_]) Tryz.func107 rfl rfl rfl rfl ?_
 unfold Zp YR
 obtain⟨h1,Yw⟩:=ZA (h.push (.cells (YR l (.slice pw l.vs.length cw)).toArray 163):Hp)
 have k1:Kp Qh o h o h1:=by rw[Yw];exact ZY d _
 have e0:=Yw.symm
 unfold YR at e0
 simp -implicitDefEqProofs only[go_sem,↓reduceIte]
 rw[e0]
 refine (mH T h1 o wb i nb a n l.v.cm k1.ZX (N.still k1) hq hl).use ?_
 rintro v' h' ⟨o',a',k,N'⟩
 simp -implicitDefEqProofs only[go_sem,↓reduceIte]
 exact⟨o',a',(ZF k1).trans k,N'⟩
theorem mP (T:World) (h:Hp) (o:Ow) (wb i nb:Nat) (Z6:Nat→Nat) (a:NA) (n:Nd) (YA:WA) (fl:List Y2) (bad:Nat→Int) (told:List TV) (l:Y2) (w:Value) (d:Q8 o h)
  (N:ZJ o h wb i nb a n) (W:ZG o h wb Z6 YA fl bad told) (iv:U6 o h w l.vs) (Ym:fl.length≤1000000000000) :
  Zc Tryz.prog T 108 #[Zp wb,Zp nb,.agg (YR l w).toArray] h fun v' h'=>∃o' a' Xq,Kp (fun t=>t=.world∨t=.Zn∨t=.node i) o h o' h'∧ZJ o' h' wb i nb a' (Q4 n l).n∧ZG o' h' wb Z6 Xq (fl++(Q4 n l).ls) bad told:=by
 obtain⟨pw,cw,rfl⟩:=iv.isSlice
 refine Zc.Zi (args:=[_,_,_]) Tryz.func108 rfl rfl rfl rfl ?_
 unfold Zp YR
 obtain⟨h1,Yw⟩:=ZA (h.push (.cells (YR l (.slice pw l.vs.length cw)).toArray 163):Hp)
 have k1:Kp Qh o h o h1:=by rw[Yw];exact ZY d _
 have x5:ZM o h1 h.size (.cells (YR l (.slice pw l.vs.length cw)).toArray 163):=⟨d _ (Nat.le_refl _),by rw[Yw];exact Zb⟩
 have e0:=Yw.symm
 have cc:=Dd T h1 o wb i nb a n l (.slice pw l.vs.length cw) k1.ZX (N.still k1) (iv.Zd k1)
 unfold YR at e0
 unfold YR Zp at cc
 simp -implicitDefEqProofs only[go_sem,↓reduceIte]
 rw[e0]
 refine cc.use ?_
 rintro _ g ⟨k2,N2⟩
 have W2:=(W.still k1).Zd k2 (by rintro t rfl;simp[Tg.of])
 have y5:=x5.Zd k2
 have R2:=Zy N2.ZE.2 N2.pt.store.len
 have JD:=Za N2.ZE.2
 have m5:=Za y5.2
 have q5:hc g ⟨h.size,5,none⟩=some (.int .i64 l.v.slot):=Zh y5.2
 have ek:(notes n l).known=n.known:=by unfold notes;split<;>rfl
 have eme:(notes n l).me=n.me:=by unfold notes;split<;>rfl
 have lk:=fun (K:Value→Hp→Prop)=>Yo (K:=K) (n:=l.v.slot) (c:=true) Vs PN N2.pt.known.2
 have WS:=fun (K:Value→Hp→Prop) (x:Obj)=>Yo (h:=g.push x) (K:=K) (n:=l.v.slot) (c:=true) Vs PN ((Zs (Za N2.pt.known.2)).trans N2.pt.known.2)
 rw[Xh,ek]at lk
 simp only[Xh,ek]at WS
 have gp:∀x:Obj,(g.push x)[g.size]? = some x:=fun x=>Zb
 simp -implicitDefEqProofs only[go_sem,↓reduceIte]
 cases hx:Xc n.known l.v.slot with
 | none=>
  have eP:Q4 n l=⟨notes n l,[],[]⟩:=by unfold Q4;rw[hx]
  rw[eP,List.append_nil]
  rw[hx]at lk
  simp only[hx,Option.map_none,Option.getD_none,Option.isSome_none,↓reduceIte]at lk WS
  refine VS.mono (N:=fun F' g'=>Zg g.size g g'∧F' 7=.bool false) ?_ ?_ (fun _ _ _ h=>h) (fun _ _ h=>h)
  ·refine VS.z (g.size) [7,12] (.p 0 (.p 1 (.p 2 (.q 3 (.p 4 (.p 5 (.q 6 (.or 7 (.p 8 (.p 9 (.p 10 (.s 11 (.w 12 (.p 13 .nil)))))) (.s 11 (.w 7 (.p 8 (.p 9 (.p 10 (.w 12 (.p 13 .nil))))))))))))))) mixed (by kernel_rfl) ?_
   simp -implicitDefEqProofs only[go_sem,↓reduceIte,R2.known,q5,JD,m5,lk,WS]
   repeat' (first|exact Zg.refl _ _|exact Zg.push (Nat.le_refl _) _|refine And.intro ?_ ?_)
  ·rintro F' g' ⟨b,f7⟩
   simp -implicitDefEqProofs only[go_sem,↓reduceIte,f7]
   exact⟨o,a,YA,((ZF k1).trans (k2.mono fun t q=>.inr (.inr q))).Z9 b,N2.still (ZD k2.ZX b),W2.still (ZD k2.ZX b)⟩
 | some y=>
  have eP:Q4 n l=⟨notes n l,[⟨6,n.me,l.Jl,JA,Tj l.v.slot JA y,[]⟩],[]⟩:=by unfold Q4;rw[hx]
  rw[eP]
  rw[hx]at lk
  simp only[hx,Option.map_some,Option.getD_some,Option.isSome_some,↓reduceIte]at lk WS
  refine VS.mono (N:=fun F' g'=>Zg g.size g g'∧F' 0=.pointer (some ⟨wb,0,none⟩)∧F' 1=.pointer (some ⟨nb,0,none⟩)∧F' 5=.pointer (some ⟨h.size,0,none⟩)∧F' 7=.bool true∧F' 6=.pointer (some ⟨g.size,0,none⟩)∧g'[g.size]? = some (.cells y.C.toArray 47)) ?_ ?_ (fun _ _ _ h=>h) (fun _ _ h=>h)
  ·refine VS.z (g.size) [7,12] (.p 0 (.p 1 (.p 2 (.q 3 (.p 4 (.p 5 (.q 6 (.or 7 (.p 8 (.p 9 (.p 10 (.s 11 (.w 12 (.p 13 .nil)))))) (.s 11 (.w 7 (.p 8 (.p 9 (.p 10 (.w 12 (.p 13 .nil))))))))))))))) mixed (by kernel_rfl) ?_
   simp -implicitDefEqProofs only[go_sem,↓reduceIte,R2.known,q5,JD,m5,lk,WS,Wx]
   repeat' (first|exact Zg.refl _ _|exact Zg.push (Nat.le_refl _) _|exact gp _|refine And.intro ?_ ?_)
  ·rintro F' g' ⟨b,f0,f1,f5,f7,f6,yy⟩
   have kb:=ZD k2.ZX b
   have N3:=N2.still kb
   have W3:=W2.still kb
   have z5:=y5.Zd kb
   have R3:=Zy N3.ZE.2 N3.pt.store.len
   have p1:hc g' ⟨h.size,1,none⟩=some (.int .i64 l.Jl):=Zh z5.2
   have p5:hc g' ⟨h.size,5,none⟩=some (.int .i64 l.v.slot):=Zh z5.2
   have p6:rd g' ⟨g.size,0,none⟩ 5=some [.int .i64 y.k,.int .i64 y.c,.int .i64 y.s,.int .i64 y.n,.int .i64 y.v]:=Zq yy rfl
   simp -implicitDefEqProofs only[go_sem,↓reduceIte,f0,f1,f5,f7,f6,p1,p5,p6]
   refine (Uy T g' o wb nb Z6 n.me YA fl bad told l.Jl ⟨6,0,0,JA,Tj l.v.slot JA y,[]⟩ (.slice none 0 0) kb.ZX W3 (by rw[←eme];exact R3.me) (Za N3.ZE.2) (Im.nil _ _ _ _) Ym).use ?_
   rintro v' h' ⟨o',Xq,k,_,W'⟩
   simp -implicitDefEqProofs only[go_sem,↓reduceIte]
   exact⟨o',a,Xq,(((ZF k1).trans (k2.mono fun t q=>.inr (.inr q))).trans (ZF kb)).trans (k.mono fun t q=>q.elim .inl fun q=>.inr (.inl q)),N3.Zd k (by rintro t (rfl|rfl)<;>simp[Tg.of]),W'⟩
section
variable {K:Value→Hp→Prop} {X:Hp}
theorem I7 {t e:TypeId} (ht:af Tryz.prog t=some e) {b:Nat} (hb:b=X.size) {l:List (Int × Value)} {n:Int} {x:Value} :
  O9 Tryz.prog t (.map (some b)) (.int .i64 n) x K (X.push (Xi l))=K undef (X.push (Xi (ins l n x))):=by
 subst hb
 rw[XJ ht Zb]
 congr 1
 apply Array.ext_getElem?
 intro j
 rw[Array.getElem?_setIfInBounds,Array.getElem?_push,Array.getElem?_push]
 by_cases hj:X.size=j
 ·subst hj;simp
 ·rw[if_neg hj,if_neg (fun e=>hj e.symm),if_neg (fun e=>hj e.symm)]
theorem Ab {t e:TypeId} (ht:af Tryz.prog t=some e) {b:Nat} (hb:b=X.size) {n:Int} {x:Value} :
  O9 Tryz.prog t (.map (some b)) (.int .i64 n) x K (X.push (.map #[] 0))=K undef (X.push (Xi [(n,x)])):=I7 (l:=[]) ht hb
theorem Ad {t e:TypeId} {z:Value} (ht:af Tryz.prog t=some e) (hz:uj Tryz.prog e=some z) {b:Nat} (hb:b=X.size) {l:List (Int × Value)} {n:Int} {x:Value} (hx:Xc l n=some x) :
  O1 Tryz.prog t (.map (some b)) (.int .i64 n) false K (X.push (Xi l))=K x (X.push (Xi l)):=by
 subst hb
 rw[Yo ht hz Zb,hx];rfl
end
theorem De (n:Nd) (l:Y2):(Y1 n l).ts=[]:=by
 unfold Y1
 repeat' split
 all_goals rfl
theorem mQ (n:Nd) (l:Y2):(asked n l).ts=[]:=by
 unfold asked
 repeat' split
 all_goals rfl
theorem mR (n:Nd) (l:Y2):(Q4 n l).ts=[]:=by
 unfold Q4
 split<;>rfl
theorem mS (n:Nd) (s:Int) (x:Cm):(Ul n s x).ls=[]:=rfl
theorem NN (n:Nd) (l:Y2):(Yz n l).ls=[]:=by
 unfold Yz
 repeat' split
 all_goals rfl
set_option maxHeartbeats 1000000 in
theorem fH (T:World) (h:Hp) (o:Ow) (wb i nb:Nat) (Z6:Nat→Nat) (a:NA) (n:Nd) (YA:WA) (fl:List Y2) (bad:Nat→Int) (told:List TV) (l:Y2) (w:Value) (d:Q8 o h)
  (N:ZJ o h wb i nb a n) (W:ZG o h wb Z6 YA fl bad told) (iv:U6 o h w l.vs) (tb:DO o h) (Zr7:0≤l.kind∧l.kind≤7) (Ym:fl.length≤1000000000000) (lW:n.own.l.length≤1000000) (lu:n.data.length≤1000000)
  (hk:n.known.length≤100000000000) (hl:n.log.length≤100000000000) (ht:told.length≤100000000000) (hq:n.queue.length≤1000000000000) (hw:n.waiting.length≤1000000000000)
  (hv:∀r s,n.Zj=some r→((Xc r.Jm s).getD []).length≤1000000) :
  Zc Tryz.prog T 95 #[Zp wb,Zp nb,.agg (YR l w).toArray] h fun v' h'=>∃o' a' Xq,Kp (Xw i) o h o' h'∧ZJ o' h' wb i nb a' (handle n l).n∧ZG o' h' wb Z6 Xq (fl++(handle n l).ls) bad (told++(handle n l).ts):=by
 obtain⟨pw,cw,rfl⟩:=iv.isSlice
 refine Zc.Zi (args:=[_,_,_]) Tryz.func95 rfl rfl rfl rfl ?_
 obtain⟨h1,Yw⟩:=ZA (h.push (.cells (YR l (.slice pw l.vs.length cw)).toArray 163):Hp)
 have k1:Kp Qh o h o h1:=by rw[Yw];exact ZY d _
 have x5:ZM o h1 h.size (.cells (YR l (.slice pw l.vs.length cw)).toArray 163):=⟨d _ (Nat.le_refl _),by rw[Yw];exact Zb⟩
 have e0:=Yw.symm
 have s1:h1.size=h.size+1:=by rw[Yw];simp
 obtain⟨M,hM⟩:∃M:List (Int × Value),M=[(0,.func (.func 104) #[] #[]),(1,.func (.func 105) #[] #[]),(2,.func (.func 106) #[] #[]),(3,.func (.func 105) #[] #[]),(4,.func (.func 107) #[] #[]),(5,.func (.func 108) #[] #[]),(6,.func (.func 109) #[] #[]),(7,.func (.func 110) #[] #[])]:=⟨_,rfl⟩
 have k2:Kp Qh o h o (h1.push (Xi M)):=k1.push _
 have N2:=N.still k2
 have W2:=W.still k2
 have gW:=iv.Zd k2
 have CT:=tb.Zd k2
 have x2:ZM o (h1.push (Xi M)) h.size (.cells (YR l (.slice pw l.vs.length cw)).toArray 163):=x5.Zd (ZY k1.ZX _)
 have d2:Q8 o (h1.push (Xi M)):=k2.ZX
 have q0:hc (h1.push (Xi M)) ⟨h.size,0,none⟩=some (.int .i64 l.kind):=Zh x2.2
 have sj:rd (h1.push (Xi M)) ⟨h.size,0,none⟩ 14=some (YR l (.slice pw l.vs.length cw)):=Zq x2.2 rfl
 have eM:ins (ins (ins (ins (ins (ins (ins [((0:Int),Value.func (.func 104) #[] #[])] 1 (.func (.func 105) #[] #[])) 2 (.func (.func 106) #[] #[])) 3 (.func (.func 105) #[] #[])) 4 (.func (.func 107) #[] #[])) 5 (.func (.func 108) #[] #[])) 6 (.func (.func 109) #[] #[])) 7 (.func (.func 110) #[] #[])=M:=by rw[hM];rfl
 have u0:=fun (K:Value→Hp→Prop) (n:Int) (x:Value)=>Ab (K:=K) (X:=h1) mz (b:=h1.size) rfl (n:=n) (x:=x)
 have u1:=fun (K:Value→Hp→Prop) (l:List (Int × Value)) (n:Int) (x:Value)=>I7 (K:=K) (X:=h1) mz (b:=h1.size) rfl (l:=l) (n:=n) (x:=x)
 have lk:=fun (K:Value→Hp→Prop) (x:Value) (hx:Xc M l.kind=some x)=>Ad (K:=K) (X:=h1) mz ZdT (b:=h1.size) rfl hx
 unfold Zp YR
 unfold YR at e0 sj
 have Kc:l.kind=0∨l.kind=1∨l.kind=2∨l.kind=3∨l.kind=4∨l.kind=5∨l.kind=6∨l.kind=7:=by omega
 rcases Kc with OC|OC|OC|OC|OC|OC|OC|OC
 ·have hf:handle n l=Y1 n l:=by unfold handle;simp[OC]
  rw[hf]
  have Af:=fun (K:Value→Hp→Prop)=>lk K (.func (.func 104) #[] #[]) (by rw[OC,hM];rfl)
  have cc:=E9 T _ o wb i nb Z6 a n YA fl bad told l _ d2 N2 W2 gW Ym lW lu CT
  unfold YR Zp at cc
  simp -implicitDefEqProofs only[go_sem,↓reduceIte,e0,u0,u1,eM,q0,sj,Af]
  refine cc.use ?_
  rintro v' h' ⟨o',a',Xq,k,N',W'⟩
  simp -implicitDefEqProofs only[go_sem,↓reduceIte]
  exact⟨o',a',Xq,(ZF k2).trans (k.mono fun t q=>by rcases q with rfl|rfl|rfl<;>simp[Xw,Tg.of]),N',by rw[De,List.append_nil];exact W'⟩
 ·have hf:handle n l=Yz n l:=by unfold handle;simp[OC]
  rw[hf]
  have Af:=fun (K:Value→Hp→Prop)=>lk K (.func (.func 105) #[] #[]) (by rw[OC,hM];rfl)
  have cc:=NM T _ o wb i nb Z6 a n YA fl bad told l _ d2 N2 W2 gW hk hl ht hq hw hv
  unfold YR Zp at cc
  simp -implicitDefEqProofs only[go_sem,↓reduceIte,e0,u0,u1,eM,q0,sj,Af]
  refine cc.use ?_
  rintro v' h' ⟨o',a',Xq,k,N',W'⟩
  simp -implicitDefEqProofs only[go_sem,↓reduceIte]
  exact⟨o',a',Xq,(ZF k2).trans (k.mono fun t q=>Dc q),N',by rw[NN,List.append_nil];exact W'⟩
 ·have hf:handle n l=asked n l:=by unfold handle;simp[OC]
  rw[hf]
  have Af:=fun (K:Value→Hp→Prop)=>lk K (.func (.func 106) #[] #[]) (by rw[OC,hM];rfl)
  have cc:=mM T _ o wb i nb Z6 a n YA fl bad told l _ d2 N2 W2 gW Ym lW lu CT
  unfold YR Zp at cc
  simp -implicitDefEqProofs only[go_sem,↓reduceIte,e0,u0,u1,eM,q0,sj,Af]
  refine cc.use ?_
  rintro v' h' ⟨o',a',Xq,k,N',W'⟩
  simp -implicitDefEqProofs only[go_sem,↓reduceIte]
  exact⟨o',a',Xq,(ZF k2).trans (k.mono fun t q=>by rcases q with rfl|rfl|rfl<;>simp[Xw,Tg.of]),N',by rw[mQ,List.append_nil];exact W'⟩
 ·have hf:handle n l=Yz n l:=by unfold handle;simp[OC]
  rw[hf]
  have Af:=fun (K:Value→Hp→Prop)=>lk K (.func (.func 105) #[] #[]) (by rw[OC,hM];rfl)
  have cc:=NM T _ o wb i nb Z6 a n YA fl bad told l _ d2 N2 W2 gW hk hl ht hq hw hv
  unfold YR Zp at cc
  simp -implicitDefEqProofs only[go_sem,↓reduceIte,e0,u0,u1,eM,q0,sj,Af]
  refine cc.use ?_
  rintro v' h' ⟨o',a',Xq,k,N',W'⟩
  simp -implicitDefEqProofs only[go_sem,↓reduceIte]
  exact⟨o',a',Xq,(ZF k2).trans (k.mono fun t q=>Dc q),N',by rw[NN,List.append_nil];exact W'⟩
 ·have hf:handle n l=⟨add n l.v.cm,[],[]⟩:=by unfold handle;simp[OC]
  rw[hf]
  have Af:=fun (K:Value→Hp→Prop)=>lk K (.func (.func 107) #[] #[]) (by rw[OC,hM];rfl)
  have cc:=mO T _ o wb i nb a n l _ d2 N2 gW hq (by omega)
  unfold YR Zp at cc
  simp -implicitDefEqProofs only[go_sem,↓reduceIte,e0,u0,u1,eM,q0,sj,Af]
  refine cc.use ?_
  rintro v' h' ⟨o',a',k,N'⟩
  simp -implicitDefEqProofs only[go_sem,↓reduceIte]
  exact⟨o',a',YA,(ZF k2).trans (k.mono fun t q=>by rcases q with rfl|rfl<;>simp[Xw,Tg.of]),N',by rw[List.append_nil,List.append_nil];exact W2.Zd k (by rintro t (rfl|rfl)<;>simp[Tg.of])⟩
 ·have hf:handle n l=Q4 n l:=by unfold handle;simp[OC]
  rw[hf]
  have Af:=fun (K:Value→Hp→Prop)=>lk K (.func (.func 108) #[] #[]) (by rw[OC,hM];rfl)
  have cc:=mP T _ o wb i nb Z6 a n YA fl bad told l _ d2 N2 W2 gW Ym
  unfold YR Zp at cc
  simp -implicitDefEqProofs only[go_sem,↓reduceIte,e0,u0,u1,eM,q0,sj,Af]
  refine cc.use ?_
  rintro v' h' ⟨o',a',Xq,k,N',W'⟩
  simp -implicitDefEqProofs only[go_sem,↓reduceIte]
  exact⟨o',a',Xq,(ZF k2).trans (k.mono fun t q=>by rcases q with rfl|rfl|rfl<;>simp[Xw,Tg.of]),N',by rw[mR,List.append_nil];exact W'⟩
 ·have hf:handle n l=Ul n l.v.slot l.v.cm:=by unfold handle;simp[OC]
  rw[hf]
  have Af:=fun (K:Value→Hp→Prop)=>lk K (.func (.func 109) #[] #[]) (by rw[OC,hM];rfl)
  have cc:=fG T _ o wb i nb Z6 a n YA fl bad told l _ d2 N2 W2 gW hk hl ht hq hw
  unfold YR Zp at cc
  simp -implicitDefEqProofs only[go_sem,↓reduceIte,e0,u0,u1,eM,q0,sj,Af]
  refine cc.use ?_
  rintro v' h' ⟨o',a',Xq,k,N',W'⟩
  simp -implicitDefEqProofs only[go_sem,↓reduceIte]
  exact⟨o',a',Xq,(ZF k2).trans (k.mono fun t q=>Kb q),N',by rw[mS,List.append_nil];exact W'⟩
 ·have hf:handle n l=⟨notes n l,[],[]⟩:=by unfold handle;simp[OC]
  rw[hf]
  have Af:=fun (K:Value→Hp→Prop)=>lk K (.func (.func 110) #[] #[]) (by rw[OC,hM];rfl)
  have cc:=Dd T _ o wb i nb a n l _ d2 N2 gW
  unfold YR Zp at cc
  simp -implicitDefEqProofs only[go_sem,↓reduceIte,e0,u0,u1,eM,q0,sj,Af]
  refine cc.use ?_
  rintro v' h' ⟨k,N'⟩
  simp -implicitDefEqProofs only[go_sem,↓reduceIte]
  exact⟨o,a,YA,(ZF k2).trans (k.mono fun t q=>by rw[q];simp[Xw,Tg.of]),N',by rw[List.append_nil,List.append_nil];exact W2.Zd k (by rintro t rfl;simp[Tg.of])⟩
@[go_sem] theorem ZmM (x:Cm):List.take 5 x.C=x.C:=rfl
def Uo (n:Nd) (r:Qg) (x:Cm):Int:=match free n r x with|some s=>(s:Int)|none=>0
theorem YC.rr {o:Ow} {i:Nat} {h:Hp} {ra:RA} {r:Qg} (s:YC o i h ra r):rd h ⟨ra.rb,0,none⟩ 2=some (X3 r.b)∧hc h ⟨ra.rb,2,none⟩=some (.map (some ra.pb))∧hc h ⟨ra.rb,3,none⟩=some (.bool r.begun)∧hc h ⟨ra.rb,4,none⟩=some (.map (some ra.qb))∧hc h ⟨ra.rb,5,none⟩=some (.map (some ra.vb)):=
 ⟨by rw[Z5 s.ZE.2 (by simp[BX])];rfl,Zh s.ZE.2,Zh s.ZE.2,Zh s.ZE.2,Zh s.ZE.2⟩
set_option maxHeartbeats 1000000 in
theorem sq (T:World) (h:Hp) (o:Ow) (wb i nb:Nat) (a:NA) (n:Nd) (ra:RA) (r:Qg) (x:Cm) (d:Q8 o h) (N:ZJ o h wb i nb a n) (R:YC o i h ra r) (hl:n.log.length≤1000000000000) :
  Zc Tryz.prog T 133 #[Zp nb,Zp ra.rb,Wx x] h fun v' h'=>v'=.tuple #[.int .i64 (Uo n r x),.bool (free n r x).isSome]∧Zg h.size h h':=by
 have WX:=Za N.ZE.2
 have BY:=Za R.ZE.2
 refine Zc.XI (args:=[_,_,_]) Tryz.func133 rfl rfl rfl rfl ?_
 unfold Zp Wx
 obtain⟨h1,Yw⟩:=ZA (h.push (.cells x.C.toArray 47):Hp)
 have k1:Kp Qh o h o h1:=by rw[Yw];exact ZY d _
 have b1:Zg h.size h h1:=by rw[Yw];exact Zg.push (Nat.le_refl _) _
 have x1:ZM o h1 h.size (.cells x.C.toArray 47):=⟨d _ (Nat.le_refl _),by rw[Yw];exact Zb⟩
 have e0:=Yw.symm
 have N1:=N.still k1
 have R1:=R.Zd k1 (fun _ _ q=>q)
 have P1:=Zy N1.ZE.2 N1.pt.store.len
 have P0:=Zy N.ZE.2 N.pt.store.len
 obtain⟨lp,lc,OI,zX⟩:=Yt.isSlice N1.pt.log
 have P11:=P1.log
 rw[OI]at P11
 have Jx:=Za N1.ZE.2
 have e3:((n.log.length:Nat):Int)=(n.log.length:Int):=rfl
 simp -implicitDefEqProofs only[go_sem,↓reduceIte,e0,P11]
 refine VS.ZW (fun F g=>Zg h1.size h1 g∧F 0=.pointer (some ⟨nb,0,none⟩)∧F 1=.pointer (some ⟨ra.rb,0,none⟩)∧F 5=.pointer (some ⟨h.size,0,none⟩)∧∃s:Nat,F 8=.int .i64 s∧n.log.length≤s∧Ui n r x (40-n.log.length) n.log.length=Ui n r x (40-s) s)
  (fun F _=>40-(vi (F 8)).toNat) rfl ⟨Zg.refl _ _,rfl,rfl,rfl,n.log.length,rfl,Nat.le_refl _,rfl⟩ ?_
 rintro F g ⟨hg,f0,f1,f5,s,f8,hs,he⟩
 have kg:=ZD k1.ZX hg
 have N2:=N1.still kg
 have R2:=R1.Zd kg (fun _ _ q=>q)
 have y1:=x1.Zd kg
 have P2:=Zy N2.ZE.2 N2.pt.store.len
 obtain⟨_,_,_,q4,_⟩:=R2.rr
 have gs:=hg.size
 have JD:=Za N2.ZE.2
 have Db:=Za R2.ZE.2
 have bb:Zg h.size h g:=b1.trans (hg.mono b1.size)
 have eF:free n r x=Ui n r x (40-s) s:=he
 by_cases ZC:s<40
 ·have ZL:(s:Int)<40:=by omega
  obtain⟨f,hf⟩:∃f,40-s=f+1:=⟨39-s,by omega⟩
  have ef:f=40-(s+1):=by omega
  rw[hf]at eF he
  have I8:=fun (K:Value→Hp→Prop)=>Yo (K:=K) (n:=(s:Int)) (c:=true) Vs PN R2.prop.2
  rw[Xh]at I8
  have WS:=fun (K:Value→Hp→Prop) (z:Obj)=>Yo (h:=g.push z) (K:=K) (n:=(s:Int)) (c:=true) Vs PN ((Zs (Za N2.pt.known.2)).trans N2.pt.known.2)
  simp only[Xh]at WS
  have fz:∀c:Cm,rd g ⟨h.size,0,none⟩ 5=some x.C:=fun _=>Zq y1.2 rfl
  have fx:rd g ⟨h.size,0,none⟩ 5=some x.C:=Zq y1.2 rfl
  have xj:=Za y1.2
  have n1:¬h.size=g.size:=by omega
  have n2:¬h.size=g.size+1:=by omega
  have n3:¬nb=g.size:=by omega
  unfold Ui at eF
  cases c1:Xc r.prop (s:Int) with
  | none=>
   simp only[c1,Option.map_none,Option.getD_none,Option.isSome_none,↓reduceIte]at I8
   cases c2:Xc n.known (s:Int) with
   | none=>
    simp only[c2,Option.map_none,Option.getD_none,Option.isSome_none,↓reduceIte]at WS
    have e4:free n r x=some s:=by rw[eF,if_neg (by rw[c1,c2];simp),if_pos ⟨c1,c2⟩]
    have e5:Uo n r x=s:=by unfold Uo;rw[e4]
    rw[e5,e4]
    simp -implicitDefEqProofs only[go_sem,↓reduceIte,f0,f1,f5,f8,ZL,q4,I8,WS,P2.known,n1,n2,n3,fx,Wx,Option.isSome_some]
    exact (bb.Yh (by omega) _).Yh (by simp;omega) _
   | some z=>
    simp only[c2,Option.map_some,Option.getD_some,Option.isSome_some,↓reduceIte]at WS
    by_cases qz:z=x
    ·have e4:free n r x=none:=by rw[eF,if_pos (.inr (by rw[c2,qz]))]
     have e5:Uo n r x=0:=by unfold Uo;rw[e4]
     rw[e5,e4]
     simp -implicitDefEqProofs only[go_sem,↓reduceIte,f0,f1,f5,f8,ZL,q4,I8,WS,P2.known,n1,n2,n3,fx,Wx,qz,Option.isSome_none]
     exact (bb.Yh (by omega) _).Yh (by simp;omega) _
    ·have qz':¬some z=some x:=fun e=>qz (Option.some.inj e)
     simp -implicitDefEqProofs only[go_sem,↓reduceIte,f0,f1,f5,f8,ZL,q4,I8,WS,P2.known,n1,n2,n3,fx,Wx,qz]
     unfold Y9
     refine⟨⟨(hg.Yh (by omega) _).Yh (by simp;omega) _,f0,f1,f5,s+1,rfl,by omega,?_⟩,?_⟩
     ·rw[he,←ef,Ui,if_neg (by rw[c1,c2];simp[qz]),if_neg (by rw[c2];simp)]
     ·simp only[vi,Zl,↓reduceIte,f8];omega
  | some y=>
   simp only[c1,Option.map_some,Option.getD_some,Option.isSome_some,↓reduceIte]at I8
   by_cases qy:y=x
   ·have e4:free n r x=none:=by rw[eF,if_pos (.inl (by rw[c1,qy]))]
    have e5:Uo n r x=0:=by unfold Uo;rw[e4]
    rw[e5,e4]
    cases c2:Xc n.known (s:Int) with
    | none=>
     simp only[c2,Option.map_none,Option.getD_none,Option.isSome_none,↓reduceIte]at WS
     simp -implicitDefEqProofs only[go_sem,↓reduceIte,f0,f1,f5,f8,ZL,q4,I8,WS,P2.known,n1,n2,n3,fx,Wx,qy,Option.isSome_none]
     exact (bb.Yh (by omega) _).Yh (by simp;omega) _
    | some z=>
     simp only[c2,Option.map_some,Option.getD_some,Option.isSome_some,↓reduceIte]at WS
     simp -implicitDefEqProofs only[go_sem,↓reduceIte,f0,f1,f5,f8,ZL,q4,I8,WS,P2.known,n1,n2,n3,fx,Wx,qy,Option.isSome_none]
     exact (bb.Yh (by omega) _).Yh (by simp;omega) _
   ·cases c2:Xc n.known (s:Int) with
    | none=>
     simp only[c2,Option.map_none,Option.getD_none,Option.isSome_none,↓reduceIte]at WS
     simp -implicitDefEqProofs only[go_sem,↓reduceIte,f0,f1,f5,f8,ZL,q4,I8,WS,P2.known,n1,n2,n3,fx,Wx,qy]
     unfold Y9
     refine⟨⟨(hg.Yh (by omega) _).Yh (by simp;omega) _,f0,f1,f5,s+1,rfl,by omega,?_⟩,?_⟩
     ·rw[he,←ef,Ui,if_neg (by rw[c1,c2];simp[qy]),if_neg (by rw[c1];simp)]
     ·simp only[vi,Zl,↓reduceIte,f8];omega
    | some z=>
     simp only[c2,Option.map_some,Option.getD_some,Option.isSome_some,↓reduceIte]at WS
     by_cases qz:z=x
     ·have e4:free n r x=none:=by rw[eF,if_pos (.inr (by rw[c2,qz]))]
      have e5:Uo n r x=0:=by unfold Uo;rw[e4]
      rw[e5,e4]
      simp -implicitDefEqProofs only[go_sem,↓reduceIte,f0,f1,f5,f8,ZL,q4,I8,WS,P2.known,n1,n2,n3,fx,Wx,qy,qz,Option.isSome_none]
      exact (bb.Yh (by omega) _).Yh (by simp;omega) _
     ·
      simp -implicitDefEqProofs only[go_sem,↓reduceIte,f0,f1,f5,f8,ZL,q4,I8,WS,P2.known,n1,n2,n3,fx,Wx,qy,qz]
      unfold Y9
      refine⟨⟨(hg.Yh (by omega) _).Yh (by simp;omega) _,f0,f1,f5,s+1,rfl,by omega,?_⟩,?_⟩
      ·rw[he,←ef,Ui,if_neg (by rw[c1,c2];simp[qy,qz]),if_neg (by rw[c1];simp)]
      ·simp only[vi,Zl,↓reduceIte,f8];omega
 ·have YF:¬(s:Int)<40:=by omega
  have e4:free n r x=none:=by rw[eF,show 40-s=0 by omega];rfl
  have e5:Uo n r x=0:=by unfold Uo;rw[e4]
  rw[e5,e4]
  simp -implicitDefEqProofs only[go_sem,↓reduceIte,f8,YF,bb,Option.isSome_none]
def yS (B:Nat) (o:Ow) (h0 h:Hp) (u:Value) (LL:List (List Vt)):Prop:=
 ∃ws:List Value,Qb B 129 1 h u LL.length ws∧FJ (fun w l=>U6 o h0 w l∧l.length≤1000000) ws LL
def Ag (o:Ow) (h:Hp) (u:Value) (LL:List (List Vt)):Prop:=∃p c,u=.slice p LL.length c∧(LL≠[]→∃b off,p=some ⟨b,off,none⟩∧b<h.size∧o b=none∧∀i (hi:i<LL.length),∃w,hc h ⟨b,off+i,none⟩=some w∧U6 o h w LL[i]∧LL[i].length≤1000000)
theorem Ag.vss {o:Ow} {h:Hp} {u:Value} {LL:List (List Vt)} (s:Ag o h u LL):Vss h u LL:=by
 obtain⟨p,c,hv,hh⟩:=s
 refine⟨p,c,hv,fun Ys=>?_⟩
 obtain⟨b,off,h1,h2,h3,h4⟩:=hh Ys
 refine⟨b,off,h1,h2,fun i hi=>?_⟩
 obtain⟨w,g1,g2,g3⟩:=h4 i hi
 exact⟨w,g1,g2.ts,by omega⟩
theorem Ag.Zd {S:Tg→Prop} {o o':Ow} {h h':Hp} {u:Value} {LL:List (List Vt)} (s:Ag o h u LL) (k:Kp S o h o' h'):Ag o' h' u LL:=by
 obtain⟨p,c,hv,hh⟩:=s
 refine⟨p,c,hv,fun Ys=>?_⟩
 obtain⟨b,off,h1,h2,h3,h4⟩:=hh Ys
 obtain⟨q1,q2⟩:=k.Zd b h2 fun t ht=>by rw[h3]at ht;cases ht
 refine⟨b,off,h1,Nat.lt_of_lt_of_le h2 k.size,q2.trans h3,fun i hi=>?_⟩
 obtain⟨w,g1,g2,g3⟩:=h4 i hi
 refine⟨w,?_,g2.Zd k,g3⟩
 unfold hc at g1 ⊢
 rw[q1];exact g1
theorem yS.ZmN {o:Ow} {h0 h:Hp} {u:Value} {LL:List (List Vt)} (s:yS h0.size o h0 h u LL) (d:Q8 o h0) (hb:Zg h0.size h0 h):Ag o h u LL:=by
 obtain⟨ws,own,al⟩:=s
 have sr:ws.length=LL.length:=by
  clear own
  induction al with
  | nil=>rfl
  | cons _ _ ih=>simp[ih]
 have ZmO:∀i (hi:i<LL.length),∃w,ws[i]? = some w∧U6 o h0 w LL[i]∧LL[i].length≤1000000:=by
  clear own sr
  induction al with
  | nil=>intro i hi;simp at hi
  | cons HE _ ih=>
   intro i hi
   cases i with
   | zero=>exact⟨_,rfl,HE⟩
   | succ i=>exact ih i (by simpa using hi)
 obtain⟨p,c,hv,hl,YO⟩:=own.sl
 refine⟨p,c,hv,fun Ys=>?_⟩
 have MM:0<LL.length:=List.length_pos_iff.2 Ys
 obtain⟨b,off,rfl,Iu⟩:=YO (by intro e;rw[e]at sr;simp at sr;omega)
 have hbB:h0.size≤b:=by
  refine own.ZE b ?_
  rcases own with⟨⟨q,h1⟩,h2,h3⟩|⟨b',cap,sp,_,h1,_,_,_,hm⟩
  ·subst h3;simp at sr;omega
  ·rw[hv]at h1
   simp only[Value.slice.injEq,Option.some.injEq,Addr.mk.injEq]at h1
   obtain⟨⟨rfl,_,_⟩,h12,h13⟩:=h1
   rw[hv]
   have:c≠0:=by omega
   simp[ZN,this]
 refine⟨b,off,rfl,QU (Iu 0 (by omega)),d b hbB,fun i hi=>?_⟩
 obtain⟨w,h1,h2,h3⟩:=ZmO i hi
 have A0:i<ws.length:=by omega
 rw[List.getElem?_eq_getElem A0]at h1
 exact⟨w,by rw[Iu i A0,Option.some.inj h1],h2.Zd (ZD d hb),h3⟩
theorem Df {α β:Type} {R:α→β→Prop} {l:List α} {k:List β} (s:FJ R l k) {a:α} {b:β} (h:R a b):FJ R (l++[a]) (k++[b]):=by
 induction s with
 | nil=>exact .cons h .nil
 | cons x _ ih=>exact .cons x ih
theorem fI (l:List Vt) (v:Vt):EV (l++[v])=if EV l<v.slot then v.slot else EV l:=by
 unfold EV;rw[List.foldl_append];rfl
theorem YC.bj {o:Ow} {i:Nat} {h:Hp} {ra:RA} {r:Qg} (s:YC o i h ra r) (d:Q8 o h) {k:Int} {x:Cm} :
  Kp (fun t=>t=.prop i) o h o (h.setIfInBounds ra.qb (Xi (ins (Ue Wx r.prop) k (.agg x.C.toArray))))∧YC o i (h.setIfInBounds ra.qb (Xi (ins (Ue Wx r.prop) k (.agg x.C.toArray)))) ra { r with prop:=ins r.prop k x }:=by
 have kk:Kp (fun t=>t=.prop i) o h o (h.setIfInBounds ra.qb (Xi (ins (Ue Wx r.prop) k (.agg x.C.toArray)))):=(Kp.refl d (fun t=>t=.prop i)).set s.prop.1 rfl _
 exact⟨kk,s.ZE.Zd kk (by intro e;cases e),s.prom.Zd kk (by intro e;cases e),s.TZ.Zd kk,⟨s.prop.1,by rw[Zv s.prop.2,Tw];rfl⟩,s.Jm.Zd kk (by intro e;cases e),s.VW.Zd kk (fun _ e=>by cases e),s.keys⟩
theorem VX (r:Qg):(XE r).length=5:=rfl
theorem I9 (r:Qg) (m:Nat) (hm:m<(XE r).length):(XE r)[m]=(Xc r.prom (m:Int)).getD []:=by
 simp only[XE,List.getElem_map,List.getElem_range]
theorem YC.list {o:Ow} {i:Nat} {h:Hp} {ra:RA} {r:Qg} (s:YC o i h ra r) (hp:∀x∈r.prom,x.2.length≤1000000) (m:Int):∃p c vs,(Xc ra.pv m).getD (.slice none 0 0)=.slice p vs.length c∧(Xc r.prom m).getD []=vs∧U6 o h (.slice p vs.length c) vs∧vs.length≤1000000:=by
 rcases s.TZ.Xc m with⟨h1,h2⟩|⟨w,vs,h1,h2,iv⟩
 ·exact⟨none,0,[],by rw[h1];rfl,by rw[h2];rfl,Im.nil _ _ _ _,by simp⟩
 ·obtain⟨p,c,rfl⟩:=iv.isSlice
  exact⟨p,c,vs,by rw[h1];rfl,by rw[h2];rfl,iv,hp _ (Mq h2)⟩
set_option maxHeartbeats 1000000 in
theorem mT (T:World) (h:Hp) (o:Ow) (wb i nb:Nat) (a:NA) (n:Nd) (ra:RA) (r:Qg) (d:Q8 o h) (N:ZJ o h wb i nb { a with Zj:=some ra } { n with Zj:=some r }) (hp:∀x∈r.prom,x.2.length≤1000000) (hs:∀x∈r.prom,∀v∈x.2,v.slot≤1000000) (hl:n.log.length≤1000000000000) :
  Zc Tryz.prog T 132 #[Zp nb,Zp ra.rb] h fun v' h'=>∃ra',ra'.rb=ra.rb∧Kp (XA i) o h o h'∧ZJ o h' wb i nb { a with Zj:=some ra' } { n with Zj:=some (TW n r) }:=by
 have WX:=Za N.ZE.2
 have R:YC o i h ra r:=N.pt.Zj
 have BY:=Za R.ZE.2
 refine Zc.Zi (args:=[_,_]) Tryz.func132 rfl rfl rfl rfl ?_
 unfold Zp
 simp -implicitDefEqProofs only[go_sem,↓reduceIte]
 refine VS.ZW (fun F g=>Zg h.size h g∧F 0=.pointer (some ⟨nb,0,none⟩)∧F 1=.pointer (some ⟨ra.rb,0,none⟩)∧∃m:Nat,m≤5∧F 12=.int .i64 m∧yS h.size o h g (F 4) ((XE r).take m)∧F 5=.int .i64 (EV ((XE r).take m).flatten))
  (fun F _=>5-(vi (F 12)).toNat) rfl ⟨Zg.refl _ _,rfl,rfl,0,by omega,rfl,⟨[],Qb.nil _ _ _ _,.nil⟩,rfl⟩ ?_
 rintro F g ⟨hg,f0,f1,m,hm,f12,hG,f5⟩
 have kg:=ZD d hg
 have N1:=N.still kg
 have R1:=R.Zd kg (fun _ _ q=>q)
 obtain⟨_,q2,q3,q4,_⟩:=R1.rr
 have gs:=hg.size
 by_cases ZC:m<5
 ·have ZL:(m:Int)<5:=by omega
  obtain⟨pm,cm,vs,e1,e2,iv,lW⟩:=R1.list hp (m:Int)
  have hm5:m<(XE r).length:=by rw[VX];exact ZC
  have e3:(XE r)[m]=vs:=by rw[I9,e2]
  have e4:(XE r).take (m+1)=(XE r).take m++[vs]:=by rw[Yd _ m hm5,e3]
  have lk:=fun (G:Hp) (hG:Zg g.size g G) (K:Value→Hp→Prop)=>Yo (h:=G) (K:=K) (n:=(m:Int)) (c:=false) NB mA (hG.get (Za R1.prom.2) R1.prom.2)
  simp only[e1,Bool.false_eq_true,if_false]at lk
  have lk0:=lk g (Zg.refl _ _)
  obtain⟨ws,own,al⟩:=hG
  obtain⟨p4,c4,hF4⟩:∃p c,F 4=.slice p ((XE r).take m).length c:=by
   obtain⟨p,c,h1,_⟩:=own.sl;exact⟨p,c,h1⟩
  have ml:((XE r).take m).length=m:=by rw[List.length_take,VX];omega
  rw[ml]at hF4 own
  rw[hF4]at own
  simp -implicitDefEqProofs only[go_sem,↓reduceIte,f0,f1,f5,f12,hF4,ZL,q2,lk0]
  have src:Sl 1 (g.push (.cells [.slice pm vs.length cm].toArray 129)) (.slice (some ⟨g.size,0,none⟩) 1 1) 1 [.slice pm vs.length cm]:=Sl.made (by simp) 1
  refine O0 (E:=129) (n:=1) (B:=h.size) (bytes:=24) (m:=m) (k:=1) (cs:=ws) wZ Tryz.underlying245 Zce Zcg rfl Zcf (own.push _) (by simp;omega) src rfl (by omega) (by omega) ?_
  intro u3 g3 Zee ZmQ _
  have Ah:Zg h.size h g3:=(hg.Yh (by omega) _).trans (ZmQ.Z9 (by simp;omega) (own.push (.cells [.slice pm vs.length cm].toArray 129)).ZE)
  have kg3:=ZD d Ah
  have R3:=R.Zd kg3 (fun _ _ q=>q)
  obtain⟨_,q23,_,_,_⟩:=R3.rr
  have lk3:=fun (K:Value→Hp→Prop)=>Yo (K:=K) (n:=(m:Int)) (c:=false) NB mA R3.prom.2
  simp only[e1,Bool.false_eq_true,if_false]at lk3
  obtain⟨p5,c5,rfl⟩:∃p c,u3=.slice p (m+1) c:=by obtain⟨p,c,h1,_⟩:=Zee.sl;exact⟨p,c,h1⟩
  have iv0:U6 o h (.slice pm vs.length cm) vs:=by
   obtain⟨pm',cm',zY,x1,x2,iv',_⟩:=R.list hp (m:Int)
   rw[e1]at x1
   rw[e2]at x2
   subst x2
   rw[←x1]at iv'
   exact iv'
  have al3:FJ (fun w l=>U6 o h w l∧l.length≤1000000) (ws++[.slice pm vs.length cm]) ((XE r).take m++[vs]):=by
   exact Df al ⟨iv0,lW⟩
  simp -implicitDefEqProofs only[go_sem,↓reduceIte,f0,f1,f5,f12,ZL,q23,lk3]
  obtain⟨LL,hLL⟩:=ZA (((XE r).take m).flatten)
  have qW:((XE r).take (m+1)).flatten=LL++vs:=by rw[e4,List.flatten_append,←hLL];simp
  rw[←hLL]at f5
  have ivo:=fun g' (hb:Zg h.size h g')=>L5 (iv0.Zd (ZD d hb)).ts
  refine VS.ZW (fun F' g'=>Zg h.size h g'∧F' 0=.pointer (some ⟨nb,0,none⟩)∧F' 1=.pointer (some ⟨ra.rb,0,none⟩)∧F' 12=.int .i64 m∧F' 29=.slice pm vs.length cm∧F' 30=.int .i64 vs.length∧F' 4=.slice p5 (m+1) c5∧Qb h.size 129 1 g' (.slice p5 (m+1) c5) (m+1) (ws++[.slice pm vs.length cm])∧∃j:Nat,j≤vs.length∧F' 31=.int .i64 j∧F' 5=.int .i64 (EV (LL++vs.take j)))
   (fun F' _=>vs.length-(vi (F' 31)).toNat) rfl ⟨Ah,f0,f1,f12,rfl,rfl,rfl,Zee,0,by omega,rfl,by rw[List.take_zero,List.append_nil];exact f5⟩ ?_
  rintro F2 g4 ⟨PU,f0,f1,f12,f29,f30,f4,Zef,j,hj,f31,f5⟩
  by_cases DY:j<vs.length
  ·have ZmR:(j:Int)<vs.length:=by omega
   obtain⟨pp,cc,hv1,lq⟩:=ivo g4 PU
   obtain⟨bb,oo,hpp,UP,PV⟩:=lq (by intro e;rw[e]at DY;simp at DY)
   simp only[Value.slice.injEq]at hv1
   obtain⟨rfl,_,rfl⟩:=hv1
   subst hpp
   have r1:=PV j DY
   unfold Zo at r1
   simp -implicitDefEqProofs only[go_sem,↓reduceIte,f0,f1,f12,f29,f30,f4,f31,f5,ZmR,r1]
   unfold Y9
   refine⟨⟨PU.Yh PU.size _,f0,f1,f12,f29,f30,f4,Zef.push _,j+1,DY,rfl,?_⟩,?_⟩
   ·show Value.int .i64 _=_
    rw[Yd vs j DY,←List.append_assoc,fI]
   ·simp only[vi,Zl,↓reduceIte,f31];omega
  ·have YF:¬(j:Int)<vs.length:=by omega
   obtain rfl:j=vs.length:=by omega
   rw[List.take_length]at f5
   simp -implicitDefEqProofs only[go_sem,↓reduceIte,f30,f31,YF,f12]
   unfold Y9
   refine⟨⟨PU,f0,f1,m+1,ZC,rfl,⟨_,?_,by rw[e4];exact al3⟩,by rw[qW];exact f5⟩,?_⟩
   ·show Qb _ _ _ _ (F2 4) _ _
    rw[f4,e4,List.length_append,ml]
    exact Zef
   ·simp only[vi,Zl,↓reduceIte,f12];omega
 ·have YF:¬(m:Int)<5:=by omega
  obtain rfl:m=5:=by omega
  have ht5:(XE r).take 5=XE r:=by rw[List.take_of_length_le];exact Nat.le_of_eq (VX r)
  rw[ht5]at hG f5
  have P1:=Zy N1.ZE.2 N1.pt.store.len
  have Jx:=Za N1.ZE.2
  obtain⟨lp,lc,OI,_⟩:=Yt.isSlice N1.pt.log
  have P11:=P1.log
  rw[OI]at P11
  have fJ:=hG.ZmN d hg
  obtain⟨u,hu⟩:=ZA (F 4)
  rw[←hu]at fJ hG
  obtain⟨top,ew⟩:=ZA (EV (XE r).flatten)
  rw[←ew]at f5
  have htl:top≤1000000:=by
   rw[ew]
   have key:∀(l:List Vt) (t:Int),t≤1000000→(∀v∈l,v.slot≤1000000)→l.foldl (fun t v=>if t<v.slot then v.slot else t) t≤1000000:=by
    intro l
    induction l with
    | nil=>intro t ht _;exact ht
    | cons x l ih=>
     intro t ht hh
     refine ih _ ?_ (fun v hv=>hh v (List.mem_cons_of_mem _ hv))
     show (if t<x.slot then x.slot else t)≤1000000
     split
     ·exact hh x List.mem_cons_self
     ·exact ht
   refine key _ _ (by omega) ?_
   intro v hv
   simp only[List.mem_flatten]at hv
   obtain⟨l,ki,Hn⟩:=hv
   obtain⟨k,hk,rfl⟩:=List.getElem_of_mem ki
   rw[I9]at Hn
   cases hx:Xc r.prom (k:Int) with
   | none=>rw[hx]at Hn;cases Hn
   | some y=>rw[hx]at Hn;exact hs _ (Mq hx) v Hn
  clear hG
  obtain⟨LL,hLL⟩:=ZA (XE r)
  rw[←hLL]at fJ ew
  obtain⟨C,hC⟩:=ZA ((top+1).toNat-n.log.length)
  have Bw:TW n r = { r with prop:=(List.range' n.log.length C).foldl (QI n LL) r.prop,begun:=true }:=by
   unfold TW;rw[hC,ew,hLL]
  rw[Bw]
  have hu':=hu.symm
  simp -implicitDefEqProofs only[go_sem,↓reduceIte,f0,f1,f5,f12,YF,P11]
  refine VS.ZW (fun F' g'=>Kp (XA i) o h o g'∧F' 0=.pointer (some ⟨nb,0,none⟩)∧F' 1=.pointer (some ⟨ra.rb,0,none⟩)∧F' 4=u∧F' 5=.int .i64 top∧Ag o g' u LL∧∃k:Nat,k≤C∧F' 9=.int .i64 ((n.log.length+k:Nat):Int)∧ZJ o g' wb i nb { a with Zj:=some ra } { n with Zj:=some { r with prop:=(List.range' n.log.length k).foldl (QI n LL) r.prop } })
   (fun F' _=>n.log.length+C-(vi (F' 9)).toNat) rfl ⟨ZF kg,f0,f1,hu',f5,fJ,0,by omega,rfl,N1⟩ ?_
  rintro F2 g2 ⟨K2,f0,f1,f4,f5,fJ,k,hk,f9,N2⟩
  obtain⟨pk,qG⟩:=ZA ((List.range' n.log.length k).foldl (QI n LL) r.prop)
  rw[←qG]at N2
  have R2:YC o i g2 ra { r with prop:=pk }:=N2.pt.Zj
  obtain⟨_,_,_,q4,_⟩:=R2.rr
  have P2:=Zy N2.ZE.2 N2.pt.store.len
  have JD:=Za N2.ZE.2
  have Db:=Za R2.ZE.2
  by_cases hkc:k<C
  ·have hle:(((n.log.length+k:Nat):Int))≤top:=by omega
   have lk:=fun (K:Value→Hp→Prop)=>Yo (K:=K) (n:=((n.log.length+k:Nat):Int)) (c:=true) Vs PN N2.pt.known.2
   rw[Xh]at lk
   have YH:(List.range' n.log.length (k+1)).foldl (QI n LL) r.prop=QI n LL pk (n.log.length+k):=by
    rw[List.range'_concat,List.foldl_append,←qG];simp
   cases hx:Xc n.known ((n.log.length+k:Nat):Int) with
   | some y=>
    have e6:QI n LL pk (n.log.length+k)=pk:=by unfold QI;rw[if_neg (by rw[hx];simp)]
    simp only[show ({ n with Zj:=some { r with prop:=pk } }:Nd).known=n.known from rfl,hx,Option.map_some,Option.getD_some,Option.isSome_some,↓reduceIte]at lk
    simp -implicitDefEqProofs only[go_sem,↓reduceIte,f0,f1,f4,f5,f9,hle,P2.known,lk,Wx]
    have kx:=ZY K2.ZX (.cells y.C.toArray 47)
    unfold Y9
    refine⟨⟨K2.push _,f0,f1,f4,f5,fJ.Zd kx,k+1,hkc,?_,by rw[YH,e6];exact N2.still kx⟩,?_⟩
    ·show Value.int .i64 _=Value.int .i64 _
     congr 1
    ·simp only[vi,Zl,↓reduceIte,f9];omega
   | none=>
    have e6:QI n LL pk (n.log.length+k)=ins pk ((n.log.length+k:Nat):Int) (EW LL ((n.log.length+k:Nat):Int)):=by unfold QI;rw[if_pos hx]
    simp only[show ({ n with Zj:=some { r with prop:=pk } }:Nd).known=n.known from rfl,hx,Option.map_none,Option.getD_none,Option.isSome_none,↓reduceIte]at lk
    simp -implicitDefEqProofs only[go_sem,↓reduceIte,f0,f1,f4,f5,f9,hle,P2.known,lk]
    obtain⟨g3,Ah⟩:=ZA (g2.push (.cells oy.C.toArray 47):Hp)
    have kx:Kp Qh o g2 o g3:=by rw[Ah];exact ZY K2.ZX _
    rw[←Ah]
    have N3:=N2.still kx
    have R3:YC o i g3 ra { r with prop:=pk }:=N3.pt.Zj
    obtain⟨_,_,_,q43,_⟩:=R3.rr
    have ZmS:=Za R3.ZE.2
    have hv3:=fJ.Zd kx
    have LLl:LL.length≤4611686018427387904:=by rw[hLL,VX];omega
    refine VS.z (g3.size) [12] (.p 0 (.p 1 (.p 2 (.q 3 (.p 4 (.p 5 (.p 6 (.s 7 (.p 8 (.p 9 (.p 10 (.p 11 (.w 12 .nil))))))))))))) mixed (by kernel_rfl) ?_
    simp -implicitDefEqProofs only[go_sem,↓reduceIte,f0,f1,f4,f5,f9,q43,ZmS]
    refine (qE T g3 u LL ((n.log.length+k:Nat):Int) hv3.vss LLl).use ?_
    rintro _ g4 ⟨qV,b4⟩
    unfold Gj at qV
    subst qV
    have k4:=ZD kx.ZX b4
    have N4:=N3.still k4
    have R4:YC o i g4 ra { r with prop:=pk }:=N4.pt.Zj
    have eC:Gi (if Sq ((n.log.length+k:Nat):Int) LL.flatten=0 then UT ((n.log.length+k:Nat):Int) LL.flatten else TQ)=(EW LL ((n.log.length+k:Nat):Int)).C:=by
     unfold EW;split<;>rfl
    rw[eC]
    simp -implicitDefEqProofs only[go_sem,↓reduceIte,b4,f0,f1,f4,f5,f9]
    rw[XJ Vs R4.prop.2]
    obtain⟨k5,R5⟩:=R4.bj k4.ZX (k:=((n.log.length+k:Nat):Int)) (x:=EW LL ((n.log.length+k:Nat):Int))
    have k5':Kp (XA i) o g4 o _:=k5.mono fun t q=>.inr (.inr (.inl q))
    simp -implicitDefEqProofs only[go_sem,↓reduceIte,f9]
    unfold Y9
    refine⟨⟨(K2.trans ((ZF kx).trans (ZF k4))).trans k5',f0,f1,f4,f5,(hv3.Zd k4).Zd k5',k+1,hkc,?_,?_⟩,?_⟩
    ·show Value.int .i64 _=Value.int .i64 _
     congr 1
    ·rw[YH,e6]
     exact⟨N4.ZE.Zd k5 (by intro e;cases e),ZV.Qa N4.pt k5' rfl rfl R5⟩
    ·simp only[vi,Zl,↓reduceIte,f9];omega
  ·have xR:¬(((n.log.length+k:Nat):Int))≤top:=by omega
   obtain rfl:k=C:=by omega
   obtain⟨g4,w4,h4⟩:∃g4,Jh g2 ⟨ra.rb,3,none⟩ (.bool true)=some g4∧g4=g2.setIfInBounds ra.rb (.cells (BX { r with prop:=pk,begun:=true } ra).toArray 181):=by
    refine⟨_,?_,rfl⟩
    rw[Yr R2.ZE.2,if_pos ⟨by simp[BX],rfl⟩];rfl
   simp -implicitDefEqProofs only[go_sem,↓reduceIte,f0,f1,f4,f5,f9,xR,Db,w4]
   have kk:Kp (fun t=>t=.Zj i) o g2 o g4:=by rw[h4];exact (Kp.refl K2.ZX (fun t=>t=.Zj i)).set R2.ZE.1 rfl _
   have R4:YC o i g4 ra { r with prop:=pk,begun:=true }:=⟨⟨R2.ZE.1,by rw[h4];exact Zv R2.ZE.2⟩,R2.prom.Zd kk (by intro e;cases e),R2.TZ.Zd kk,R2.prop.Zd kk (by intro e;cases e),R2.Jm.Zd kk (by intro e;cases e),R2.VW.Zd kk (fun _ e=>by cases e),R2.keys⟩
   rw[←qG]
   refine⟨ra,rfl,K2.trans (kk.mono fun t q=>.inl q),N2.ZE.Zd kk (by intro e;cases e),ZV.Qa N2.pt (kk.mono fun t q=>.inl q) rfl rfl R4⟩
end Go.Proofs.YtkfhncfkagcamaaGreatDoor
