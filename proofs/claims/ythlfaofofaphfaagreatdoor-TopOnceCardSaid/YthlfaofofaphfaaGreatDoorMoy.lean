/- Part Moy. -/
import Derived.Test.YthlfaofofaphfaaGreatDoorMop
import Derived.Test.YthlfaofofaphfaaGreatDoorOpn
open Go.Value renaming slice→H,int→Q,pointer→Z,agg→am,bool→a7
open Go.IntKind renaming i64→D
open Go.Obj renaming cells→J
open Go.Proofs.Tryz renaming prog→aN
open List renaming length→U,append_nil→ab,map_cons→a8,nodup_cons→a9,map→bd,range'→be,foldl_append→bh,mem_cons→bk
open Nat renaming le_refl→ae
open Option renaming isSome_none→aw,getD_some→aD,map_some→aO,isSome_some→a3,getD_none→a4,map_none→a6,some→O,none→aa
open Array renaming size_push→a5,getElem?_push→bf
open Bool renaming false_eq_true→a0
open And renaming intro→bc
open Go renaming Value→ag,World→ba,TypeId→bg
namespace Go.Proofs.YthlfaofofaphfaaGreatDoor
open Go Go.V
set_option linter.unusedSimpArgs false
set_option linter.unusedVariables false
set_option maxRecDepth 100000
theorem sW(G:Hp)(X Y:Obj):((G.push X).push Y)[G.size]? = O X:=by rw[ZJ IQ,Zc]
theorem gs2(G:Hp)(k:Nat)(X Y:Obj):((G.setIfInBounds k X).push Y)[G.size]? = O Y:=by
 have:=Zc (h:=G.setIfInBounds k X) (o:=Y);rwa [Array.size_setIfInBounds]at this
theorem vG(G:Hp)(X Y:Obj):((G.push X).push Y)[G.size+1]? = O Y:=by
 have:=Zc (h:=G.push X) (o:=Y);rwa [a5]at this
def nP(B:Nat)(g':Hp)(A C:ag)(p:YA)(l:List Vt)(b:YA):Prop:=
 ∃ka kc w1 w2,A=Zz ka/\C=Zz kc/\B<=ka/\B<=kc/\g'[ka]? = O (J (XC (if YI p l b=0 then b else ⟨0,0⟩) w1).toArray 105)/\g'[kc]? = O (J [w2].toArray 103) /\
  QF B 133 Zv 8 g' w1 (if YI p l b=0 then l else [])/\QF B 133 Zv 8 g' w2 (if YI p l b=0 then l else [])
def Cl(B:Nat)(g':Hp)(A:ag)(l:List Nat)(n:Int)(E:Int)(add:List Nat):Prop:=
 ∃ka w,A=Z (O ⟨ka,0,aa⟩)/\B<=ka/\g'[ka]? = O (J [w,Q D (if E=0 then n else 0)].toArray 100)/\YB B 5 g' w (if E=0 then l++add else [])
set_option maxHeartbeats 1000000 in
theorem dB(T:ba)(h:Hp)(o:Ow)(wb i nb:Nat)(YN:Nat->Nat)(a:NA)(n:Nd)(Xw:WA)(fl:List YH)(Yy:Nat->Int)(ZE:List Ob)(l:YH)(w:ag)(d:Vz o h)(N:Z6 o h wb i nb a n)(W:Z1 o h wb YN Xw fl Yy ZE)(iv:TY o h w l.vs)(Xf:(U fl)<=1000000000000)(hvl:n.Zq.l.length<=1000000)(vB:(U n.data)<=1000000)(tb:dp o h):
  Zd aN T 85 #[Zz wb,Zz nb,am (XV l w).toArray] h fun v' h'=>∃o' a' JD,Kp (fun t=>t=.world\/t=.Zp\/t=.ZS i) o h o' h'/\Z6 o' h' wb i nb a' (YG n l).n/\Z1 o' h' wb YN JD (fl++(YG n l).ls) Yy ZE:=by
 obtain⟨pw,cw,rfl⟩:=iv.ZP;refine Zd.XS [_,_,_] Tryz.func85 ?_;unfold Zz XV;simp -implicitDefEqProofs only[go_sem];obtain⟨h1,Xp⟩:=ZL (((h.push (J [Zz wb].toArray 91)).push (J [Zz nb].toArray 98)).push (J (XV l (H pw (U l.vs) cw)).toArray 135):Hp);have k1:Kp Wy o h o h1:=by rw[Xp];exact ((Kp.refl d _).push _ |>.push _).push _
 have s1:h1.size=h.size+3:=by rw[Xp];simp
 have d1:∀b,h.size<=b->o b=aa:=d;have x3:Yb o h1 h.size (J [Zz wb].toArray 91):=⟨d _ pA,by rw[Xp,ZJ VL,sW]⟩
 have x4:Yb o h1 (h.size+1) (J [Zz nb].toArray 98):=⟨d _ pA,by rw[Xp,ZJ IQ,vG]⟩
 have x5:Yb o h1 (h.size+2) (J (XV l (H pw (U l.vs) cw)).toArray 135):=⟨d _ pA,by
  have:=Zc (h:=(h.push (J [Zz wb].toArray 91)).push (J [Zz nb].toArray 98)) (o:=J (XV l (H pw (U l.vs) cw)).toArray 135);rw[Xp];simpa using this⟩
 have e0:((h.push (J [Zz wb].toArray 91)).push (J [Zz nb].toArray 98)).push (J (XV l (H pw (U l.vs) cw)).toArray 135)=h1:=Xp.symm;unfold Zz XV at e0;rw[e0];clear e0 Xp;have N1:=N.Zo k1;have W1:=W.Zo k1;have iv1:=iv.Zf k1;have R1:=ZR N1.ZZ.2 N1.pt.store.len;have Uh:=Za N1.ZZ.2;have l3:=Za x3.2;have l4:=Za x4.2;have l5:=Za x5.2;have r3:hc h1 ⟨h.size,0,aa⟩=O (Zz wb):=Zn x3.2;have r4:hc h1 ⟨h.size+1,0,aa⟩=O (Zz nb):=Zn x4.2;have r53:rd h1 ⟨h.size+2,3,aa⟩ 2=O [Q D l.b.r,Q D l.b.n]:=by rw[YL x5.2 (by simp[XV])];rfl
 have r51:hc h1 ⟨h.size+2,1,aa⟩=O (Q D l.Jw):=Zn x5.2;unfold Zz at r3 r4;have FY:=R1.Zq;obtain⟨pv,cv,vH⟩:=N1.pt.XW.ZP;rw[vH]at FY;have call:∀G,Zj h1.size h1 G->Zd aN T 95 #[am #[Q D n.Zq.p.r,Q D n.Zq.p.n,H pv n.Zq.l.length cv],am #[Q D l.b.r,Q D l.b.n]] G fun v' h'=>bM G.size h' v' n.Zq.p n.Zq.l l.b/\Zj G.size G h':=fun G hG=>
  Pg T G n.Zq.p _ n.Zq.l l.b (by rw[<-vH];exact N1.pt.XW.ts.Yz hG) pA
 obtain⟨E,hE⟩:=ZL (YI n.Zq.p n.Zq.l l.b);have wA:∀(G:Hp) (k:Nat) (r m:Int) (p:Option Addr) (L c:Nat),G[k]? = O (J [Q D 0,Q D 0,H aa 0 0].toArray 105)->wr G ⟨k,0,aa⟩ [Q D r,Q D m,H p L c]=O (G.setIfInBounds k (J [Q D r,Q D m,H p L c].toArray 105)):=fun G k r m p L c hx=>by
  rw[Ye hx 0 _];rfl
 have wB:∀(G:Hp) (k:Nat) (p:Option Addr) (L c:Nat),G[k]? = O (J [H aa 0 0].toArray 103)->QX G ⟨k,0,aa⟩ (H p L c)=O (G.setIfInBounds k (J [H p L c].toArray 103)):=fun G k p L c hx=>by
  rw[Xj hx 0 _];rfl
 refine VS.mono (N:=fun F' g'=>Zj h1.size h1 g'/\F' 3=Z (O ⟨h.size,0,aa⟩)/\F' 4=Z (O ⟨h.size+1,0,aa⟩)/\F' 5=Z (O ⟨h.size+2,0,aa⟩)/\F' 8=Q D E/\nP h1.size g' (F' 6) (F' 7) n.Zq.p n.Zq.l l.b) ?_ ?_ (fun _ _ _ h=>h) (fun _ _ h=>h)
 .refine VS.z (h1.size) [6,13,14] (.q 0 (.p 1 (.p 2 (.q 3 (.p 4 (.q 5 (.or 6 (.p 7 (.p 8 (.p 9 (.p 10 (.or 11 (.s 12 (.w 13 (.w 14 (.p 15 .nil)))) (.s 12 (.s 11 (.w 13 (.w 14 (.p 15 .nil)))))))))) (.or 11 (.or 6 (.p 7 (.p 8 (.p 9 (.p 10 (.s 12 (.w 13 (.w 14 (.p 15 .nil)))))))) (.s 12 (.w 6 (.p 7 (.p 8 (.p 9 (.p 10 (.w 13 (.w 14 (.p 15 .nil)))))))))) (.s 12 (.or 6 (.p 7 (.p 8 (.p 9 (.p 10 (.s 11 (.w 13 (.w 14 (.p 15 .nil)))))))) (.s 11 (.w 6 (.p 7 (.p 8 (.p 9 (.p 10 (.w 13 (.w 14 (.p 15 .nil))))))))))))))))))) mixed vM ?_;simp -implicitDefEqProofs only[go_sem,r4,FY,r53,Uh,l4,l5];unfold nP Zz XC
  repeat' (first|with_reducible exact Zj.refl _ _|with_reducible exact Zj.push pA _|with_reducible refine bc ?_ ?_)
  all_goals first
   | (refine (call h1 (Zj.refl _ _)).use ?_
      rintro _ g5 ⟨⟨w1,w2,rfl,o1,o2⟩,b5⟩;obtain⟨p1,c1,rfl,_⟩:=o1.open;obtain⟨p2,c2,rfl,_⟩:=o2.open;rw[<-hE]at *;have s5:=b5.size;unfold XC;simp -implicitDefEqProofs only[go_sem,b5];refine⟨⟨_,_,_,_,rfl,rfl,s5,pA,sW _ _ _,vG _ _ _,(o1.push _).push _,(o2.push _).push _⟩,⟨_,_,_,_,rfl,rfl,pA,s5,vG _ _ _,sW _ _ _,(o1.push _).push _,(o2.push _).push _⟩⟩)
   | (refine (call (h1.push (J _ 105)) (Zj.push (ae _) _)).use ?_
      rintro _ g5 ⟨⟨w1,w2,rfl,o1,o2⟩,b5⟩;obtain⟨p1,c1,rfl,_⟩:=o1.open;obtain⟨p2,c2,rfl,_⟩:=o2.open;rw[<-hE]at *;have s5:=b5.size;rw[a5]at s5;have B5:Zj h1.size h1 g5:=(Zj.push (ae _) _).trans (b5.mono IQ);have xA:=b5.get (k:=h1.size) IQ Zc;have PM:=wA _ _ (if E=0 then l.b else ⟨0,0⟩).r (if E=0 then l.b else ⟨0,0⟩).n p1 (if E=0 then n.Zq.l else []).length c1 xA;have zA:=Za xA;unfold XC;simp -implicitDefEqProofs only[go_sem,B5,PM,zA];exact⟨_,_,_,_,rfl,rfl,ae _,pA,by rw[ZJ (by simpa using zA)];exact ZV xA,gs2 _ _ _ _,((o1.Ya IQ _).push _).mono IQ,((o2.Ya IQ _).push _).mono IQ⟩)
   | (refine (call (h1.push (J _ 103)) (Zj.push (ae _) _)).use ?_
      rintro _ g5 ⟨⟨w1,w2,rfl,o1,o2⟩,b5⟩;obtain⟨p1,c1,rfl,_⟩:=o1.open;obtain⟨p2,c2,rfl,_⟩:=o2.open;rw[<-hE]at *;have s5:=b5.size;rw[a5]at s5;have B5:Zj h1.size h1 g5:=(Zj.push (ae _) _).trans (b5.mono IQ);have xB:=b5.get (k:=h1.size) IQ Zc;have FX:=wB _ _ p2 (if E=0 then n.Zq.l else []).length c2 xB;have zB:=Za xB;unfold XC;simp -implicitDefEqProofs only[go_sem,B5,FX,zB];exact⟨_,_,_,_,rfl,rfl,pA,ae _,gs2 _ _ _ _,by rw[ZJ (by simpa using zB)];exact ZV xB,((o1.Ya IQ _).push _).mono IQ,((o2.Ya IQ _).push _).mono IQ⟩)
   | (refine (call ((h1.push (J _ 105)).push (J _ 103)) ((Zj.push (ae _) _).YX IQ _)).use ?_
      rintro _ g5 ⟨⟨w1,w2,rfl,o1,o2⟩,b5⟩;obtain⟨p1,c1,rfl,_⟩:=o1.open;obtain⟨p2,c2,rfl,_⟩:=o2.open;rw[<-hE]at *;have s5:=b5.size;rw[a5,a5]at s5;have B5:Zj h1.size h1 g5:=((Zj.push (ae _) _).YX IQ _).trans (b5.mono VL);have xA:=b5.get (k:=h1.size) VL (sW _ _ _);have xB:=b5.get (k:=h1.size+1) IQ (vG _ _ _);have PM:=wA _ _ (if E=0 then l.b else ⟨0,0⟩).r (if E=0 then l.b else ⟨0,0⟩).n p1 (if E=0 then n.Zq.l else []).length c1 xA;have zA:=Za xA;have Ig:=fun o:Obj=>(Xg (o:=o) (show h1.size≠h1.size+1 by omega)).trans xB;have FX:=fun o:Obj=>wB _ _ p2 (if E=0 then n.Zq.l else []).length c2 (Ig o);have zB:h1.size+1<g5.size:=Za xB;unfold XC;simp -implicitDefEqProofs only[go_sem,B5,PM,zA,FX,zB];exact⟨_,_,_,_,rfl,rfl,pA,pA,(Xg pA).trans (ZV xA),ZV (Ig _),((o1.Ya VL _).Ya IQ _).mono VL,((o2.Ya VL _).Ya IQ _).mono VL⟩)
   | (refine (call ((h1.push (J _ 103)).push (J _ 105)) ((Zj.push (ae _) _).YX IQ _)).use ?_
      rintro _ g5 ⟨⟨w1,w2,rfl,o1,o2⟩,b5⟩;obtain⟨p1,c1,rfl,_⟩:=o1.open;obtain⟨p2,c2,rfl,_⟩:=o2.open;rw[<-hE]at *;have s5:=b5.size;rw[a5,a5]at s5;have B5:Zj h1.size h1 g5:=((Zj.push (ae _) _).YX IQ _).trans (b5.mono VL);have xB:=b5.get (k:=h1.size) VL (sW _ _ _);have xA:=b5.get (k:=h1.size+1) IQ (vG _ _ _);have PM:=wA _ _ (if E=0 then l.b else ⟨0,0⟩).r (if E=0 then l.b else ⟨0,0⟩).n p1 (if E=0 then n.Zq.l else []).length c1 xA;have zA:=Za xA;have Ig:=fun o:Obj=>(Xg (o:=o) (show h1.size+1≠h1.size by omega)).trans xB;have FX:=fun o:Obj=>wB _ _ p2 (if E=0 then n.Zq.l else []).length c2 (Ig o);have zB:h1.size<g5.size:=Za xB;unfold XC;simp -implicitDefEqProofs only[go_sem,B5,PM,zA,FX,zB];exact⟨_,_,_,_,rfl,rfl,pA,pA,(Xg pA).trans (ZV xA),ZV (Ig _),((o1.Ya IQ _).Ya VL _).mono VL,((o2.Ya IQ _).Ya VL _).mono VL⟩)
 .rintro F1 g1 ⟨b1,f3,f4,f5,f8,ka,kc,w1,w2,fA,fC,ge1,ge2,yA,yC,o1,o2⟩;rw[<-hE]at yA o1 o2;have kb:=ZX k1.Yn b1;have N2:=N1.Zo kb;have W2:=W1.Zo kb;have K2:Kp Wy o h o g1:=k1.Yz b1;have y3:=x3.Zf kb;have y4:=x4.Zf kb;have y5:=x5.Zf kb;have vE:=iv1.Zf kb;have iO:=(tb.Zf k1).Zf kb;have R2:=ZR N2.ZZ.2 N2.pt.store.len;have m3:=Za y3.2;have m4:=Za y4.2;have m5:=Za y5.2;have Us:=Za N2.ZZ.2;have q3:hc g1 ⟨h.size,0,aa⟩=O (Zz wb):=Zn y3.2;have q4:hc g1 ⟨h.size+1,0,aa⟩=O (Zz nb):=Zn y4.2;have nQ:rd g1 ⟨h.size+2,3,aa⟩ 2=O [Q D l.b.r,Q D l.b.n]:=by rw[YL y5.2 (by simp[XV])];rfl
  have q51:hc g1 ⟨h.size+2,1,aa⟩=O (Q D l.Jw):=Zn y5.2;unfold Zz at q3 q4;have R2p:=R2.dq;by_cases e:E=0
  case neg=>
   have eP:YG n l=⟨n,[⟨7,n.me,l.Jw,n.Zq.p,SU,[]⟩],[]⟩:=by unfold YG;rw[<-hE,if_pos e]
   rw[eP];simp -implicitDefEqProofs only[go_sem,f8,e];refine VS.z (g1.size) [10] (.q 0 (.q 1 (.p 2 (.q 3 (.q 4 (.p 5 (.p 6 (.p 7 (.q 8 (.p 9 (.w 10 .nil))))))))))) mixed vM ?_;simp -implicitDefEqProofs only[go_sem,f3,f4,f5,q3,q4,q51,R2p,m3,m4,m5,Us];refine (V3 T g1 o wb nb YN n.me Xw fl Yy ZE l.Jw ⟨7,0,0,n.Zq.p,SU,[]⟩ (H aa 0 0) K2.Yn W2 R2.me Us (Im.nil _ _ _ _) Xf).use ?_;rintro v' h' ⟨o',JD,k,_,W'⟩;simp -implicitDefEqProofs only[go_sem];exact⟨o',a,JD,(Z0 K2).trans (k.mono fun t q=>q.elim .inl fun q=>.inr (.inl q)),N2.Zf k (by rintro t (rfl|rfl)<;>simp[Tg.of]),W'⟩
  rw[if_pos e]at yA o1 o2;have iv7:TY o g1 w2 n.Zq.l:=Im.WS o2.Zq (fun b hb=>k1.Yn b hb);have iv6:TY o g1 w1 n.Zq.l:=Im.WS o1.Zq (fun b hb=>k1.Yn b hb);unfold Zz at fA fC;simp -implicitDefEqProofs only[go_sem,f8,e,f3,f4,f5,fC];obtain⟨g2,Wv⟩:=ZL (g1.push (J [Sa 106 [h.size,h.size+1,h.size+2,kc]].toArray 1):Hp);have k2:=Yw K2.Yn (J [Sa 106 [h.size,h.size+1,h.size+2,kc]].toArray 1);rw[<-Wv]at k2;have K3:Kp Wy o h o g2:=K2.trans k2;have x9:Yb o g2 g1.size (J [Sa 106 [h.size,h.size+1,h.size+2,kc]].toArray 1):=⟨K2.Yn _ (ae _),by rw[Wv];exact Zc⟩
  have e2:g1.push (J [Sa 106 [h.size,h.size+1,h.size+2,kc]].toArray 1)=g2:=Wv.symm;unfold Sa at e2;simp only[bd]at e2;unfold Zz at e2;rw[e2];clear e2 Wv;have N3:=N2.Zo k2;have W3:=W2.Zo k2;have z3:=y3.Zf k2;have z4:=y4.Zf k2;have z5:=y5.Zf k2;have z6:=(show Yb o g1 ka _ from⟨k1.Yn ka ge1,yA⟩).Zf k2;have z7:=(show Yb o g1 kc _ from⟨k1.Yn kc ge2,yC⟩).Zf k2;have iw7:=iv7.Zf k2;have iw6:=iv6.Zf k2;have tb3:=iO.Zf k2;clear R2 R2p m3 m4 m5 Us q3 q4 nQ q51 R1 FY Uh l3 l4 l5 r3 r4 r53 r51;have R3:=ZR N3.ZZ.2 N3.pt.store.len;have m3:=Za z3.2;have m4:=Za z4.2;have m5:=Za z5.2;have m9:=Za x9.2;have MH:=Za N3.ZZ.2;have q4:hc g2 ⟨h.size+1,0,aa⟩=O (Zz nb):=Zn z4.2;have nQ:rd g2 ⟨h.size+2,3,aa⟩ 2=O (QI l.b):=by rw[YL z5.2 (by simp[XV])];rfl
  have q9:hc g2 ⟨g1.size,0,aa⟩=O (Sa 106 [h.size,h.size+1,h.size+2,kc]):=Zn x9.2;have R3p:rd g2 ⟨nb,4,aa⟩ 2=O (QI n.Zq.p):=R3.dq;unfold Zz at q4;refine VS.q mixed vM ?_;simp -implicitDefEqProofs only[go_sem,f4,f5,q4,nQ,R3p];by_cases ep:n.Zq.p=l.b
  .have eP:YG n l=⟨n,[⟨1,n.me,l.Jw,l.b,SU,n.Zq.l⟩],[]⟩:=by unfold YG;rw[<-hE,if_neg pA,if_pos ep]
   rw[eP];unfold Sa at q9;simp only[bd]at q9;unfold Zz at q9;simp -implicitDefEqProofs only[go_sem,ep,q9];refine (nM T g2 o wb nb YN n.me Xw fl Yy ZE h.size (h.size+1) (h.size+2) kc l _ w2 n.Zq.l K3.Yn W3 R3.me MH Xf z3 z4 z5 z7 iw7).use ?_;rintro v' h' ⟨o',JD,k,W'⟩;simp -implicitDefEqProofs only[go_sem];exact⟨o',a,JD,(Z0 K3).trans (k.mono fun t q=>q.elim .inl fun q=>.inr (.inl q)),N3.Zf k (by rintro t (rfl|rfl)<;>simp[Tg.of]),W'⟩
  simp -implicitDefEqProofs only[go_sem,ep];have R3t:=R3.tape;obtain⟨pd,cd,Oc⟩:=N3.pt.data.1.ZP;rw[Oc]at R3t;obtain⟨E2,sX⟩:=ZL (Jp n.data n.Y4 l.b);have call2:∀G,Zj g2.size g2 G->Zd aN T 107 #[am #[H pd (U n.data) cd,Q D n.Y4],am #[Q D l.b.r,Q D l.b.n]] G fun v' h'=>Pk G.size h' v' n.data n.Y4 E2 (YV (JT l.b))/\Zj G.size G h':=fun G hG=>by
   rw[sX];exact I6 T G _ n.Y4 n.data l.b (by rw[<-Oc];exact N3.pt.data.bs.Yz hG) pA (tb3.tk.Qj hG)
  have wT:∀(G:Hp) (k:Nat) (m:Int) (p:Option Addr) (L c:Nat),G[k]? = O (J [H aa 0 0,Q D 0].toArray 100)->wr G ⟨k,0,aa⟩ [H p L c,Q D m]=O (G.setIfInBounds k (J [H p L c,Q D m].toArray 100)):=fun G k m p L c hx=>by
   rw[Ye hx 0 _];rfl
  unfold QI at nQ;refine VS.mono (N:=fun F' g'=>Zj g2.size g2 g'/\F' 3=Z (O ⟨h.size,0,aa⟩)/\F' 4=Z (O ⟨h.size+1,0,aa⟩)/\F' 5=Z (O ⟨h.size+2,0,aa⟩)/\F' 6=Z (O ⟨ka,0,aa⟩)/\F' 9=Z (O ⟨g1.size,0,aa⟩)/\F' 8=Q D E2/\Cl g2.size g' (F' 10) n.data n.Y4 E2 (YV (JT l.b))) ?_ ?_ (fun _ _ _ h=>h) (fun _ _ h=>h)
  .refine VS.z (g2.size) [6,11] (.q 0 (.p 1 (.p 2 (.q 3 (.p 4 (.q 5 (.or 6 (.p 7 (.p 8 (.p 9 (.s 10 (.w 11 (.p 12 .nil)))))) (.s 10 (.w 6 (.p 7 (.p 8 (.p 9 (.w 11 (.p 12 .nil)))))))))))))) mixed vM ?_;simp -implicitDefEqProofs only[go_sem,f3,f4,f5,fA,q4,R3t,nQ,m4,m5,MH];unfold Cl
   repeat' (first|with_reducible exact Zj.refl _ _|with_reducible exact Zj.push pA _|with_reducible refine bc ?_ ?_)
   all_goals first
    | (refine (call2 g2 (Zj.refl _ _)).use ?_
       rintro _ g5 ⟨⟨w,rfl,o1⟩,b5⟩;obtain⟨p1,c1,rfl,_⟩:=o1.bs.open;have s5:=b5.size;simp -implicitDefEqProofs only[go_sem,b5];exact⟨f3,f4,f5,fA,_,_,rfl,s5,Zc,o1.push _⟩)
    | (refine (call2 (g2.push (J _ 100)) (Zj.push (ae _) _)).use ?_
       rintro _ g5 ⟨⟨w,rfl,o1⟩,b5⟩;obtain⟨p1,c1,rfl,_⟩:=o1.bs.open;have B5:Zj g2.size g2 g5:=(Zj.push (ae _) _).trans (b5.mono IQ);have xA:=b5.get (k:=g2.size) IQ Zc;have PM:=wT _ _ (if E2=0 then n.Y4 else 0) p1 (if E2=0 then n.data++YV (JT l.b) else []).length c1 xA;have zA:=Za xA;simp -implicitDefEqProofs only[go_sem,B5,PM,zA];exact⟨f3,f4,f5,fA,_,_,rfl,ae _,ZV xA,(o1.Ya IQ _).mono IQ⟩)
  .rintro F2 g3 ⟨b3,f3,f4,f5,f6,f9,f8,kt,wt,fT,ge3,yT,oT⟩;have TZ:=ZX K3.Yn b3;have N4:=N3.Zo TZ;have W4:=W3.Zo TZ;have K4:Kp Wy o h o g3:=K3.Yz b3;by_cases e2:E2=0
   case neg=>
    have eP:YG n l=⟨n,[],[]⟩:=by unfold YG;rw[<-hE,if_neg pA,if_neg ep,<-sX,if_pos e2]
    rw[eP,ab];simp -implicitDefEqProofs only[go_sem,f8,e2];exact⟨o,a,Xw,Z0 K4,N4,W4⟩
   rw[if_pos e2]at yT oT;have u3:=z3.Zf TZ;have u4:=z4.Zf TZ;have u5:=z5.Zf TZ;have u6:=z6.Zf TZ;have u7:=z7.Zf TZ;have u9:=x9.Zf TZ;have iu6:=iw6.Zf TZ;have iu7:=iw7.Zf TZ;have iT:Pv o g3 wt (n.data++YV (JT l.b)):=⟨Im.WS oT.Zq (fun b hb=>K3.Yn b hb),oT.byte⟩
   have eP:YG n l=⟨{ n with data:=n.data++YV (JT l.b),Zs:=O (.VN ⟨l.b,n.Zq.l⟩ l.Jw l.b n.Zq.l) },[],[]⟩:=by unfold YG;rw[<-hE,if_neg pA,if_neg ep,<-sX,if_neg pA]
   rw[eP,ab];clear R3 m3 m4 m5 m9 MH q4 nQ q9 R3p R3t;obtain⟨pt,ct,rfl,_⟩:=oT.bs.open;have q4:hc g3 ⟨h.size+1,0,aa⟩=O (Zz nb):=Zn u4.2;have qT:rd g3 ⟨kt,0,aa⟩ 2=O [H pt (n.data++YV (JT l.b)).length ct,Q D n.Y4]:=Zy yT rfl;have HX:=Za N4.ZZ.2;obtain⟨g4,w4,N5,k5⟩:=Yi.write (a:={ a with data:=H pt (n.data++YV (JT l.b)).length ct }) (n:={ n with data:=n.data++YV (JT l.b) }) { N4.pt with data:=iT } K4.Yn N4.ZZ ((XM N4.ZZ.2 N4.pt.store.len).tape (H pt (n.data++YV (JT l.b)).length ct) n.Y4 rfl);have v4:=u4.Zf k5;have q4':hc g4 ⟨h.size+1,0,aa⟩=O (Zz nb):=Zn v4.2;have MI:=Za N5.ZZ.2;have pn:Vu o g4 wb i nb a.Zh (Sa 108 [ka,h.size+1,g1.size]) (O (.VN ⟨l.b,n.Zq.l⟩ l.Jw l.b n.Zq.l)):=
    ⟨ka,h.size+1,g1.size,_,rfl,⟨_,u6.Zf k5,iu6.Zf k5⟩,v4,u9.Zf k5,h.size,h.size+1,h.size+2,kc,l,_,w2,rfl,u3.Zf k5,v4,u5.Zf k5,rfl,rfl,u7.Zf k5,iu7.Zf k5⟩
   obtain⟨g6,w6,N6,k6⟩:=Yi.write (a:={ a with data:=H pt (n.data++YV (JT l.b)).length ct,Zs:=Sa 108 [ka,h.size+1,g1.size] }) (n:={ n with data:=n.data++YV (JT l.b),Zs:=O (.VN ⟨l.b,n.Zq.l⟩ l.Jw l.b n.Zq.l) }) { N5.pt with Zs:=pn } k5.Yn N5.ZZ ((XM N5.ZZ.2 N5.pt.store.len).Zs (Sa 108 [ka,h.size+1,g1.size]) rfl);unfold Sa at w6;simp only[bd]at w6;unfold Zz at q4 q4' w6;simp -implicitDefEqProofs only[go_sem,f8,e2,f4,f6,f9,fT,q4,qT,w4,HX,q4',w6,MI];have K6:Kp (fun t=>t=.world\/t=.Zp\/t=.ZS i) o h o g6:=((Z0 K4).trans (k5.mono fun t q=>.inr (.inr q))).trans (k6.mono fun t q=>.inr (.inr q));exact⟨o,_,Xw,K6,N6,(W4.Zf k5 (by rintro t rfl;simp[Tg.of])).Zf k6 (by rintro t rfl;simp[Tg.of])⟩
def ZfY(B:Nat)(g':Hp)(A:ag)(p:YA)(l:List Vt)(x:Vt):Prop:=
 ∃ka w,A=Z (O ⟨ka,0,aa⟩)/\B<=ka/\g'[ka]? = O (J (XC (if Xn p l x=0 then x.b else ⟨0,0⟩) w).toArray 105)/\QF B 133 Zv 8 g' w (if Xn p l x=0 then JH l x else [])
set_option maxHeartbeats 1000000 in
theorem ZaF(T:ba)(h:Hp)(o:Ow)(wb i nb:Nat)(YN:Nat->Nat)(a:NA)(n:Nd)(Xw:WA)(fl:List YH)(Yy:Nat->Int)(ZE:List Ob)(l:YH)(w:ag)(d:Vz o h)(N:Z6 o h wb i nb a n)(W:Z1 o h wb YN Xw fl Yy ZE)(iv:TY o h w l.vs)(Xf:(U fl)<=1000000000000)(hvl:n.Zq.l.length<=1000000)(vB:(U n.data)<=1000000)(tb:dp o h):
  Zd aN T 87 #[Zz wb,Zz nb,am (XV l w).toArray] h fun v' h'=>∃o' a' JD,Kp (fun t=>t=.world\/t=.Zp\/t=.ZS i) o h o' h'/\Z6 o' h' wb i nb a' (asked n l).n/\Z1 o' h' wb YN JD (fl++(asked n l).ls) Yy ZE:=by
 obtain⟨pw,cw,rfl⟩:=iv.ZP;refine Zd.XS [_,_,_] Tryz.func87 ?_;unfold Zz XV;simp -implicitDefEqProofs only[go_sem];obtain⟨h1,Xp⟩:=ZL (((h.push (J [Zz wb].toArray 91)).push (J [Zz nb].toArray 98)).push (J (XV l (H pw (U l.vs) cw)).toArray 135):Hp);have k1:Kp Wy o h o h1:=by rw[Xp];exact ((Kp.refl d _).push _ |>.push _).push _
 have s1:h1.size=h.size+3:=by rw[Xp];simp
 have d1:∀b,h.size<=b->o b=aa:=d;have x3:Yb o h1 h.size (J [Zz wb].toArray 91):=⟨d _ pA,by rw[Xp,ZJ VL,sW]⟩
 have x4:Yb o h1 (h.size+1) (J [Zz nb].toArray 98):=⟨d _ pA,by rw[Xp,ZJ IQ,vG]⟩
 have x5:Yb o h1 (h.size+2) (J (XV l (H pw (U l.vs) cw)).toArray 135):=⟨d _ pA,by
  have:=Zc (h:=(h.push (J [Zz wb].toArray 91)).push (J [Zz nb].toArray 98)) (o:=J (XV l (H pw (U l.vs) cw)).toArray 135);rw[Xp];simpa using this⟩
 have e0:((h.push (J [Zz wb].toArray 91)).push (J [Zz nb].toArray 98)).push (J (XV l (H pw (U l.vs) cw)).toArray 135)=h1:=Xp.symm;unfold Zz XV at e0;rw[e0];clear e0 Xp;have N1:=N.Zo k1;have W1:=W.Zo k1;have iv1:=iv.Zf k1;have R1:=ZR N1.ZZ.2 N1.pt.store.len;have Uh:=Za N1.ZZ.2;have l3:=Za x3.2;have l4:=Za x4.2;have l5:=Za x5.2;have r3:hc h1 ⟨h.size,0,aa⟩=O (Zz wb):=Zn x3.2;have r4:hc h1 ⟨h.size+1,0,aa⟩=O (Zz nb):=Zn x4.2;have r53:rd h1 ⟨h.size+2,5,aa⟩ 8=O (Zv l.v):=by rw[YL x5.2 (by simp[XV])];rfl
 have r51:hc h1 ⟨h.size+2,1,aa⟩=O (Q D l.Jw):=Zn x5.2;unfold Zz at r3 r4;have FY:=R1.Zq;obtain⟨pv,cv,vH⟩:=N1.pt.XW.ZP;rw[vH]at FY;unfold Zv at r53;have call:∀G,Zj h1.size h1 G->Zd aN T 97 #[am #[Q D n.Zq.p.r,Q D n.Zq.p.n,H pv n.Zq.l.length cv],am (Zv l.v).toArray] G fun v' h'=>nF G.size h' v' n.Zq.p n.Zq.l l.v/\Zj G.size G h':=fun G hG=>
  Ie T G n.Zq.p _ n.Zq.l l.v (by rw[<-vH];exact N1.pt.XW.ts.Yz hG) pA
 unfold Zv at call;obtain⟨E,hE⟩:=ZL (Xn n.Zq.p n.Zq.l l.v);have wA:∀(G:Hp) (k:Nat) (r m:Int) (p:Option Addr) (L c:Nat),G[k]? = O (J [Q D 0,Q D 0,H aa 0 0].toArray 105)->wr G ⟨k,0,aa⟩ [Q D r,Q D m,H p L c]=O (G.setIfInBounds k (J [Q D r,Q D m,H p L c].toArray 105)):=fun G k r m p L c hx=>by
  rw[Ye hx 0 _];rfl
 refine VS.mono (N:=fun F' g'=>Zj h1.size h1 g'/\F' 3=Z (O ⟨h.size,0,aa⟩)/\F' 4=Z (O ⟨h.size+1,0,aa⟩)/\F' 5=Z (O ⟨h.size+2,0,aa⟩)/\F' 7=Q D E/\ZfY h1.size g' (F' 6) n.Zq.p n.Zq.l l.v) ?_ ?_ (fun _ _ _ h=>h) (fun _ _ h=>h)
 .refine VS.z (h1.size) [6,11] (.q 0 (.p 1 (.p 2 (.q 3 (.p 4 (.q 5 (.or 6 (.p 7 (.p 8 (.p 9 (.s 10 (.w 11 (.p 12 .nil)))))) (.s 10 (.w 6 (.p 7 (.p 8 (.p 9 (.w 11 (.p 12 .nil)))))))))))))) mixed vM ?_;simp -implicitDefEqProofs only[go_sem,r4,FY,r53,Uh,l4,l5];unfold ZfY XC
  repeat' (first|with_reducible exact Zj.refl _ _|with_reducible exact Zj.push pA _|with_reducible refine bc ?_ ?_)
  all_goals first
   | (refine (call h1 (Zj.refl _ _)).use ?_
      rintro _ g5 ⟨⟨w1,rfl,o1⟩,b5⟩;obtain⟨p1,c1,rfl,_⟩:=o1.open;rw[<-hE]at *;have s5:=b5.size;unfold XC;simp -implicitDefEqProofs only[go_sem,b5];exact⟨_,_,rfl,s5,Zc,o1.push _⟩)
   | (refine (call (h1.push (J _ 105)) (Zj.push (ae _) _)).use ?_
      rintro _ g5 ⟨⟨w1,rfl,o1⟩,b5⟩;obtain⟨p1,c1,rfl,_⟩:=o1.open;rw[<-hE]at *;have B5:Zj h1.size h1 g5:=(Zj.push (ae _) _).trans (b5.mono IQ);have xA:=b5.get (k:=h1.size) IQ Zc;have PM:=wA _ _ (if E=0 then l.v.b else ⟨0,0⟩).r (if E=0 then l.v.b else ⟨0,0⟩).n p1 (if E=0 then JH n.Zq.l l.v else []).length c1 xA;have zA:=Za xA;unfold XC;simp -implicitDefEqProofs only[go_sem,B5,PM,zA];exact⟨_,_,rfl,ae _,ZV xA,(o1.Ya IQ _).mono IQ⟩)
 .rintro F1 g1 ⟨b1,f3,f4,f5,f8,ka,w1,fA,ge1,yA,o1⟩;rw[<-hE]at yA o1;have kb:=ZX k1.Yn b1;have N2:=N1.Zo kb;have W2:=W1.Zo kb;have K2:Kp Wy o h o g1:=k1.Yz b1;have y3:=x3.Zf kb;have y4:=x4.Zf kb;have y5:=x5.Zf kb;have vE:=iv1.Zf kb;have iO:=(tb.Zf k1).Zf kb;have R2:=ZR N2.ZZ.2 N2.pt.store.len;have m3:=Za y3.2;have m4:=Za y4.2;have m5:=Za y5.2;have Us:=Za N2.ZZ.2;have q3:hc g1 ⟨h.size,0,aa⟩=O (Zz wb):=Zn y3.2;have q4:hc g1 ⟨h.size+1,0,aa⟩=O (Zz nb):=Zn y4.2;have q51:hc g1 ⟨h.size+2,1,aa⟩=O (Q D l.Jw):=Zn y5.2;unfold Zz at q3 q4;have R2p:=R2.dq;by_cases e:E=0
  case neg=>
   have eP:asked n l=⟨n,[⟨7,n.me,l.Jw,n.Zq.p,SU,[]⟩],[]⟩:=by unfold asked;rw[<-hE,if_pos e]
   rw[eP];simp -implicitDefEqProofs only[go_sem,f8,e];refine VS.z (g1.size) [10] (.q 0 (.q 1 (.p 2 (.q 3 (.q 4 (.p 5 (.p 6 (.p 7 (.q 8 (.p 9 (.w 10 .nil))))))))))) mixed vM ?_;simp -implicitDefEqProofs only[go_sem,f3,f4,f5,q3,q4,q51,R2p,m3,m4,m5,Us];refine (V3 T g1 o wb nb YN n.me Xw fl Yy ZE l.Jw ⟨7,0,0,n.Zq.p,SU,[]⟩ (H aa 0 0) K2.Yn W2 R2.me Us (Im.nil _ _ _ _) Xf).use ?_;rintro v' h' ⟨o',JD,k,_,W'⟩;simp -implicitDefEqProofs only[go_sem];exact⟨o',a,JD,(Z0 K2).trans (k.mono fun t q=>q.elim .inl fun q=>.inr (.inl q)),N2.Zf k (by rintro t (rfl|rfl)<;>simp[Tg.of]),W'⟩
  rw[if_pos e]at yA o1;have iv6:TY o g1 w1 (JH n.Zq.l l.v):=Im.WS o1.Zq (fun b hb=>k1.Yn b hb);simp -implicitDefEqProofs only[go_sem,f8,e,f3,f4,f5];obtain⟨g2,Wv⟩:=ZL (g1.push (J [Sa 111 [h.size,h.size+1,h.size+2]].toArray 1):Hp);have k2:=Yw K2.Yn (J [Sa 111 [h.size,h.size+1,h.size+2]].toArray 1);rw[<-Wv]at k2;have K3:Kp Wy o h o g2:=K2.trans k2;have x9:Yb o g2 g1.size (J [Sa 111 [h.size,h.size+1,h.size+2]].toArray 1):=⟨K2.Yn _ (ae _),by rw[Wv];exact Zc⟩
  have e2:g1.push (J [Sa 111 [h.size,h.size+1,h.size+2]].toArray 1)=g2:=Wv.symm;unfold Sa at e2;simp only[bd]at e2;unfold Zz at e2;rw[e2];clear e2 Wv;have N3:=N2.Zo k2;have W3:=W2.Zo k2;have z3:=y3.Zf k2;have z4:=y4.Zf k2;have z5:=y5.Zf k2;have z6:=(show Yb o g1 ka _ from⟨k1.Yn ka ge1,yA⟩).Zf k2;have iw6:=iv6.Zf k2;have tb3:=iO.Zf k2;clear R2 R2p m3 m4 m5 Us q3 q4 q51 R1 FY Uh l3 l4 l5 r3 r4 r53 r51;have R3:=ZR N3.ZZ.2 N3.pt.store.len;have m3:=Za z3.2;have m4:=Za z4.2;have m5:=Za z5.2;have m9:=Za x9.2;have MH:=Za N3.ZZ.2;have q4:hc g2 ⟨h.size+1,0,aa⟩=O (Zz nb):=Zn z4.2;have nQ:rd g2 ⟨h.size+2,5,aa⟩ 8=O (Zv l.v):=by rw[YL z5.2 (by simp[XV])];rfl
  have q9:hc g2 ⟨g1.size,0,aa⟩=O (Sa 111 [h.size,h.size+1,h.size+2]):=Zn x9.2;have R3v:=R3.XW;have N3v:=N3.pt.XW;unfold Zz at q4;unfold Zv at nQ;refine VS.mono (N:=fun F' g'=>Zj g2.size g2 g'/\F' 3=Z (O ⟨h.size,0,aa⟩)/\F' 4=Z (O ⟨h.size+1,0,aa⟩)/\F' 5=Z (O ⟨h.size+2,0,aa⟩)/\F' 6=Z (O ⟨ka,0,aa⟩)/\F' 8=Z (O ⟨g1.size,0,aa⟩)/\F' 41=a7 (decide (l.v∈n.Zq.l))) ?_ ?_ (fun _ _ _ h=>h) (fun _ _ h=>h)
  .refine VS.z (g2.size) [7] (.q 0 (.p 1 (.p 2 (.p 3 (.q 4 (.p 5 (.q 6 (.w 7 .nil)))))))) mixed vM ?_;simp -implicitDefEqProofs only[go_sem,f3,f4,f5,fA,q4,nQ,R3v,m4,m5,MH];have cv:=Dq T g2 a.XW n.Zq.l l.v N3v.ts pA;unfold Zv at cv;refine cv.use ?_;rintro _ g5 ⟨rfl,b5⟩;simp -implicitDefEqProofs only[go_sem,b5,f3,f4,f5,fA]
  rintro F1' jZ ⟨vr,f3,f4,f5,fA,f9,f41⟩;have NM:=ZX K3.Yn vr
  replace N3:=N3.Zo NM
  replace W3:=W3.Zo NM
  replace K3:=K3.trans NM
  replace z3:=z3.Zf NM
  replace z4:=z4.Zf NM
  replace z5:=z5.Zf NM
  replace z6:=z6.Zf NM
  replace iw6:=iw6.Zf NM
  replace tb3:=tb3.Zf NM
  replace x9:=x9.Zf NM
  clear R3 m3 m4 m5 m9 MH q4 nQ q9 R3v N3v;have R3:=ZR N3.ZZ.2 N3.pt.store.len;have m3:=Za z3.2;have m4:=Za z4.2;have m5:=Za z5.2;have m9:=Za x9.2;have MH:=Za N3.ZZ.2;have q4:hc jZ ⟨h.size+1,0,aa⟩=O (Zz nb):=Zn z4.2;have nQ:rd jZ ⟨h.size+2,5,aa⟩ 8=O (Zv l.v):=by rw[YL z5.2 (by simp[XV])];rfl
  have q9:hc jZ ⟨g1.size,0,aa⟩=O (Sa 111 [h.size,h.size+1,h.size+2]):=Zn x9.2;unfold Zz at q4;by_cases ep:l.v∈n.Zq.l
  .have eP:asked n l=⟨n,[⟨3,n.me,l.Jw,Jq,l.v,[]⟩],[]⟩:=by unfold asked;rw[<-hE,if_neg pA,if_pos ep]
   rw[eP];unfold Sa at q9;simp only[bd]at q9;unfold Zz at q9;simp -implicitDefEqProofs only[go_sem,f41,ep,f9,q9];refine (nN T jZ o wb nb YN n.me Xw fl Yy ZE h.size (h.size+1) (h.size+2) l _ K3.Yn W3 R3.me MH Xf z3 z4 z5).use ?_;rintro v' h' ⟨o',JD,k,W'⟩;simp -implicitDefEqProofs only[go_sem];exact⟨o',a,JD,(Z0 K3).trans (k.mono fun t q=>q.elim .inl fun q=>.inr (.inl q)),N3.Zf k (by rintro t (rfl|rfl)<;>simp[Tg.of]),W'⟩
  simp -implicitDefEqProofs only[go_sem,f41,ep];have R3t:=R3.tape;obtain⟨pd,cd,Oc⟩:=N3.pt.data.1.ZP;rw[Oc]at R3t;obtain⟨E2,sX⟩:=ZL (Ue n.data n.Y4 l.v);have call2:∀G,Zj jZ.size jZ G->Zd aN T 113 #[am #[H pd (U n.data) cd,Q D n.Y4],am (Zv l.v).toArray] G fun v' h'=>Pk G.size h' v' n.data n.Y4 E2 (YV (Uy l.v))/\Zj G.size G h':=fun G hG=>by
   rw[sX];exact Zak T G _ n.Y4 n.data l.v (by rw[<-Oc];exact N3.pt.data.bs.Yz hG) pA (tb3.tk.Qj hG)
  have wT:∀(G:Hp) (k:Nat) (m:Int) (p:Option Addr) (L c:Nat),G[k]? = O (J [H aa 0 0,Q D 0].toArray 100)->wr G ⟨k,0,aa⟩ [H p L c,Q D m]=O (G.setIfInBounds k (J [H p L c,Q D m].toArray 100)):=fun G k m p L c hx=>by
   rw[Ye hx 0 _];rfl
  unfold Zv at nQ call2;refine VS.mono (N:=fun F' g'=>Zj jZ.size jZ g'/\F' 3=Z (O ⟨h.size,0,aa⟩)/\F' 4=Z (O ⟨h.size+1,0,aa⟩)/\F' 5=Z (O ⟨h.size+2,0,aa⟩)/\F' 6=Z (O ⟨ka,0,aa⟩)/\F' 8=Z (O ⟨g1.size,0,aa⟩)/\F' 7=Q D E2/\Cl jZ.size g' (F' 9) n.data n.Y4 E2 (YV (Uy l.v))) ?_ ?_ (fun _ _ _ h=>h) (fun _ _ h=>h)
  .refine VS.z (jZ.size) [6,11] (.q 0 (.p 1 (.p 2 (.q 3 (.p 4 (.q 5 (.or 6 (.p 7 (.p 8 (.p 9 (.s 10 (.w 11 (.p 12 .nil)))))) (.s 10 (.w 6 (.p 7 (.p 8 (.p 9 (.w 11 (.p 12 .nil)))))))))))))) mixed vM ?_;simp -implicitDefEqProofs only[go_sem,f3,f4,f5,fA,f9,q4,R3t,nQ,m4,m5,MH];unfold Cl
   repeat' (first|with_reducible exact Zj.refl _ _|with_reducible exact Zj.push pA _|with_reducible refine bc ?_ ?_)
   all_goals first
    | (refine (call2 jZ (Zj.refl _ _)).use ?_
       rintro _ g5 ⟨⟨w,rfl,o1⟩,b5⟩;obtain⟨p1,c1,rfl,_⟩:=o1.bs.open;have s5:=b5.size;simp -implicitDefEqProofs only[go_sem,b5];exact⟨f3,f4,f5,fA,f9,_,_,rfl,s5,Zc,o1.push _⟩)
    | (refine (call2 (jZ.push (J _ 100)) (Zj.push (ae _) _)).use ?_
       rintro _ g5 ⟨⟨w,rfl,o1⟩,b5⟩;obtain⟨p1,c1,rfl,_⟩:=o1.bs.open;have B5:Zj jZ.size jZ g5:=(Zj.push (ae _) _).trans (b5.mono IQ);have xA:=b5.get (k:=jZ.size) IQ Zc;have PM:=wT _ _ (if E2=0 then n.Y4 else 0) p1 (if E2=0 then n.data++YV (Uy l.v) else []).length c1 xA;have zA:=Za xA;simp -implicitDefEqProofs only[go_sem,B5,PM,zA];exact⟨f3,f4,f5,fA,f9,_,_,rfl,ae _,ZV xA,(o1.Ya IQ _).mono IQ⟩)
  .rintro F2 g3 ⟨b3,f3,f4,f5,f6,f9,f8,kt,wt,fT,ge3,yT,oT⟩;have TZ:=ZX K3.Yn b3;have N4:=N3.Zo TZ;have W4:=W3.Zo TZ;have K4:Kp Wy o h o g3:=K3.Yz b3;by_cases e2:E2=0
   case neg=>
    have eP:asked n l=⟨n,[],[]⟩:=by unfold asked;rw[<-hE,if_neg pA,if_neg ep,<-sX,if_pos e2]
    rw[eP,ab];simp -implicitDefEqProofs only[go_sem,f8,e2];exact⟨o,a,Xw,Z0 K4,N4,W4⟩
   rw[if_pos e2]at yT oT;have u3:=z3.Zf TZ;have u4:=z4.Zf TZ;have u5:=z5.Zf TZ;have u6:=z6.Zf TZ;have u9:=x9.Zf TZ;have iu6:=iw6.Zf TZ;have iT:Pv o g3 wt (n.data++YV (Uy l.v)):=⟨Im.WS oT.Zq (fun b hb=>K3.Yn b hb),oT.byte⟩
   have eP:asked n l=⟨{ n with data:=n.data++YV (Uy l.v),Zs:=O (.TX ⟨l.v.b,JH n.Zq.l l.v⟩ l.Jw l.v) },[],[]⟩:=by unfold asked;rw[<-hE,if_neg pA,if_neg ep,<-sX,if_neg pA]
   rw[eP,ab];clear R3 m3 m4 m5 m9 MH q4 nQ q9 R3t;obtain⟨pt,ct,rfl,_⟩:=oT.bs.open;have q4:hc g3 ⟨h.size+1,0,aa⟩=O (Zz nb):=Zn u4.2;have qT:rd g3 ⟨kt,0,aa⟩ 2=O [H pt (n.data++YV (Uy l.v)).length ct,Q D n.Y4]:=Zy yT rfl;have HX:=Za N4.ZZ.2;obtain⟨g4,w4,N5,k5⟩:=Yi.write (a:={ a with data:=H pt (n.data++YV (Uy l.v)).length ct }) (n:={ n with data:=n.data++YV (Uy l.v) }) { N4.pt with data:=iT } K4.Yn N4.ZZ ((XM N4.ZZ.2 N4.pt.store.len).tape (H pt (n.data++YV (Uy l.v)).length ct) n.Y4 rfl);have v4:=u4.Zf k5;have q4':hc g4 ⟨h.size+1,0,aa⟩=O (Zz nb):=Zn v4.2;have MI:=Za N5.ZZ.2;have pn:Vu o g4 wb i nb a.Zh (Sa 114 [ka,h.size+1,g1.size]) (O (.TX ⟨l.v.b,JH n.Zq.l l.v⟩ l.Jw l.v)):=
    ⟨ka,h.size+1,g1.size,_,rfl,⟨_,u6.Zf k5,iu6.Zf k5⟩,v4,u9.Zf k5,h.size,h.size+1,h.size+2,l,_,rfl,u3.Zf k5,v4,u5.Zf k5,rfl,rfl⟩
   obtain⟨g6,w6,N6,k6⟩:=Yi.write (a:={ a with data:=H pt (n.data++YV (Uy l.v)).length ct,Zs:=Sa 114 [ka,h.size+1,g1.size] }) (n:={ n with data:=n.data++YV (Uy l.v),Zs:=O (.TX ⟨l.v.b,JH n.Zq.l l.v⟩ l.Jw l.v) }) { N5.pt with Zs:=pn } k5.Yn N5.ZZ ((XM N5.ZZ.2 N5.pt.store.len).Zs (Sa 114 [ka,h.size+1,g1.size]) rfl);unfold Sa at w6;simp only[bd]at w6;unfold Zz at q4 q4' w6;simp -implicitDefEqProofs only[go_sem,f8,e2,f4,f6,f9,fT,q4,qT,w4,HX,q4',w6,MI];have K6:Kp (fun t=>t=.world\/t=.Zp\/t=.ZS i) o h o g6:=((Z0 K4).trans (k5.mono fun t q=>.inr (.inr q))).trans (k6.mono fun t q=>.inr (.inr q));exact⟨o,_,Xw,K6,N6,(W4.Zf k5 (by rintro t rfl;simp[Tg.of])).Zf k6 (by rintro t rfl;simp[Tg.of])⟩
theorem WH.Yh{o:Ow}{i:Nat}{h:Hp}{sv:List (Int × Nat)}{vt:List (Int × List (Int × Unit))}(s:WH o i h sv vt)(k:Int):(Go.V.Yh sv k=aa/\Go.V.Yh vt k=aa)\/∃b l,Go.V.Yh sv k=O b/\Go.V.Yh vt k=O l/\U9 o (.Ps i k) h b (HT l):=by
 induction s with
 | nil=>exact .inl ⟨rfl,rfl⟩
 | @cons a b l m Bi _ ih=>
  obtain⟨a1,a2⟩:=a;obtain⟨b1,b2⟩:=b;obtain⟨rfl,h2⟩:=Bi;unfold Go.V.Yh;by_cases q:a1=k
  .rw[if_pos q,if_pos q];subst q;exact .inr ⟨_,_,rfl,rfl,h2⟩
  .rw[if_neg q,if_neg q];exact ih
theorem WH.add{o:Ow}{i:Nat}{h:Hp}{k:Int}{b:Nat}{l:List (Int × Unit)}(hb:U9 o (.Ps i k) h b (HT l)):∀{sv:List (Int × Nat)} {vt:List (Int × List (Int × Unit))},WH o i h sv vt->Go.V.Yh sv k=aa->WH o i h (ins sv k b) (ins vt k l):=by
 intro sv vt s
 induction s with
 | nil=>intro _;exact .cons ⟨rfl,hb⟩ .nil
 | @cons a b l m Bi _ ih=>
  intro hn;obtain⟨a1,a2⟩:=a;obtain⟨b1,b2⟩:=b;obtain⟨rfl,h2⟩:=Bi;unfold Go.V.Yh at hn;split at hn
  .cases hn
  .rename_i q;unfold ins;rw[if_neg q,if_neg q];exact .cons ⟨rfl,h2⟩ (ih hn)
theorem WH.put{o:Ow}{i:Nat}{h h':Hp}{k:Int}{b:Nat}{l':List (Int × Unit)}(kp:Kp (fun t=>t=.Ps i k) o h o h')(hb:U9 o (.Ps i k) h' b (HT l')):∀{sv:List (Int × Nat)} {vt:List (Int × List (Int × Unit))},WH o i h sv vt->(sv.map (·.1)).Nodup->Go.V.Yh sv k=O b->WH o i h' sv (ins vt k l'):=by
 intro sv vt s
 induction s with
 | nil=>intro _ h;cases h
 | @cons a c l m Bi tl ih=>
  intro hn hl;obtain⟨a1,a2⟩:=a;obtain⟨b1,b2⟩:=c;obtain⟨h1,h2⟩:=Bi;simp only at h1 h2;subst h1;simp only[a8,a9]at hn;unfold Go.V.Yh at hl;unfold ins;by_cases q:a1=k
  .rw[if_pos q]at hl ⊢;subst q;obtain rfl:=Option.some.inj hl;refine .cons ⟨rfl,hb⟩ ?_;have key:∀{l:List (Int × Nat)} {m:List (Int × List (Int × Unit))},WH o i h l m->a1 ∉ l.map (·.1)->WH o i h' l m:=by
    intro l m s
    induction s with
    | nil=>intro _;exact .nil
    | @cons x y l m hxy _ ih2=>
     intro hn;simp only[a8,bk,not_or]at hn;exact .cons ⟨hxy.1,hxy.2.Zf kp (by intro e;cases e;exact hn.1 hxy.1.symm)⟩ (ih2 hn.2)
   exact key tl hn.1
  .rw[if_neg q]at hl ⊢;exact .cons ⟨rfl,h2.Zf kp (by intro e;cases e;exact q rfl)⟩ (ih hn.2 hl)
theorem dC{β:Type}:∀{l:List (Int × β)} {k:Int} {v:β},(l.map (·.1)).Nodup->((ins l k v).map (·.1)).Nodup/\∀x,x∈(ins l k v).map (·.1)->x=k\/x∈l.map (·.1):=by
 intro l
 induction l with
 | nil=>intro k v _;exact⟨by simp[ins],fun x hx=>by simp[ins]at hx;exact .inl hx⟩
 | cons a l ih=>
  intro k v hn;obtain⟨a1,a2⟩:=a;simp only[a8,a9]at hn;unfold ins;by_cases q:a1=k
  .rw[if_pos q];exact⟨by simp only[a8,a9];exact hn,fun x hx=>.inr hx⟩
  .rw[if_neg q];obtain⟨h1,h2⟩:=ih (k:=k) (v:=v) hn.2;refine⟨?_,fun x hx=>?_⟩
   .simp only[a8,a9];exact⟨fun hm=>(h2 _ hm).elim q hn.1,h1⟩
   .simp only[a8,bk]at hx ⊢;rcases hx with hx|hx
    .exact .inr (.inl hx)
    .exact (h2 _ hx).elim .inl fun q=>.inr (.inr q)
theorem Zd8{β:Type}:∀(l:List (Int × β)) (k:Int) (u v:β),ins (ins l k u) k v=ins l k v:=by
 intro l
 induction l with
 | nil=>intro k u v;unfold ins;simp[ins]
 | cons a l ih=>
  intro k u v;obtain⟨a1,a2⟩:=a;have h1:∀(x:Int) (y z:β) (m:List (Int × β)),ins ((x,y) :: m) k z=if x=k then (x,z) :: m else (x,y) :: ins m k z:=fun _ _ _ _=>rfl
  rw[h1,h1];by_cases q:a1=k
  .rw[if_pos q,if_pos q,h1,if_pos q]
  .rw[if_neg q,if_neg q,h1,if_neg q,ih]
theorem XA.ZaG{o:Ow}{i:Nat}{h:Hp}{ra:RA}{r:XE}(s:XA o i h ra r)(d:Vz o h){k:Int}{b:Nat}{l l':List (Int × Unit)}(hl:Yh ra.sv k=O b)(hb:U9 o (.Ps i k) h b (HT l)):
  Kp (fun t=>t=.Ps i k) o h o (h.setIfInBounds b (Jt (HT l')))/\XA o i (h.setIfInBounds b (Jt (HT l'))) ra { r with Xb:=ins r.Xb k l' }:=by
 have kk:Kp (fun t=>t=.Ps i k) o h o (h.setIfInBounds b (Jt (HT l'))):=(Kp.refl d (fun t=>t=.Ps i k)).set hb.1 rfl _;exact⟨kk,s.ZZ.Zf kk Va,s.ZI.Zf kk Va,s.OO.Zf kk,s.ZY.Zf kk Va,s.Xb.Zf kk Va,WH.put kk ⟨hb.1,ZV hb.2⟩ s.RC s.keys hl,s.keys⟩
def sY(i:Nat)(t:Tg):Prop:=Wo i t\/JY i t
set_option maxHeartbeats 1000000 in
theorem Hk(T:ba)(h:Hp)(o:Ow)(wb i nb:Nat)(YN:Nat->Nat)(a:NA)(n:Nd)(Xw:WA)(fl:List YH)(Yy:Nat->Int)(ZE:List Ob)(l:YH)(w:ag)(d:Vz o h)(N:Z6 o h wb i nb a n)(W:Z1 o h wb YN Xw fl Yy ZE)(iv:TY o h w l.vs)(hk:n.Zi.length<=100000000000)(hl:n.ZA.length<=100000000000)(ht:(U ZE)<=100000000000)(hq:n.Zx.length<=1000000000000)(hw:n.Zk.length<=1000000000000)(hv:∀r s,n.Zh=O r->((Yh r.Xb s).getD []).length<=1000000):
  Zd aN T 86 #[Zz wb,Zz nb,am (XV l w).toArray] h fun v' h'=>∃o' a' JD,Kp (sY i) o h o' h'/\Z6 o' h' wb i nb a' (Ym n l).n/\Z1 o' h' wb YN JD fl Yy (ZE++(Ym n l).ts):=by
 obtain⟨pw,cw,rfl⟩:=iv.ZP;refine Zd.XS [_,_,_] Tryz.func86 ?_;unfold Zz XV;have T4:=Za N.ZZ.2;have R:=ZR N.ZZ.2 N.pt.store.len;obtain⟨h1,Xp⟩:=ZL (h.push (J (XV l (H pw (U l.vs) cw)).toArray 135):Hp);have k1:Kp Wy o h o h1:=by rw[Xp];exact Yw d _
 have x5:Yb o h1 h.size (J (XV l (H pw (U l.vs) cw)).toArray 135):=⟨d _ (ae _),by rw[Xp];exact Zc⟩
 have e0:=Xp.symm;unfold XV at e0;have N1:=N.Zo k1;have W1:=W.Zo k1;have iv1:=iv.Zf k1;have R1:=ZR N1.ZZ.2 N1.pt.store.len;have Uh:=Za N1.ZZ.2;have m5:=Za x5.2;have q0:hc h1 ⟨h.size,0,aa⟩=O (Q D l.Z3):=Zn x5.2;have q1:hc h1 ⟨h.size,1,aa⟩=O (Q D l.Jw):=Zn x5.2;have q3:rd h1 ⟨h.size,3,aa⟩ 2=O (QI l.b):=by rw[YL x5.2 (by simp[XV])];rfl
 have q5:hc h1 ⟨h.size,5,aa⟩=O (Q D l.v.Zu):=Zn x5.2;have q6:rd h1 ⟨h.size,6,aa⟩ 2=O (QI l.v.b):=by rw[YL x5.2 (by simp[XV])];rfl
 have q13:hc h1 ⟨h.size,13,aa⟩=O (H pw (U l.vs) cw):=Zn x5.2;have nR:=N1.pt.Zh;have hR9:=R.Zh
 cases hr:n.Zh with
 | none=>
  cases har:a.Zh with
  | some ra=>rw[hr,har]at nR;exact nR.elim
  | none=>
   have eP:Ym n l=⟨n,[],[]⟩:=by unfold Ym;rw[hr]
   rw[har]at hR9;unfold MG at hR9;rw[eP,ab];simp -implicitDefEqProofs only[go_sem,hR9];rw[e0];exact⟨o,a,Xw,Z0 k1,N1,W1⟩
 | some r=>
  cases har:a.Zh with
  | none=>rw[hr,har]at nR;exact nR.elim
  | some ra=>
   rw[hr,har]at nR;have RG:XA o i h1 ra r:=nR;rw[har]at hR9;unfold MG Zz at hR9;have mrb:=Za RG.ZZ.2;have rr0:rd h1 ⟨ra.rb,0,aa⟩ 2=O (QI r.b):=by rw[YL RG.ZZ.2 (by simp[jX])];rfl
   have rr2:hc h1 ⟨ra.rb,2,aa⟩=O (.map (O ra.pb)):=Zn RG.ZZ.2;have rr5:hc h1 ⟨ra.rb,5,aa⟩=O (.map (O ra.vb)):=Zn RG.ZZ.2;by_cases c1:l.Z3=1
   .have c1b:=eq_true c1;simp -implicitDefEqProofs only[go_sem,hR9,c1b];rw[e0];refine VS.q mixed vM ?_;simp -implicitDefEqProofs only[go_sem,q3,rr0];by_cases c2:l.b=r.b
    .have eP:Ym n l=⟨ZdX n r l,[],[]⟩:=by unfold Ym;rw[hr];simp only;rw[if_pos c1,if_pos c2]
     rw[eP,ab];have c2b:=eq_true c2;simp -implicitDefEqProofs only[go_sem,c2b];refine VS.z (h1.size) [8] (.p 0 (.p 1 (.p 2 (.q 3 (.p 4 (.q 5 (.p 6 (.q 7 (.w 8 .nil))))))))) mixed vM ?_;simp -implicitDefEqProofs only[go_sem,rr2,q1,q13,mrb,m5];rw[Qk Hc RG.ZI.2];simp -implicitDefEqProofs only[go_sem];obtain⟨k2,R2⟩:=RG.nO k1.Yn (k:=l.Jw) iv1;refine⟨o,{ a with Zh:=O { ra with pv:=ins ra.pv l.Jw (H pw (U l.vs) cw) } },Xw,(Z0 k1).trans (k2.mono fun t q=>.inr (.inr (.inl q))),⟨?_,?_⟩,W1.Zf k2 (by rintro t rfl;simp[Tg.of])⟩
     .have:=N1.ZZ.Zf k2 Va;rw[<-Hj (O { r with ZI:=ins r.ZI l.Jw l.vs }) har (ra':={ ra with pv:=ins ra.pv l.Jw (H pw (U l.vs) cw) }) rfl]at this;exact this
     .exact Yi.Wa N1.pt (k2.mono fun t q=>.inr (.inl q)) har rfl R2
    .have eP:Ym n l=⟨n,[],[]⟩:=by unfold Ym;rw[hr];simp only;rw[if_pos c1,if_neg c2]
     rw[eP,ab];simp -implicitDefEqProofs only[go_sem,c2];exact⟨o,a,Xw,Z0 k1,N1,W1⟩
   .simp -implicitDefEqProofs only[go_sem,hR9,c1];rw[e0];refine VS.q mixed vM ?_;simp -implicitDefEqProofs only[go_sem,q6,rr0];by_cases c2:l.v.b=r.b
    case neg=>
     have eP:Ym n l=⟨n,[],[]⟩:=by unfold Ym;rw[hr];simp only;rw[if_neg c1,if_pos c2]
     rw[eP,ab];simp -implicitDefEqProofs only[go_sem,c2];exact⟨o,a,Xw,Z0 k1,N1,W1⟩
    have eP:Ym n l=if 5<2*(Ug r l).length then Jl (TG n r l) l.v.Zu l.v.cm else ⟨TG n r l,[],[]⟩:=by unfold Ym;rw[hr];simp only;rw[if_neg c1,if_neg (fun q=>q c2)]
    rw[eP];have hvr:=hv r l.v.Zu hr;have c2b:=eq_true c2;have lk:=fun (K:ag->Hp->Prop)=>Xi (K:=K) (n:=l.v.Zu) (c:=false) FP Cf RG.Xb.2;rw[Js]at lk;obtain⟨S,hS⟩:=ZL ((Yh r.Xb l.v.Zu).getD []);have hlen:(U S)<=1000000:=by rw[hS];exact hvr
    have NA1:Z6 o h1 wb i nb { a with Zh:=O ra } { n with Zh:=O r }:=by
     have e1:({ a with Zh:=O ra }:NA)=a:=by rw[<-har]
     have e2:({ n with Zh:=O r }:Nd)=n:=by rw[<-hr]
     rw[e1,e2];exact N1
    have KG:Kp (sY i) o h o h1:=Z0 k1;have Zea:=hR9;rcases RG.RC.Yh l.v.Zu with⟨e1,e2⟩|⟨sb,S',e1,e2,hsb⟩
    .have hS0:S=[]:=by rw[hS,e2];rfl
     rw[e1]at lk;simp only[a6,a4,a0,if_false]at lk
     -- the new set
     obtain⟨h2,Vq⟩:=ZL (h1.push (Jt []):Hp);have eh2:h1.push (.map #[] 0)=h2:=Vq.symm;have k2a:Kp (JY i) o h1 (QZ o h1.size (.Ps i l.v.Zu)) h2:=by
      rw[Vq];exact ((Kp.refl k1.Yn _).push _).Ol (ae _) IQ (.inr (.inr (.inr (.inr ⟨_,rfl⟩))))
     have kx:Kp Wy o h1 o h2:=by rw[Vq];exact Yw k1.Yn _
     have RGx:=RG.Zf kx (fun _ _ q=>q);have lo:∀b,b<h1.size->QZ o h1.size (.Ps i l.v.Zu) b=o b:=fun b hb=>X7 pA;obtain⟨o2,vA⟩:=ZL (QZ o h1.size (.Ps i l.v.Zu));rw[<-vA]at k2a lo;have RGy:XA o2 i h2 ra r:=by
      have lt:∀{b:Nat} {x:Obj},h1[b]? = O x->b<h1.size:=Za;refine⟨⟨(lo _ (Za RG.ZZ.2)).trans RG.ZZ.1,RGx.ZZ.2⟩,⟨(lo _ (Za RG.ZI.2)).trans RG.ZI.1,RGx.ZI.2⟩,RG.OO.Zf k2a,⟨(lo _ (Za RG.ZY.2)).trans RG.ZY.1,RGx.ZY.2⟩,⟨(lo _ (Za RG.Xb.2)).trans RG.Xb.1,RGx.Xb.2⟩,?_,RG.keys⟩;have key:∀{sv:List (Int × Nat)} {vt:List (Int × List (Int × Unit))},WH o i h1 sv vt->WH o2 i h2 sv vt:=by
       intro sv vt s
       induction s with
       | nil=>exact .nil
       | cons x _ ih=>exact .cons ⟨x.1,⟨(lo _ (Za x.2.2)).trans x.2.1,(x.2.Zf kx id).2⟩⟩ ih
      exact key RG.RC
     have ms:U9 o2 (.Ps i l.v.Zu) h2 h1.size (HT []):=⟨by rw[vA];exact X2,by rw[Vq];exact Zc⟩
     have ZIA:ra.rb<h2.size:=by have:=kx.size;omega
     simp -implicitDefEqProofs only[go_sem,hR9,c2b,q5,rr5,lk,mpV];rw[eh2,Qk FP RGy.Xb.2];obtain⟨G,hG⟩:=ZL (h2.setIfInBounds ra.vb (Jt (ins (VC mpV ra.sv) l.v.Zu (.map (O h1.size)))));rw[<-hG];obtain⟨sF,Zh8⟩:∃sF:RA,sF = { ra with sv:=ins ra.sv l.v.Zu h1.size }:=⟨_,rfl⟩
     have kk:Kp (fun t=>t=.Xb i) o2 h2 o2 G:=by rw[hG];exact (Kp.refl k2a.Yn (fun t=>t=.Xb i)).set RGy.Xb.1 rfl _
     have RGG:XA o2 i G sF { r with Xb:=ins r.Xb l.v.Zu [] }:=by
      rw[Zh8];refine⟨RGy.ZZ.Zf kk Va,RGy.ZI.Zf kk Va,RGy.OO.Zf kk,RGy.ZY.Zf kk Va,⟨RGy.Xb.1,?_⟩,(WH.add ms RGy.RC e1).Zf kk (fun _ e=>by cases e),(dC RG.keys).1⟩;show G[ra.vb]? = O (Jt (VC mpV (ins ra.sv l.v.Zu h1.size)));rw[hG,ZV RGy.Xb.2,Oj];rfl
     have k2b:Kp (JY i) o h1 o2 G:=k2a.trans (kk.mono fun t q=>.inr (.inr (.inr (.inl q))));have dE:sF.rb=ra.rb:=by rw[Zh8]
     have NG:Z6 o2 G wb i nb { a with Zh:=O sF } { n with Zh:=O { r with Xb:=ins r.Xb l.v.Zu [] } }:=by
      refine⟨?_,Yi.Wa NA1.pt k2b rfl dE RGG⟩;have:=NA1.ZZ.Zf k2b (by rintro (q|q|q|q|⟨_,q⟩)<;>cases q);rw[show Jh { n with Zh:=O { r with Xb:=ins r.Xb l.v.Zu [] } } { a with Zh:=O sF } = Jh { n with Zh:=O r } { a with Zh:=O ra } from by unfold Jh VO MG;simp only[dE]];exact this
     have WG:=W1.Zf k2b (by intro t q;rw[If q];simp);have XG:=x5.Zf k2b;have KG2:Kp (sY i) o h o2 G:=(Z0 k1).trans (k2b.mono fun t q=>.inr q);have LKS:Yh sF.sv l.v.Zu=O h1.size:=by rw[Zh8];simp[Xk]
     have SB:U9 o2 (.Ps i l.v.Zu) G h1.size (HT S):=by rw[hS0];exact ms.Zf kk Va
     have Q5:hc G ⟨h.size,5,aa⟩=O (Q D l.v.Zu):=Zn XG.2;have Q1:hc G ⟨h.size,1,aa⟩=O (Q D l.Jw):=Zn XG.2;have RR5:hc G ⟨ra.rb,5,aa⟩=O (.map (O sF.vb)):=by rw[<-dE];exact Zn RGG.ZZ.2
     have MRB:ra.rb<G.size:=by rw[<-dE];exact Za RGG.ZZ.2
     have M5:=Za XG.2;have LK:=fun (K:ag->Hp->Prop)=>Xi (K:=K) (n:=l.v.Zu) (c:=false) FP Cf RGG.Xb.2;rw[Js]at LK;simp only[LKS,aO,aD,a0,if_false,mpV]at LK;simp -implicitDefEqProofs only[go_sem];refine VS.z (G.size) [9] (.p 0 (.p 1 (.p 2 (.q 3 (.p 4 (.p 6 (.q 7 (.p 8 (.s 5 (.w 9 .nil)))))))))) mixed vM ?_;simp -implicitDefEqProofs only[go_sem,Zea,c2b,Q5,Q1,RR5,LK,MRB,M5];rw[Qk Ce SB.2];obtain⟨k2,RG2⟩:=RGG.ZaG KG2.Yn (l':=ins S l.Jw ()) LKS SB;rw[show Jt (ins (HT S) l.Jw (am #[]))=Jt (HT (ins S l.Jw ())) from by unfold HT;rw[Oj]];obtain⟨g2,Wv⟩:=ZL (G.setIfInBounds h1.size (Jt (HT (ins S l.Jw ()))));rw[<-Wv]at k2 RG2 ⊢;have eV:({ r with Xb:=ins r.Xb l.v.Zu (Ug r l) }:XE) = { ({ r with Xb:=ins r.Xb l.v.Zu [] }:XE) with Xb:=ins (ins r.Xb l.v.Zu []) l.v.Zu (ins S l.Jw ()) }:=by unfold Ug;rw[hS,Zd8]
     have K2:Kp (sY i) o2 G o2 g2:=k2.mono fun t q=>.inr (.inr (.inr (.inr (.inr ⟨_,q⟩))));have N2:Z6 o2 g2 wb i nb { a with Zh:=O sF } (TG n r l):=by
      refine⟨?_,?_⟩
      .have:=NG.ZZ.Zf k2 Va;exact this
      .have:=Yi.Wa NG.pt (k2.mono fun t q=>.inr (.inr (.inr (.inr ⟨_,q⟩)))) rfl rfl RG2;unfold TG;rw[eV];exact this
     have W2:=WG.Zf k2 (by rintro t rfl;simp[Tg.of]);have x2:=XG.Zf k2;have p0:rd g2 ⟨h.size,8,aa⟩ 5=O l.v.cm.C:=by rw[YL x2.2 (by simp[XV])];rfl
     have p5:hc g2 ⟨sF.rb,5,aa⟩=O (.map (O sF.vb)):=Zn RG2.ZZ.2;rw[dE]at p5;have p6:=fun (K:ag->Hp->Prop)=>Xi (K:=K) (n:=l.v.Zu) (c:=false) FP Cf RG2.Xb.2;rw[Js]at p6;simp only[LKS,aO,aD,a0,if_false]at p6;have SB2:U9 o2 (.Ps i l.v.Zu) g2 h1.size (HT (ins S l.Jw ())):=⟨SB.1,by rw[Wv];exact ZV SB.2⟩
     have p7:=fun (K:ag->Hp->Prop) (cs:Array Bool) (ty:bg)=>R7 (T:=T) (K:=K) (ty:=ty) (cs:=cs) Ce SB2.2;have p8:(HT (ins S l.Jw ())).length=(Ug r l).length:=by unfold HT Ug;rw[IN,hS]
     rw[p8]at p7;simp -implicitDefEqProofs only[go_sem,Zea,c2b,p5,p6,p7,mpV];refine (Gm T g2 (Ug r l).length (by unfold Ug;rw[<-hS,Mu];split<;>omega)).use ?_;rintro _ _ ⟨rfl,rfl⟩;by_cases c3:5<2*(Ug r l).length
     .rw[if_pos c3];simp -implicitDefEqProofs only[go_sem,c3,p0];refine (FW T _ o2 wb i nb YN _ _ Xw fl Yy ZE l.v.Zu l.v.cm k2.Yn N2 W2 hk hl ht hq hw).use ?_;rintro v' h' ⟨o',a',JD,kl,N',W'⟩;simp -implicitDefEqProofs only[go_sem];exact⟨o',a',JD,(KG2.trans K2).trans (kl.mono fun t q=>.inl q),N',W'⟩
     .rw[if_neg c3,ab];simp -implicitDefEqProofs only[go_sem,c3];exact⟨o2,_,Xw,KG2.trans K2,N2,W2⟩
    .have hS0:S=S':=by rw[hS,e2];rfl
     subst hS0;rw[e1]at lk;simp only[aO,aD,a0,if_false]at lk;simp -implicitDefEqProofs only[go_sem,c2b,q5,rr5,lk,mpV,hR9];have SZ:=fun (K:ag->Hp->Prop)=>Xi (K:=K) (n:=l.v.Zu) (c:=false) FP Cf RG.Xb.2;rw[Js]at SZ;simp only[e1,aO,aD,a0,if_false,mpV]at SZ;refine VS.z (h1.size) [9] (.p 0 (.p 1 (.p 2 (.q 3 (.p 4 (.p 6 (.q 7 (.p 8 (.s 5 (.w 9 .nil)))))))))) mixed vM ?_;simp -implicitDefEqProofs only[go_sem,Zea,c2b,q5,q1,rr5,SZ,mrb,m5];rw[Qk Ce hsb.2];obtain⟨k2,RG2⟩:=RG.ZaG KG.Yn (l':=ins S l.Jw ()) e1 hsb;rw[show Jt (ins (HT S) l.Jw (am #[]))=Jt (HT (ins S l.Jw ())) from by unfold HT;rw[Oj]];obtain⟨g2,Wv⟩:=ZL (h1.setIfInBounds sb (Jt (HT (ins S l.Jw ()))));rw[<-Wv]at k2 RG2 ⊢;have eV:({ r with Xb:=ins r.Xb l.v.Zu (Ug r l) }:XE) = { r with Xb:=ins r.Xb l.v.Zu (ins S l.Jw ()) }:=by unfold Ug;rw[hS]
     have K2:Kp (sY i) o h1 o g2:=k2.mono fun t q=>.inr (.inr (.inr (.inr (.inr ⟨_,q⟩))));have N2:Z6 o g2 wb i nb { a with Zh:=O ra } (TG n r l):=by
      refine⟨?_,?_⟩
      .have:=NA1.ZZ.Zf k2 Va;exact this
      .have:=Yi.Wa NA1.pt (k2.mono fun t q=>.inr (.inr (.inr (.inr ⟨_,q⟩)))) rfl rfl RG2;unfold TG;rw[eV];exact this
     have W2:=W1.Zf k2 (by rintro t rfl;simp[Tg.of]);have x2:=x5.Zf k2;have p0:rd g2 ⟨h.size,8,aa⟩ 5=O l.v.cm.C:=by rw[YL x2.2 (by simp[XV])];rfl
     have p5:hc g2 ⟨ra.rb,5,aa⟩=O (.map (O ra.vb)):=Zn RG2.ZZ.2;have p6:=fun (K:ag->Hp->Prop)=>Xi (K:=K) (n:=l.v.Zu) (c:=false) FP Cf RG2.Xb.2;rw[Js]at p6;simp only[e1,aO,aD,a0,if_false]at p6;have SB2:U9 o (.Ps i l.v.Zu) g2 sb (HT (ins S l.Jw ())):=⟨hsb.1,by rw[Wv];exact ZV hsb.2⟩
     have p7:=fun (K:ag->Hp->Prop) (cs:Array Bool) (ty:bg)=>R7 (T:=T) (K:=K) (ty:=ty) (cs:=cs) Ce SB2.2;have p8:(HT (ins S l.Jw ())).length=(Ug r l).length:=by unfold HT Ug;rw[IN,hS]
     rw[p8]at p7;simp -implicitDefEqProofs only[go_sem,Zea,c2b,p5,p6,p7,mpV];refine (Gm T g2 (Ug r l).length (by unfold Ug;rw[<-hS,Mu];split<;>omega)).use ?_;rintro _ _ ⟨rfl,rfl⟩;by_cases c3:5<2*(Ug r l).length
     .rw[if_pos c3];simp -implicitDefEqProofs only[go_sem,c3,p0];refine (FW T _ o wb i nb YN _ _ Xw fl Yy ZE l.v.Zu l.v.cm k2.Yn N2 W2 hk hl ht hq hw).use ?_;rintro v' h' ⟨o',a',JD,kl,N',W'⟩;simp -implicitDefEqProofs only[go_sem];exact⟨o',a',JD,(KG.trans K2).trans (kl.mono fun t q=>.inl q),N',W'⟩
     .rw[if_neg c3,ab];simp -implicitDefEqProofs only[go_sem,c3];exact⟨o,_,Xw,KG.trans K2,N2,W2⟩
def JV(i:Nat)(t:Tg):Prop:=t=.world\/t=.Zp\/t=.ZE\/t.of=O i
theorem FZ{i:Nat}{t:Tg}(h:Wo i t):JV i t:=by
 rcases h with rfl|rfl|rfl|rfl|rfl|rfl|rfl<;>simp[JV,Tg.of]
theorem dF{i:Nat}{t:Tg}(h:sY i t):JV i t:=h.elim FZ fun q=>.inr (.inr (.inr (If q)))
theorem dG(T:ba)(h:Hp)(o:Ow)(wb i nb:Nat)(a:NA)(n:Nd)(l:YH)(w:ag)(d:Vz o h)(N:Z6 o h wb i nb a n)(iv:TY o h w l.vs):
  Zd aN T 91 #[Zz wb,Zz nb,am (XV l w).toArray] h fun v' h'=>Kp (fun t=>t=.ZS i) o h o h'/\Z6 o h' wb i nb a (Xz n l):=by
 obtain⟨pw,cw,rfl⟩:=iv.ZP;refine Zd.XS [_,_,_] Tryz.func91 ?_;unfold Zz XV;have e0:∃h1:Hp,h1=h.push (J (XV l (H pw (U l.vs) cw)).toArray 135):=⟨_,rfl⟩
 obtain⟨h1,Xp⟩:=e0;have k1:Kp Wy o h o h1:=by rw[Xp];exact Yw d _
 have x5:Yb o h1 h.size (J (XV l (H pw (U l.vs) cw)).toArray 135):=⟨d _ (ae _),by rw[Xp];exact Zc⟩
 have e0:=Xp.symm;unfold XV at e0;have N1:=N.Zo k1;have R1:=ZR N1.ZZ.2 N1.pt.store.len;have Uh:=Za N1.ZZ.2;have m5:=Za x5.2;have q3:rd h1 ⟨h.size,3,aa⟩ 2=O (QI l.b):=by rw[YL x5.2 (by simp[XV])];rfl
 have r7:rd h1 ⟨nb,7,aa⟩ 2=O (QI n.Y1):=R1.Y1;simp -implicitDefEqProofs only[go_sem];rw[e0];refine VS.mono (N:=fun F' g'=>Zj h1.size h1 g'/\F' 1=Z (O ⟨nb,0,aa⟩)/\F' 5=Z (O ⟨h.size,0,aa⟩)/\F' 12=a7 (decide (ZM n.Y1 l.b))) ?_ ?_ (fun _ _ _ h=>h) (fun _ _ h=>h)
 .refine VS.z (h1.size) [6] (.p 0 (.q 1 (.p 2 (.p 3 (.p 4 (.q 5 (.w 6 .nil))))))) mixed vM ?_;simp -implicitDefEqProofs only[go_sem,q3,r7,Uh,m5];refine (Kb T h1 l.b n.Y1).use ?_;rintro _ g ⟨rfl,b⟩;simp -implicitDefEqProofs only[go_sem,b]
 .rintro F' g ⟨b,f1,f5,f12⟩;have kb:=ZX k1.Yn b;have N2:=N1.Zo kb;have K2:=k1.trans kb;by_cases c:ZM n.Y1 l.b
  .have e:Xz n l = { n with Y1:=l.b }:=by unfold Xz;rw[if_pos c]
   rw[e];obtain⟨g2,w2,N3,k3⟩:=Yi.write (n:={ n with Y1:=l.b }) (a:=a) { N2.pt with } K2.Yn N2.ZZ ((XM N2.ZZ.2 N2.pt.store.len).Y1 l.b.r l.b.n);have p3:rd g ⟨h.size,3,aa⟩ 2=O [Q D l.b.r,Q D l.b.n]:=by rw[YL (x5.Zf kb).2 (by simp[XV])];rfl
   have Us:=Za N2.ZZ.2;simp -implicitDefEqProofs only[go_sem,f1,f5,f12,c,p3,w2,Us];exact⟨(Z0 K2).trans k3,N3⟩
  .have e:Xz n l=n:=by unfold Xz;rw[if_neg c]
   rw[e];simp -implicitDefEqProofs only[go_sem,f12,c];exact⟨Z0 K2,N2⟩
theorem sZ(T:ba)(h:Hp)(o:Ow)(wb i nb:Nat)(YN:Nat->Nat)(a:NA)(n:Nd)(Xw:WA)(fl:List YH)(Yy:Nat->Int)(ZE:List Ob)(l:YH)(w:ag)(d:Vz o h)(N:Z6 o h wb i nb a n)(W:Z1 o h wb YN Xw fl Yy ZE)(iv:TY o h w l.vs)(hk:n.Zi.length<=100000000000)(hl:n.ZA.length<=100000000000)(ht:(U ZE)<=100000000000)(hq:n.Zx.length<=1000000000000)(hw:n.Zk.length<=1000000000000):
  Zd aN T 90 #[Zz wb,Zz nb,am (XV l w).toArray] h fun v' h'=>∃o' a' JD,Kp (Wo i) o h o' h'/\Z6 o' h' wb i nb a' (Jl n l.v.Zu l.v.cm).n/\Z1 o' h' wb YN JD fl Yy (ZE++(Jl n l.v.Zu l.v.cm).ts):=by
 obtain⟨pw,cw,rfl⟩:=iv.ZP;refine Zd.XS [_,_,_] Tryz.func90 ?_;unfold Zz XV;obtain⟨h1,Xp⟩:=ZL (h.push (J (XV l (H pw (U l.vs) cw)).toArray 135):Hp);have k1:Kp Wy o h o h1:=by rw[Xp];exact Yw d _
 have e0:=Xp.symm;unfold XV at e0;simp -implicitDefEqProofs only[go_sem];rw[e0];refine (FW T h1 o wb i nb YN a n Xw fl Yy ZE l.v.Zu l.v.cm k1.Yn (N.Zo k1) (W.Zo k1) hk hl ht hq hw).use ?_;rintro v' h' ⟨o',a',JD,k,N',W'⟩;simp -implicitDefEqProofs only[go_sem];exact⟨o',a',JD,(Z0 k1).trans k,N',W'⟩
theorem ZaH(T:ba)(h:Hp)(o:Ow)(wb i nb:Nat)(a:NA)(n:Nd)(l:YH)(w:ag)(d:Vz o h)(N:Z6 o h wb i nb a n)(iv:TY o h w l.vs)(hq:n.Zx.length<=1000000000000)(hl:n.ZA.length<=1000000000000):
  Zd aN T 88 #[Zz wb,Zz nb,am (XV l w).toArray] h fun v' h'=>∃o' a',Kp (Zh2 i) o h o' h'/\Z6 o' h' wb i nb a' (add n l.v.cm):=by
 obtain⟨pw,cw,rfl⟩:=iv.ZP;refine Zd.XS [_,_,_] Tryz.func88 ?_;unfold Zz XV;obtain⟨h1,Xp⟩:=ZL (h.push (J (XV l (H pw (U l.vs) cw)).toArray 135):Hp);have k1:Kp Wy o h o h1:=by rw[Xp];exact Yw d _
 have e0:=Xp.symm;unfold XV at e0;simp -implicitDefEqProofs only[go_sem];rw[e0];refine (ZaA T h1 o wb i nb a n l.v.cm k1.Yn (N.Zo k1) hq hl).use ?_;rintro v' h' ⟨o',a',k,N'⟩;simp -implicitDefEqProofs only[go_sem];exact⟨o',a',(Z0 k1).trans k,N'⟩
theorem ZaI(T:ba)(h:Hp)(o:Ow)(wb i nb:Nat)(YN:Nat->Nat)(a:NA)(n:Nd)(Xw:WA)(fl:List YH)(Yy:Nat->Int)(ZE:List Ob)(l:YH)(w:ag)(d:Vz o h)(N:Z6 o h wb i nb a n)(W:Z1 o h wb YN Xw fl Yy ZE)(iv:TY o h w l.vs)(Xf:(U fl)<=1000000000000):
  Zd aN T 89 #[Zz wb,Zz nb,am (XV l w).toArray] h fun v' h'=>∃o' a' JD,Kp (fun t=>t=.world\/t=.Zp\/t=.ZS i) o h o' h'/\Z6 o' h' wb i nb a' (Qy n l).n/\Z1 o' h' wb YN JD (fl++(Qy n l).ls) Yy ZE:=by
 obtain⟨pw,cw,rfl⟩:=iv.ZP;refine Zd.XS [_,_,_] Tryz.func89 ?_;unfold Zz XV;obtain⟨h1,Xp⟩:=ZL (h.push (J (XV l (H pw (U l.vs) cw)).toArray 135):Hp);have k1:Kp Wy o h o h1:=by rw[Xp];exact Yw d _
 have x5:Yb o h1 h.size (J (XV l (H pw (U l.vs) cw)).toArray 135):=⟨d _ (ae _),by rw[Xp];exact Zc⟩
 have e0:=Xp.symm;have cc:=dG T h1 o wb i nb a n l (H pw (U l.vs) cw) k1.Yn (N.Zo k1) (iv.Zf k1);unfold XV at e0;unfold XV Zz at cc;simp -implicitDefEqProofs only[go_sem];rw[e0];refine cc.use ?_;rintro _ g ⟨k2,N2⟩;have W2:=(W.Zo k1).Zf k2 (by rintro t rfl;simp[Tg.of]);have y5:=x5.Zf k2;have R2:=ZR N2.ZZ.2 N2.pt.store.len;have Us:=Za N2.ZZ.2;have m5:=Za y5.2;have q5:hc g ⟨h.size,5,aa⟩=O (Q D l.v.Zu):=Zn y5.2;have ek:(Xz n l).Zi=n.Zi:=by unfold Xz;split<;>rfl
 have eme:(Xz n l).me=n.me:=by unfold Xz;split<;>rfl
 have lk:=fun (K:ag->Hp->Prop)=>Xi (K:=K) (n:=l.v.Zu) (c:=true) Rz L4 N2.pt.Zi.2;have SZ:=fun (K:ag->Hp->Prop) (x:Obj)=>Xi (h:=g.push x) (K:=K) (n:=l.v.Zu) (c:=true) Rz L4 ((ZJ (Za N2.pt.Zi.2)).trans N2.pt.Zi.2);rw[Js,ek]at lk;simp only[Js,ek]at SZ;have gp:∀x:Obj,(g.push x)[g.size]? = O x:=fun x=>Zc;simp -implicitDefEqProofs only[go_sem]
 cases hx:Yh n.Zi l.v.Zu with
 | none=>
  have eP:Qy n l=⟨Xz n l,[],[]⟩:=by unfold Qy;rw[hx]
  rw[eP,ab];rw[hx]at lk;simp only[hx,a6,a4,aw,↓reduceIte]at lk SZ;refine VS.mono (N:=fun F' g'=>Zj g.size g g'/\F' 7=a7 false) ?_ ?_ (fun _ _ _ h=>h) (fun _ _ h=>h)
  .refine VS.z (g.size) [7,12] (.p 0 (.p 1 (.p 2 (.q 3 (.p 4 (.p 5 (.q 6 (.or 7 (.p 8 (.p 9 (.p 10 (.s 11 (.w 12 (.p 13 .nil)))))) (.s 11 (.w 7 (.p 8 (.p 9 (.p 10 (.w 12 (.p 13 .nil))))))))))))))) mixed vM ?_;simp -implicitDefEqProofs only[go_sem,R2.Zi,q5,Us,m5,lk,SZ]
   repeat' (first|exact Zj.refl _ _|exact Zj.push (ae _) _|refine bc ?_ ?_)
  .rintro F' g' ⟨b,f7⟩;simp -implicitDefEqProofs only[go_sem,f7];exact⟨o,a,Xw,((Z0 k1).trans (k2.mono fun t q=>.inr (.inr q))).Yz b,N2.Zo (ZX k2.Yn b),W2.Zo (ZX k2.Yn b)⟩
 | some y=>
  have eP:Qy n l=⟨Xz n l,[⟨6,n.me,l.Jw,Jq,QK l.v.Zu Jq y,[]⟩],[]⟩:=by unfold Qy;rw[hx]
  rw[eP];rw[hx]at lk;simp only[hx,aO,aD,a3,↓reduceIte]at lk SZ;refine VS.mono (N:=fun F' g'=>Zj g.size g g'/\F' 0=Z (O ⟨wb,0,aa⟩)/\F' 1=Z (O ⟨nb,0,aa⟩)/\F' 5=Z (O ⟨h.size,0,aa⟩)/\F' 7=a7 true/\F' 6=Z (O ⟨g.size,0,aa⟩)/\g'[g.size]? = O (J y.C.toArray 25)) ?_ ?_ (fun _ _ _ h=>h) (fun _ _ h=>h)
  .refine VS.z (g.size) [7,12] (.p 0 (.p 1 (.p 2 (.q 3 (.p 4 (.p 5 (.q 6 (.or 7 (.p 8 (.p 9 (.p 10 (.s 11 (.w 12 (.p 13 .nil)))))) (.s 11 (.w 7 (.p 8 (.p 9 (.p 10 (.w 12 (.p 13 .nil))))))))))))))) mixed vM ?_;simp -implicitDefEqProofs only[go_sem,R2.Zi,q5,Us,m5,lk,SZ,Sy]
   repeat' (first|exact Zj.refl _ _|exact Zj.push (ae _) _|exact gp _|refine bc ?_ ?_)
  .rintro F' g' ⟨b,f0,f1,f5,f7,f6,yy⟩;have kb:=ZX k2.Yn b;have N3:=N2.Zo kb;have W3:=W2.Zo kb;have z5:=y5.Zf kb;have R3:=ZR N3.ZZ.2 N3.pt.store.len;have p1:hc g' ⟨h.size,1,aa⟩=O (Q D l.Jw):=Zn z5.2;have p5:hc g' ⟨h.size,5,aa⟩=O (Q D l.v.Zu):=Zn z5.2;have p6:rd g' ⟨g.size,0,aa⟩ 5=O [Q D y.k,Q D y.c,Q D y.s,Q D y.n,Q D y.v]:=Zy yy rfl;simp -implicitDefEqProofs only[go_sem,f0,f1,f5,f7,f6,p1,p5,p6];refine (V3 T g' o wb nb YN n.me Xw fl Yy ZE l.Jw ⟨6,0,0,Jq,QK l.v.Zu Jq y,[]⟩ (H aa 0 0) kb.Yn W3 (by rw[<-eme];exact R3.me) (Za N3.ZZ.2) (Im.nil _ _ _ _) Xf).use ?_;rintro v' h' ⟨o',JD,k,_,W'⟩;simp -implicitDefEqProofs only[go_sem];exact⟨o',a,JD,(((Z0 k1).trans (k2.mono fun t q=>.inr (.inr q))).trans (Z0 kb)).trans (k.mono fun t q=>q.elim .inl fun q=>.inr (.inl q)),N3.Zf k (by rintro t (rfl|rfl)<;>simp[Tg.of]),W'⟩
section
variable {K:ag->Hp->Prop} {X:Hp}
theorem Cn{t e:bg}(ht:mK aN t=O e){b:Nat}(hb:b=X.size){l:List (Int × ag)}{n:Int}{x:ag}:
  IP aN t (.map (O b)) (Q D n) x K (X.push (Jt l))=K undef (X.push (Jt (ins l n x))):=by
 subst hb;rw[Qk ht Zc]
 congr 1
 apply Array.ext_getElem?;intro j;rw[Array.getElem?_setIfInBounds,bf,bf];by_cases hj:X.size=j
 .subst hj;simp
 .rw[if_neg hj,if_neg (fun e=>hj e.symm),if_neg (fun e=>hj e.symm)]
theorem j1{t e:bg}(ht:mK aN t=O e){b:Nat}(hb:b=X.size){n:Int}{x:ag}:
  IP aN t (.map (O b)) (Q D n) x K (X.push (.map #[] 0))=K undef (X.push (Jt [(n,x)])):=Cn (l:=[]) ht hb
theorem j2{t e:bg}{z:ag}(ht:mK aN t=O e)(hz:tzv aN e=O z){b:Nat}(hb:b=X.size){l:List (Int × ag)}{n:Int}{x:ag}(hx:Yh l n=O x):
  IM aN t (.map (O b)) (Q D n) false K (X.push (Jt l))=K x (X.push (Jt l)):=by
 subst hb;rw[Xi ht hz Zc,hx];rfl
end
theorem dH(n:Nd)(l:YH):(YG n l).ts=[]:=by
 unfold YG
 repeat' split
 all_goals rfl
theorem ZaJ(n:Nd)(l:YH):(asked n l).ts=[]:=by
 unfold asked
 repeat' split
 all_goals rfl
theorem ZaK(n:Nd)(l:YH):(Qy n l).ts=[]:=by
 unfold Qy;split<;>rfl
theorem ZaL(n:Nd)(s:Int)(x:Cm):(Jl n s x).ls=[]:=rfl
theorem Hl(n:Nd)(l:YH):(Ym n l).ls=[]:=by
 unfold Ym
 repeat' split
 all_goals rfl
set_option maxHeartbeats 1000000 in
theorem td(T:ba)(h:Hp)(o:Ow)(wb i nb:Nat)(YN:Nat->Nat)(a:NA)(n:Nd)(Xw:WA)(fl:List YH)(Yy:Nat->Int)(ZE:List Ob)(l:YH)(w:ag)(d:Vz o h)(N:Z6 o h wb i nb a n)(W:Z1 o h wb YN Xw fl Yy ZE)(iv:TY o h w l.vs)(tb:dp o h)(ZBt:0<=l.Z3/\l.Z3<=7)(Xf:(U fl)<=1000000000000)(hvl:n.Zq.l.length<=1000000)(vB:(U n.data)<=1000000)(hk:n.Zi.length<=100000000000)(hl:n.ZA.length<=100000000000)(ht:(U ZE)<=100000000000)(hq:n.Zx.length<=1000000000000)(hw:n.Zk.length<=1000000000000)(hv:∀r s,n.Zh=O r->((Yh r.Xb s).getD []).length<=1000000):
  Zd aN T 71 #[Zz wb,Zz nb,am (XV l w).toArray] h fun v' h'=>∃o' a' JD,Kp (JV i) o h o' h'/\Z6 o' h' wb i nb a' (Zw n l).n/\Z1 o' h' wb YN JD (fl++(Zw n l).ls) Yy (ZE++(Zw n l).ts):=by
 obtain⟨pw,cw,rfl⟩:=iv.ZP;refine Zd.XS [_,_,_] Tryz.func71 ?_;obtain⟨h1,Xp⟩:=ZL (h.push (J (XV l (H pw (U l.vs) cw)).toArray 135):Hp);have k1:Kp Wy o h o h1:=by rw[Xp];exact Yw d _
 have x5:Yb o h1 h.size (J (XV l (H pw (U l.vs) cw)).toArray 135):=⟨d _ (ae _),by rw[Xp];exact Zc⟩
 have e0:=Xp.symm;have s1:h1.size=h.size+1:=by rw[Xp];simp
 obtain⟨M,hM⟩:∃M:List (Int × ag),M=[(0,.func (.func 85) #[] #[]),(1,.func (.func 86) #[] #[]),(2,.func (.func 87) #[] #[]),(3,.func (.func 86) #[] #[]),(4,.func (.func 88) #[] #[]),(5,.func (.func 89) #[] #[]),(6,.func (.func 90) #[] #[]),(7,.func (.func 91) #[] #[])]:=⟨_,rfl⟩
 have k2:Kp Wy o h o (h1.push (Jt M)):=k1.push _;have N2:=N.Zo k2;have W2:=W.Zo k2;have vE:=iv.Zf k2;have iO:=tb.Zf k2;have x2:Yb o (h1.push (Jt M)) h.size (J (XV l (H pw (U l.vs) cw)).toArray 135):=x5.Zf (Yw k1.Yn _);have d2:Vz o (h1.push (Jt M)):=k2.Yn;have q0:hc (h1.push (Jt M)) ⟨h.size,0,aa⟩=O (Q D l.Z3):=Zn x2.2;have q14:rd (h1.push (Jt M)) ⟨h.size,0,aa⟩ 14=O (XV l (H pw (U l.vs) cw)):=Zy x2.2 rfl;have eM:ins (ins (ins (ins (ins (ins (ins [((0:Int),Value.func (.func 85) #[] #[])] 1 (.func (.func 86) #[] #[])) 2 (.func (.func 87) #[] #[])) 3 (.func (.func 86) #[] #[])) 4 (.func (.func 88) #[] #[])) 5 (.func (.func 89) #[] #[])) 6 (.func (.func 90) #[] #[])) 7 (.func (.func 91) #[] #[])=M:=by rw[hM];rfl
 have u0:=fun (K:ag->Hp->Prop) (n:Int) (x:ag)=>j1 (K:=K) (X:=h1) Zas (b:=h1.size) rfl (n:=n) (x:=x);have u1:=fun (K:ag->Hp->Prop) (l:List (Int × ag)) (n:Int) (x:ag)=>Cn (K:=K) (X:=h1) Zas (b:=h1.size) rfl (l:=l) (n:=n) (x:=x);have lk:=fun (K:ag->Hp->Prop) (x:ag) (hx:Yh M l.Z3=O x)=>j2 (K:=K) (X:=h1) Zas ZmT (b:=h1.size) rfl hx;unfold Zz XV;unfold XV at e0 q14;have dI:l.Z3=0\/l.Z3=1\/l.Z3=2\/l.Z3=3\/l.Z3=4\/l.Z3=5\/l.Z3=6\/l.Z3=7:=pA;rcases dI with KW|KW|KW|KW|KW|KW|KW|KW
 .have hf:Zw n l=YG n l:=by unfold Zw;simp[KW]
  rw[hf];have j3:=fun (K:ag->Hp->Prop)=>lk K (.func (.func 85) #[] #[]) (by rw[KW,hM];rfl);have cc:=dB T _ o wb i nb YN a n Xw fl Yy ZE l _ d2 N2 W2 vE Xf hvl vB iO;unfold XV Zz at cc;simp -implicitDefEqProofs only[go_sem,e0,u0,u1,eM,q0,q14,j3];refine cc.use ?_;rintro v' h' ⟨o',a',JD,k,N',W'⟩;simp -implicitDefEqProofs only[go_sem];exact⟨o',a',JD,(Z0 k2).trans (k.mono fun t q=>by rcases q with rfl|rfl|rfl<;>simp[JV,Tg.of]),N',by rw[dH,ab];exact W'⟩
 .have hf:Zw n l=Ym n l:=by unfold Zw;simp[KW]
  rw[hf];have j3:=fun (K:ag->Hp->Prop)=>lk K (.func (.func 86) #[] #[]) (by rw[KW,hM];rfl);have cc:=Hk T _ o wb i nb YN a n Xw fl Yy ZE l _ d2 N2 W2 vE hk hl ht hq hw hv;unfold XV Zz at cc;simp -implicitDefEqProofs only[go_sem,e0,u0,u1,eM,q0,q14,j3];refine cc.use ?_;rintro v' h' ⟨o',a',JD,k,N',W'⟩;simp -implicitDefEqProofs only[go_sem];exact⟨o',a',JD,(Z0 k2).trans (k.mono fun t q=>dF q),N',by rw[Hl,ab];exact W'⟩
 .have hf:Zw n l=asked n l:=by unfold Zw;simp[KW]
  rw[hf];have j3:=fun (K:ag->Hp->Prop)=>lk K (.func (.func 87) #[] #[]) (by rw[KW,hM];rfl);have cc:=ZaF T _ o wb i nb YN a n Xw fl Yy ZE l _ d2 N2 W2 vE Xf hvl vB iO;unfold XV Zz at cc;simp -implicitDefEqProofs only[go_sem,e0,u0,u1,eM,q0,q14,j3];refine cc.use ?_;rintro v' h' ⟨o',a',JD,k,N',W'⟩;simp -implicitDefEqProofs only[go_sem];exact⟨o',a',JD,(Z0 k2).trans (k.mono fun t q=>by rcases q with rfl|rfl|rfl<;>simp[JV,Tg.of]),N',by rw[ZaJ,ab];exact W'⟩
 .have hf:Zw n l=Ym n l:=by unfold Zw;simp[KW]
  rw[hf];have j3:=fun (K:ag->Hp->Prop)=>lk K (.func (.func 86) #[] #[]) (by rw[KW,hM];rfl);have cc:=Hk T _ o wb i nb YN a n Xw fl Yy ZE l _ d2 N2 W2 vE hk hl ht hq hw hv;unfold XV Zz at cc;simp -implicitDefEqProofs only[go_sem,e0,u0,u1,eM,q0,q14,j3];refine cc.use ?_;rintro v' h' ⟨o',a',JD,k,N',W'⟩;simp -implicitDefEqProofs only[go_sem];exact⟨o',a',JD,(Z0 k2).trans (k.mono fun t q=>dF q),N',by rw[Hl,ab];exact W'⟩
 .have hf:Zw n l=⟨add n l.v.cm,[],[]⟩:=by unfold Zw;simp[KW]
  rw[hf];have j3:=fun (K:ag->Hp->Prop)=>lk K (.func (.func 88) #[] #[]) (by rw[KW,hM];rfl);have cc:=ZaH T _ o wb i nb a n l _ d2 N2 vE hq pA;unfold XV Zz at cc;simp -implicitDefEqProofs only[go_sem,e0,u0,u1,eM,q0,q14,j3];refine cc.use ?_;rintro v' h' ⟨o',a',k,N'⟩;simp -implicitDefEqProofs only[go_sem];exact⟨o',a',Xw,(Z0 k2).trans (k.mono fun t q=>by rcases q with rfl|rfl<;>simp[JV,Tg.of]),N',by rw[ab,ab];exact W2.Zf k (by rintro t (rfl|rfl)<;>simp[Tg.of])⟩
 .have hf:Zw n l=Qy n l:=by unfold Zw;simp[KW]
  rw[hf];have j3:=fun (K:ag->Hp->Prop)=>lk K (.func (.func 89) #[] #[]) (by rw[KW,hM];rfl);have cc:=ZaI T _ o wb i nb YN a n Xw fl Yy ZE l _ d2 N2 W2 vE Xf;unfold XV Zz at cc;simp -implicitDefEqProofs only[go_sem,e0,u0,u1,eM,q0,q14,j3];refine cc.use ?_;rintro v' h' ⟨o',a',JD,k,N',W'⟩;simp -implicitDefEqProofs only[go_sem];exact⟨o',a',JD,(Z0 k2).trans (k.mono fun t q=>by rcases q with rfl|rfl|rfl<;>simp[JV,Tg.of]),N',by rw[ZaK,ab];exact W'⟩
 .have hf:Zw n l=Jl n l.v.Zu l.v.cm:=by unfold Zw;simp[KW]
  rw[hf];have j3:=fun (K:ag->Hp->Prop)=>lk K (.func (.func 90) #[] #[]) (by rw[KW,hM];rfl);have cc:=sZ T _ o wb i nb YN a n Xw fl Yy ZE l _ d2 N2 W2 vE hk hl ht hq hw;unfold XV Zz at cc;simp -implicitDefEqProofs only[go_sem,e0,u0,u1,eM,q0,q14,j3];refine cc.use ?_;rintro v' h' ⟨o',a',JD,k,N',W'⟩;simp -implicitDefEqProofs only[go_sem];exact⟨o',a',JD,(Z0 k2).trans (k.mono fun t q=>FZ q),N',by rw[ZaL,ab];exact W'⟩
 .have hf:Zw n l=⟨Xz n l,[],[]⟩:=by unfold Zw;simp[KW]
  rw[hf];have j3:=fun (K:ag->Hp->Prop)=>lk K (.func (.func 91) #[] #[]) (by rw[KW,hM];rfl);have cc:=dG T _ o wb i nb a n l _ d2 N2 vE;unfold XV Zz at cc;simp -implicitDefEqProofs only[go_sem,e0,u0,u1,eM,q0,q14,j3];refine cc.use ?_;rintro v' h' ⟨k,N'⟩;simp -implicitDefEqProofs only[go_sem];exact⟨o,a,Xw,(Z0 k2).trans (k.mono fun t q=>by rw[q];simp[JV,Tg.of]),N',by rw[ab,ab];exact W2.Zf k (by rintro t rfl;simp[Tg.of])⟩
@[go_sem] theorem Zv0(x:Cm):List.take 5 x.C=x.C:=rfl
def VP(n:Nd)(r:XE)(x:Cm):Int:=match free n r x with|some s=>(s:Int)|none=>0
theorem XA.rr{o:Ow}{i:Nat}{h:Hp}{ra:RA}{r:XE}(s:XA o i h ra r):rd h ⟨ra.rb,0,aa⟩ 2=O (QI r.b)/\hc h ⟨ra.rb,2,aa⟩=O (.map (O ra.pb))/\hc h ⟨ra.rb,3,aa⟩=O (a7 r.XU)/\hc h ⟨ra.rb,4,aa⟩=O (.map (O ra.qb))/\hc h ⟨ra.rb,5,aa⟩=O (.map (O ra.vb)):=
 ⟨by rw[YL s.ZZ.2 (by simp[jX])];rfl,Zn s.ZZ.2,Zn s.ZZ.2,Zn s.ZZ.2,Zn s.ZZ.2⟩
set_option maxHeartbeats 1000000 in
theorem Zee(T:ba)(h:Hp)(o:Ow)(wb i nb:Nat)(a:NA)(n:Nd)(ra:RA)(r:XE)(x:Cm)(d:Vz o h)(N:Z6 o h wb i nb a n)(R:XA o i h ra r)(hl:n.ZA.length<=1000000000000):
  Zd aN T 117 #[Zz nb,Zz ra.rb,Sy x] h fun v' h'=>v'=.tuple #[Q D (VP n r x),a7 (free n r x).isSome]/\Zj h.size h h':=by
 have T4:=Za N.ZZ.2;have HU:=Za R.ZZ.2;refine Zd.Lt [_,_,_] Tryz.func117 ?_;unfold Zz Sy;obtain⟨h1,Xp⟩:=ZL (h.push (J x.C.toArray 25):Hp);have k1:Kp Wy o h o h1:=by rw[Xp];exact Yw d _
 have b1:Zj h.size h h1:=by rw[Xp];exact Zj.push (ae _) _
 have x1:Yb o h1 h.size (J x.C.toArray 25):=⟨d _ (ae _),by rw[Xp];exact Zc⟩
 have e0:=Xp.symm;have N1:=N.Zo k1;have R1:=R.Zf k1 (fun _ _ q=>q);have P1:=ZR N1.ZZ.2 N1.pt.store.len;have P0:=ZR N.ZZ.2 N.pt.store.len;obtain⟨lp,lc,NL,hlc⟩:=XB.ZP N1.pt.ZA;have P11:=P1.ZA;rw[NL]at P11;have Uh:=Za N1.ZZ.2;have e3:((n.ZA.length:Nat):Int)=(n.ZA.length:Int):=rfl;simp -implicitDefEqProofs only[go_sem,e0,P11];refine VS.Yk (fun F g=>Zj h1.size h1 g/\F 0=Z (O ⟨nb,0,aa⟩)/\F 1=Z (O ⟨ra.rb,0,aa⟩)/\F 5=Z (O ⟨h.size,0,aa⟩)/\∃s:Nat,F 8=Q D s/\n.ZA.length<=s/\Qo n r x (40-n.ZA.length) n.ZA.length=Qo n r x (40-s) s)
  (fun F _=>40-(vi (F 8)).toNat) rfl ⟨Zj.refl _ _,rfl,rfl,rfl,n.ZA.length,rfl,ae _,rfl⟩ ?_
 rintro F g ⟨hg,f0,f1,f5,s,f8,hs,he⟩;have kg:=ZX k1.Yn hg;have N2:=N1.Zo kg;have R2:=R1.Zf kg (fun _ _ q=>q);have y1:=x1.Zf kg;have P2:=ZR N2.ZZ.2 N2.pt.store.len;obtain⟨_,_,_,q4,_⟩:=R2.rr;have gs:=hg.size;have Us:=Za N2.ZZ.2;have dE:=Za R2.ZZ.2;have bb:Zj h.size h g:=b1.trans (hg.mono b1.size);have eF:free n r x=Qo n r x (40-s) s:=he;by_cases ZT:s<40
 .have Z7:(s:Int)<40:=pA;obtain⟨f,hf⟩:∃f,40-s=f+1:=⟨39-s,pA⟩
  have ef:f=40-(s+1):=pA;rw[hf]at eF he;have Co:=fun (K:ag->Hp->Prop)=>Xi (K:=K) (n:=(s:Int)) (c:=true) Rz L4 R2.ZY.2;rw[Js]at Co;have SZ:=fun (K:ag->Hp->Prop) (z:Obj)=>Xi (h:=g.push z) (K:=K) (n:=(s:Int)) (c:=true) Rz L4 ((ZJ (Za N2.pt.Zi.2)).trans N2.pt.Zi.2);simp only[Js]at SZ;have fz:∀c:Cm,rd g ⟨h.size,0,aa⟩ 5=O x.C:=fun _=>Zy y1.2 rfl;have fx:rd g ⟨h.size,0,aa⟩ 5=O x.C:=Zy y1.2 rfl;have hx5:=Za y1.2;have n1:¬h.size=g.size:=pA;have n2:¬h.size=g.size+1:=pA;have n3:¬nb=g.size:=pA;unfold Qo at eF
  cases c1:Yh r.ZY (s:Int) with
  | none=>
   simp only[c1,a6,a4,aw,↓reduceIte]at Co
   cases c2:Yh n.Zi (s:Int) with
   | none=>
    simp only[c2,a6,a4,aw,↓reduceIte]at SZ;have e4:free n r x=O s:=by rw[eF,if_neg (by rw[c1,c2];simp),if_pos ⟨c1,c2⟩]
    have e5:VP n r x=s:=by unfold VP;rw[e4]
    rw[e5,e4];simp -implicitDefEqProofs only[go_sem,f0,f1,f5,f8,Z7,q4,Co,SZ,P2.Zi,n1,n2,n3,fx,Sy,a3];exact (bb.YX pA _).YX VL _
   | some z=>
    simp only[c2,aO,aD,a3,↓reduceIte]at SZ;by_cases qz:z=x
    .have e4:free n r x=aa:=by rw[eF,if_pos (.inr (by rw[c2,qz]))]
     have e5:VP n r x=0:=by unfold VP;rw[e4]
     rw[e5,e4];simp -implicitDefEqProofs only[go_sem,f0,f1,f5,f8,Z7,q4,Co,SZ,P2.Zi,n1,n2,n3,fx,Sy,qz,aw];exact (bb.YX pA _).YX VL _
    .have qz':¬O z=O x:=fun e=>qz (Option.some.inj e);simp -implicitDefEqProofs only[go_sem,f0,f1,f5,f8,Z7,q4,Co,SZ,P2.Zi,n1,n2,n3,fx,Sy,qz];unfold XN;refine⟨⟨(hg.YX pA _).YX VL _,f0,f1,f5,s+1,rfl,pA,?_⟩,?_⟩
     .rw[he,<-ef,Qo,if_neg (by rw[c1,c2];simp[qz]),if_neg (by rw[c2];simp)]
     .simp only[vi,Zr,↓reduceIte,f8];omega
  | some y=>
   simp only[c1,aO,aD,a3,↓reduceIte]at Co;by_cases qy:y=x
   .have e4:free n r x=aa:=by rw[eF,if_pos (.inl (by rw[c1,qy]))]
    have e5:VP n r x=0:=by unfold VP;rw[e4]
    rw[e5,e4]
    cases c2:Yh n.Zi (s:Int) with
    | none=>
     simp only[c2,a6,a4,aw,↓reduceIte]at SZ;simp -implicitDefEqProofs only[go_sem,f0,f1,f5,f8,Z7,q4,Co,SZ,P2.Zi,n1,n2,n3,fx,Sy,qy,aw];exact (bb.YX pA _).YX VL _
    | some z=>
     simp only[c2,aO,aD,a3,↓reduceIte]at SZ;simp -implicitDefEqProofs only[go_sem,f0,f1,f5,f8,Z7,q4,Co,SZ,P2.Zi,n1,n2,n3,fx,Sy,qy,aw];exact (bb.YX pA _).YX VL _
   .cases c2:Yh n.Zi (s:Int) with
    | none=>
     simp only[c2,a6,a4,aw,↓reduceIte]at SZ;simp -implicitDefEqProofs only[go_sem,f0,f1,f5,f8,Z7,q4,Co,SZ,P2.Zi,n1,n2,n3,fx,Sy,qy];unfold XN;refine⟨⟨(hg.YX pA _).YX VL _,f0,f1,f5,s+1,rfl,pA,?_⟩,?_⟩
     .rw[he,<-ef,Qo,if_neg (by rw[c1,c2];simp[qy]),if_neg (by rw[c1];simp)]
     .simp only[vi,Zr,↓reduceIte,f8];omega
    | some z=>
     simp only[c2,aO,aD,a3,↓reduceIte]at SZ;by_cases qz:z=x
     .have e4:free n r x=aa:=by rw[eF,if_pos (.inr (by rw[c2,qz]))]
      have e5:VP n r x=0:=by unfold VP;rw[e4]
      rw[e5,e4];simp -implicitDefEqProofs only[go_sem,f0,f1,f5,f8,Z7,q4,Co,SZ,P2.Zi,n1,n2,n3,fx,Sy,qy,qz,aw];exact (bb.YX pA _).YX VL _
     ·
      simp -implicitDefEqProofs only[go_sem,f0,f1,f5,f8,Z7,q4,Co,SZ,P2.Zi,n1,n2,n3,fx,Sy,qy,qz];unfold XN;refine⟨⟨(hg.YX pA _).YX VL _,f0,f1,f5,s+1,rfl,pA,?_⟩,?_⟩
      .rw[he,<-ef,Qo,if_neg (by rw[c1,c2];simp[qy,qz]),if_neg (by rw[c1];simp)]
      .simp only[vi,Zr,↓reduceIte,f8];omega
 .have Xv:¬(s:Int)<40:=pA;have e4:free n r x=aa:=by rw[eF,show 40-s=0 by omega];rfl
  have e5:VP n r x=0:=by unfold VP;rw[e4]
  rw[e5,e4];simp -implicitDefEqProofs only[go_sem,f8,Xv,bb,aw]
def Zh9(B:Nat)(o:Ow)(h0 h:Hp)(u:ag)(LL:List (List Vt)):Prop:=
 ∃ws:List ag,UO B 103 1 h u (U LL) ws/\aT (fun w l=>TY o h0 w l/\(U l)<=1000000) ws LL
def j4(o:Ow)(h:Hp)(u:ag)(LL:List (List Vt)):Prop:=∃p c,u=H p (U LL) c/\(LL≠[]->∃b off,p=O ⟨b,off,aa⟩/\b<h.size/\o b=aa/\∀i (hi:i<(U LL)),∃w,hc h ⟨b,off+i,aa⟩=O w/\TY o h w LL[i]/\LL[i].length<=1000000)
theorem j4.vss{o:Ow}{h:Hp}{u:ag}{LL:List (List Vt)}(s:j4 o h u LL):Vss h u LL:=by
 obtain⟨p,c,hv,hh⟩:=s;refine⟨p,c,hv,fun Y7=>?_⟩;obtain⟨b,off,h1,h2,h3,h4⟩:=hh Y7;refine⟨b,off,h1,h2,fun i hi=>?_⟩;obtain⟨w,g1,g2,g3⟩:=h4 i hi;exact⟨w,g1,g2.ts,pA⟩
theorem j4.Zf{S:Tg->Prop}{o o':Ow}{h h':Hp}{u:ag}{LL:List (List Vt)}(s:j4 o h u LL)(k:Kp S o h o' h'):j4 o' h' u LL:=by
 obtain⟨p,c,hv,hh⟩:=s;refine⟨p,c,hv,fun Y7=>?_⟩;obtain⟨b,off,h1,h2,h3,h4⟩:=hh Y7;obtain⟨q1,q2⟩:=k.Zf b h2 fun t ht=>by rw[h3]at ht;cases ht
 refine⟨b,off,h1,Nat.lt_of_lt_of_le h2 k.size,q2.trans h3,fun i hi=>?_⟩;obtain⟨w,g1,g2,g3⟩:=h4 i hi;refine⟨w,?_,g2.Zf k,g3⟩;unfold hc at g1 ⊢;rw[q1];exact g1
theorem Zh9.Zv1{o:Ow}{h0 h:Hp}{u:ag}{LL:List (List Vt)}(s:Zh9 h0.size o h0 h u LL)(d:Vz o h0)(hb:Zj h0.size h0 h):j4 o h u LL:=by
 obtain⟨ws,Zq,al⟩:=s;have Zef:(U ws)=(U LL):=by
  clear Zq
  induction al with
  | nil=>rfl
  | cons _ _ ih=>simp[ih]
 have Zv2:∀i (hi:i<(U LL)),∃w,ws[i]? = O w/\TY o h0 w LL[i]/\LL[i].length<=1000000:=by
  clear Zq Zef
  induction al with
  | nil=>intro i hi;simp at hi
  | cons Bi _ ih=>
   intro i hi
   cases i with
   | zero=>exact⟨_,rfl,Bi⟩
   | succ i=>exact ih i (by simpa using hi)
 obtain⟨p,c,hv,hl,XL⟩:=Zq.sl;refine⟨p,c,hv,fun Y7=>?_⟩;have GC:0<(U LL):=List.length_pos_iff.2 Y7;obtain⟨b,off,rfl,EJ⟩:=XL (by intro e;rw[e]at Zef;simp at Zef;omega);have hbB:h0.size<=b:=by
  refine Zq.ZZ b ?_;rcases Zq with⟨⟨q,h1⟩,h2,h3⟩|⟨b',cap,sp,_,h1,_,_,_,hm⟩
  .subst h3;simp at Zef;omega
  .rw[hv]at h1;simp only[Value.slice.injEq,Option.some.injEq,Addr.mk.injEq]at h1;obtain⟨⟨rfl,_,_⟩,h12,h13⟩:=h1;rw[hv];have:c≠0:=pA;simp[Yf,this]
 refine⟨b,off,rfl,Vj (EJ 0 pA),d b hbB,fun i hi=>?_⟩;obtain⟨w,h1,h2,h3⟩:=Zv2 i hi;have mF:i<(U ws):=pA;rw[List.getElem?_eq_getElem mF]at h1;exact⟨w,by rw[EJ i mF,Option.some.inj h1],h2.Zf (ZX d hb),h3⟩
theorem dJ{α β:Type}{R:α->β->Prop}{l:List α}{k:List β}(s:aT R l k){a:α}{b:β}(h:R a b):aT R (l++[a]) (k++[b]):=by
 induction s with
 | nil=>exact .cons h .nil
 | cons x _ ih=>exact .cons x ih
theorem th(l:List Vt)(v:Vt):Pm (l++[v])=if Pm l<v.Zu then v.Zu else Pm l:=by
 unfold Pm;rw[bh];rfl
theorem XA.nT{o:Ow}{i:Nat}{h:Hp}{ra:RA}{r:XE}(s:XA o i h ra r)(d:Vz o h){k:Int}{x:Cm}:
  Kp (fun t=>t=.ZY i) o h o (h.setIfInBounds ra.qb (Jt (ins (VC Sy r.ZY) k (am x.C.toArray))))/\XA o i (h.setIfInBounds ra.qb (Jt (ins (VC Sy r.ZY) k (am x.C.toArray)))) ra { r with ZY:=ins r.ZY k x }:=by
 have kk:Kp (fun t=>t=.ZY i) o h o (h.setIfInBounds ra.qb (Jt (ins (VC Sy r.ZY) k (am x.C.toArray)))):=(Kp.refl d (fun t=>t=.ZY i)).set s.ZY.1 rfl _;exact⟨kk,s.ZZ.Zf kk Va,s.ZI.Zf kk Va,s.OO.Zf kk,⟨s.ZY.1,by rw[ZV s.ZY.2,Oj];rfl⟩,s.Xb.Zf kk Va,s.RC.Zf kk (fun _ e=>by cases e),s.keys⟩
theorem Pw(r:XE):(Yp r).length=5:=rfl
theorem Cp(r:XE)(m:Nat)(hm:m<(Yp r).length):(Yp r)[m]=(Yh r.ZI (m:Int)).getD []:=by
 simp only[Yp,List.getElem_map,List.getElem_range]
theorem XA.list{o:Ow}{i:Nat}{h:Hp}{ra:RA}{r:XE}(s:XA o i h ra r)(hp:∀x∈r.ZI,x.2.length<=1000000)(m:Int):∃p c vs,(Yh ra.pv m).getD (H aa 0 0)=H p (U vs) c/\(Yh r.ZI m).getD []=vs/\TY o h (H p (U vs) c) vs/\(U vs)<=1000000:=by
 rcases s.OO.Yh m with⟨h1,h2⟩|⟨w,vs,h1,h2,iv⟩
 .exact⟨aa,0,[],by rw[h1];rfl,by rw[h2];rfl,Im.nil _ _ _ _,IQ⟩
 .obtain⟨p,c,rfl⟩:=iv.ZP;exact⟨p,c,vs,by rw[h1];rfl,by rw[h2];rfl,iv,hp _ (RZ h2)⟩
set_option maxHeartbeats 1000000 in
theorem ZaM(T:ba)(h:Hp)(o:Ow)(wb i nb:Nat)(a:NA)(n:Nd)(ra:RA)(r:XE)(d:Vz o h)(N:Z6 o h wb i nb { a with Zh:=O ra } { n with Zh:=O r })(hp:∀x∈r.ZI,x.2.length<=1000000)(hs:∀x∈r.ZI,∀v∈x.2,v.Zu<=1000000)(hl:n.ZA.length<=1000000000000):
  Zd aN T 116 #[Zz nb,Zz ra.rb] h fun v' h'=>∃ra',ra'.rb=ra.rb/\Kp (JY i) o h o h'/\Z6 o h' wb i nb { a with Zh:=O ra' } { n with Zh:=O (Wn n r) }:=by
 have T4:=Za N.ZZ.2;have R:XA o i h ra r:=N.pt.Zh;have HU:=Za R.ZZ.2;refine Zd.XS [_,_] Tryz.func116 ?_;unfold Zz;simp -implicitDefEqProofs only[go_sem];refine VS.Yk (fun F g=>Zj h.size h g/\F 0=Z (O ⟨nb,0,aa⟩)/\F 1=Z (O ⟨ra.rb,0,aa⟩)/\∃m:Nat,m<=5/\F 12=Q D m/\Zh9 h.size o h g (F 4) ((Yp r).take m)/\F 5=Q D (Pm ((Yp r).take m).flatten))
  (fun F _=>5-(vi (F 12)).toNat) rfl ⟨Zj.refl _ _,rfl,rfl,0,pA,rfl,⟨[],UO.nil _ _ _ _,.nil⟩,rfl⟩ ?_
 rintro F g ⟨hg,f0,f1,m,hm,f12,hG,f5⟩;have kg:=ZX d hg;have N1:=N.Zo kg;have R1:=R.Zf kg (fun _ _ q=>q);obtain⟨_,q2,q3,q4,_⟩:=R1.rr;have gs:=hg.size;by_cases ZT:m<5
 .have Z7:(m:Int)<5:=pA;obtain⟨pm,cm,vs,e1,e2,iv,hvl⟩:=R1.list hp (m:Int);have hm5:m<(Yp r).length:=by rw[Pw];exact ZT
  have e3:(Yp r)[m]=vs:=by rw[Cp,e2]
  have e4:(Yp r).take (m+1)=(Yp r).take m++[vs]:=by rw[Y8 _ m hm5,e3]
  have lk:=fun (G:Hp) (hG:Zj g.size g G) (K:ag->Hp->Prop)=>Xi (h:=G) (K:=K) (n:=(m:Int)) (c:=false) Hc Zat (hG.get (Za R1.ZI.2) R1.ZI.2);simp only[e1,a0,if_false]at lk;have lk0:=lk g (Zj.refl _ _);obtain⟨ws,Zq,al⟩:=hG;obtain⟨p4,c4,hF4⟩:∃p c,F 4=H p ((Yp r).take m).length c:=by
   obtain⟨p,c,h1,_⟩:=Zq.sl;exact⟨p,c,h1⟩
  have ml:((Yp r).take m).length=m:=by rw[List.length_take,Pw];omega
  rw[ml]at hF4 Zq;rw[hF4]at Zq;simp -implicitDefEqProofs only[go_sem,f0,f1,f5,f12,hF4,Z7,q2,lk0];have src:Sl 1 (g.push (J [H pm (U vs) cm].toArray 103)) (H (O ⟨g.size,0,aa⟩) 1 1) 1 [H pm (U vs) cm]:=Sl.made IQ 1;refine IJ (E:=103) (n:=1) (B:=h.size) (bytes:=24) (m:=m) (k:=1) (cs:=ws) Zg0 Tryz.underlying229 Zli Zlk rfl Zlj (Zq.push _) VL src rfl pA pA ?_;intro u3 g3 Zne Zv4 _;have hg3:Zj h.size h g3:=(hg.YX pA _).trans (Zv4.Yz VL (Zq.push (J [H pm (U vs) cm].toArray 103)).ZZ);have kg3:=ZX d hg3;have R3:=R.Zf kg3 (fun _ _ q=>q);obtain⟨_,q23,_,_,_⟩:=R3.rr;have lk3:=fun (K:ag->Hp->Prop)=>Xi (K:=K) (n:=(m:Int)) (c:=false) Hc Zat R3.ZI.2;simp only[e1,a0,if_false]at lk3;obtain⟨p5,c5,rfl⟩:∃p c,u3=H p (m+1) c:=by obtain⟨p,c,h1,_⟩:=Zne.sl;exact⟨p,c,h1⟩
  have iv0:TY o h (H pm (U vs) cm) vs:=by
   obtain⟨pm',cm',vs',x1,x2,iv',_⟩:=R.list hp (m:Int);rw[e1]at x1;rw[e2]at x2;subst x2;rw[<-x1]at iv';exact iv'
  have al3:aT (fun w l=>TY o h w l/\(U l)<=1000000) (ws++[H pm (U vs) cm]) ((Yp r).take m++[vs]):=by
   exact dJ al ⟨iv0,hvl⟩
  simp -implicitDefEqProofs only[go_sem,f0,f1,f5,f12,Z7,q23,lk3];obtain⟨LL,hLL⟩:=ZL (((Yp r).take m).flatten);have hfl:((Yp r).take (m+1)).flatten=LL++vs:=by rw[e4,List.flatten_append,<-hLL];simp
  rw[<-hLL]at f5;have ivo:=fun g' (hb:Zj h.size h g')=>FU (iv0.Zf (ZX d hb)).ts;refine VS.Yk (fun F' g'=>Zj h.size h g'/\F' 0=Z (O ⟨nb,0,aa⟩)/\F' 1=Z (O ⟨ra.rb,0,aa⟩)/\F' 12=Q D m/\F' 29=H pm (U vs) cm/\F' 30=Q D (U vs)/\F' 4=H p5 (m+1) c5/\UO h.size 103 1 g' (H p5 (m+1) c5) (m+1) (ws++[H pm (U vs) cm])/\∃j:Nat,j<=(U vs)/\F' 31=Q D j/\F' 5=Q D (Pm (LL++vs.take j)))
   (fun F' _=>(U vs)-(vi (F' 31)).toNat) rfl ⟨hg3,f0,f1,f12,rfl,rfl,rfl,Zne,0,pA,rfl,by rw[List.take_zero,ab];exact f5⟩ ?_
  rintro F2 g4 ⟨HW,f0,f1,f12,f29,f30,f4,Znf,j,hj,f31,f5⟩;by_cases gz:j<(U vs)
  .have Zv5:(j:Int)<(U vs):=pA;obtain⟨pp,cc,Cq,jG⟩:=ivo g4 HW;obtain⟨bb,oo,hpp,TC,Kc⟩:=jG (by intro e;rw[e]at gz;simp at gz);simp only[Value.slice.injEq]at Cq;obtain⟨rfl,_,rfl⟩:=Cq;subst hpp;have r1:=Kc j gz;unfold Zv at r1;simp -implicitDefEqProofs only[go_sem,f0,f1,f12,f29,f30,f4,f31,f5,Zv5,r1];unfold XN;refine⟨⟨HW.YX HW.size _,f0,f1,f12,f29,f30,f4,Znf.push _,j+1,gz,rfl,?_⟩,?_⟩
   .show Value.int D _=_;rw[Y8 vs j gz,<-List.append_assoc,th]
   .simp only[vi,Zr,↓reduceIte,f31];omega
  .have Xv:¬(j:Int)<(U vs):=pA;obtain rfl:j=(U vs):=pA;rw[List.take_length]at f5;simp -implicitDefEqProofs only[go_sem,f30,f31,Xv,f12];unfold XN;refine⟨⟨HW,f0,f1,m+1,ZT,rfl,⟨_,?_,by rw[e4];exact al3⟩,by rw[hfl];exact f5⟩,?_⟩
   .show UO _ _ _ _ (F2 4) _ _;rw[f4,e4,List.length_append,ml];exact Znf
   .simp only[vi,Zr,↓reduceIte,f12];omega
 .have Xv:¬(m:Int)<5:=pA;obtain rfl:m=5:=pA;have ht5:(Yp r).take 5=Yp r:=by rw[List.take_of_length_le];exact Nat.le_of_eq (Pw r)
  rw[ht5]at hG f5;have P1:=ZR N1.ZZ.2 N1.pt.store.len;have Uh:=Za N1.ZZ.2;obtain⟨lp,lc,NL,_⟩:=XB.ZP N1.pt.ZA;have P11:=P1.ZA;rw[NL]at P11;have tj:=hG.Zv1 d hg;obtain⟨u,hu⟩:=ZL (F 4);rw[<-hu]at tj hG;obtain⟨Z5,LP⟩:=ZL (Pm (Yp r).flatten);rw[<-LP]at f5;have htl:Z5<=1000000:=by
   rw[LP];have key:∀(l:List Vt) (t:Int),t<=1000000->(∀v∈l,v.Zu<=1000000)->l.foldl (fun t v=>if t<v.Zu then v.Zu else t) t<=1000000:=by
    intro l
    induction l with
    | nil=>intro t ht _;exact ht
    | cons x l ih=>
     intro t ht hh;refine ih _ ?_ (fun v hv=>hh v (List.mem_cons_of_mem _ hv));show (if t<x.Zu then x.Zu else t)<=1000000;split
     .exact hh x List.mem_cons_self
     .exact ht
   refine key _ _ pA ?_;intro v hv;simp only[List.mem_flatten]at hv;obtain⟨l,mX,HG⟩:=hv;obtain⟨k,hk,rfl⟩:=List.getElem_of_mem mX;rw[Cp]at HG
   cases hx:Yh r.ZI (k:Int) with
   | none=>rw[hx]at HG;cases HG
   | some y=>rw[hx]at HG;exact hs _ (RZ hx) v HG
  clear hG;obtain⟨LL,hLL⟩:=ZL (Yp r);rw[<-hLL]at tj LP;obtain⟨C,hC⟩:=ZL ((Z5+1).toNat-n.ZA.length);have jv:Wn n r = { r with ZY:=(be n.ZA.length C).foldl (J6 n LL) r.ZY,XU:=true }:=by
   unfold Wn;rw[hC,LP,hLL]
  rw[jv];have hu':=hu.symm;simp -implicitDefEqProofs only[go_sem,f0,f1,f5,f12,Xv,P11];refine VS.Yk (fun F' g'=>Kp (JY i) o h o g'/\F' 0=Z (O ⟨nb,0,aa⟩)/\F' 1=Z (O ⟨ra.rb,0,aa⟩)/\F' 4=u/\F' 5=Q D Z5/\j4 o g' u LL/\∃k:Nat,k<=C/\F' 9=Q D ((n.ZA.length+k:Nat):Int)/\Z6 o g' wb i nb { a with Zh:=O ra } { n with Zh:=O { r with ZY:=(be n.ZA.length k).foldl (J6 n LL) r.ZY } })
   (fun F' _=>n.ZA.length+C-(vi (F' 9)).toNat) rfl ⟨Z0 kg,f0,f1,hu',f5,tj,0,pA,rfl,N1⟩ ?_
  rintro F2 g2 ⟨K2,f0,f1,f4,f5,tj,k,hk,f9,N2⟩;obtain⟨pk,hpk⟩:=ZL ((be n.ZA.length k).foldl (J6 n LL) r.ZY);rw[<-hpk]at N2;have R2:XA o i g2 ra { r with ZY:=pk }:=N2.pt.Zh;obtain⟨_,_,_,q4,_⟩:=R2.rr;have P2:=ZR N2.ZZ.2 N2.pt.store.len;have Us:=Za N2.ZZ.2;have dE:=Za R2.ZZ.2;by_cases hkc:k<C
  .have hle:(((n.ZA.length+k:Nat):Int))<=Z5:=pA;have lk:=fun (K:ag->Hp->Prop)=>Xi (K:=K) (n:=((n.ZA.length+k:Nat):Int)) (c:=true) Rz L4 N2.pt.Zi.2;rw[Js]at lk;have XI:(be n.ZA.length (k+1)).foldl (J6 n LL) r.ZY=J6 n LL pk (n.ZA.length+k):=by
    rw[List.range'_concat,bh,<-hpk];simp
   cases hx:Yh n.Zi ((n.ZA.length+k:Nat):Int) with
   | some y=>
    have e6:J6 n LL pk (n.ZA.length+k)=pk:=by unfold J6;rw[if_neg (by rw[hx];simp)]
    simp only[show ({ n with Zh:=O { r with ZY:=pk } }:Nd).Zi=n.Zi from rfl,hx,aO,aD,a3,↓reduceIte]at lk;simp -implicitDefEqProofs only[go_sem,f0,f1,f4,f5,f9,hle,P2.Zi,lk,Sy];have kx:=Yw K2.Yn (J y.C.toArray 25);unfold XN;refine⟨⟨K2.push _,f0,f1,f4,f5,tj.Zf kx,k+1,hkc,?_,by rw[XI,e6];exact N2.Zo kx⟩,?_⟩
    .show Value.int D _=Value.int D _
     congr 1
    .simp only[vi,Zr,↓reduceIte,f9];omega
   | none=>
    have e6:J6 n LL pk (n.ZA.length+k)=ins pk ((n.ZA.length+k:Nat):Int) (ON LL ((n.ZA.length+k:Nat):Int)):=by unfold J6;rw[if_pos hx]
    simp only[show ({ n with Zh:=O { r with ZY:=pk } }:Nd).Zi=n.Zi from rfl,hx,a6,a4,aw,↓reduceIte]at lk;simp -implicitDefEqProofs only[go_sem,f0,f1,f4,f5,f9,hle,P2.Zi,lk];obtain⟨g3,hg3⟩:=ZL (g2.push (J Oa.C.toArray 25):Hp);have kx:Kp Wy o g2 o g3:=by rw[hg3];exact Yw K2.Yn _
    rw[<-hg3];have N3:=N2.Zo kx;have R3:XA o i g3 ra { r with ZY:=pk }:=N3.pt.Zh;obtain⟨_,_,_,q43,_⟩:=R3.rr;have Zv6:=Za R3.ZZ.2;have hv3:=tj.Zf kx;have LLl:(U LL)<=4611686018427387904:=by rw[hLL,Pw];omega
    refine VS.z (g3.size) [12] (.p 0 (.p 1 (.p 2 (.q 3 (.p 4 (.p 5 (.p 6 (.s 7 (.p 8 (.p 9 (.p 10 (.p 11 (.w 12 .nil))))))))))))) mixed vM ?_;simp -implicitDefEqProofs only[go_sem,f0,f1,f4,f5,f9,q43,Zv6];refine (Zdr T g3 u LL ((n.ZA.length+k:Nat):Int) hv3.vss LLl).use ?_;rintro _ g4 ⟨ZdE,b4⟩;unfold BP at ZdE;subst ZdE;have k4:=ZX kx.Yn b4;have N4:=N3.Zo k4;have R4:XA o i g4 ra { r with ZY:=pk }:=N4.pt.Zh;have eC:BO (if Sv ((n.ZA.length+k:Nat):Int) LL.flatten=0 then WP ((n.ZA.length+k:Nat):Int) LL.flatten else SU)=(ON LL ((n.ZA.length+k:Nat):Int)).C:=by
     unfold ON;split<;>rfl
    rw[eC];simp -implicitDefEqProofs only[go_sem,b4,f0,f1,f4,f5,f9];rw[Qk Rz R4.ZY.2];obtain⟨k5,R5⟩:=R4.nT k4.Yn (k:=((n.ZA.length+k:Nat):Int)) (x:=ON LL ((n.ZA.length+k:Nat):Int));have k5':Kp (JY i) o g4 o _:=k5.mono fun t q=>.inr (.inr (.inl q));simp -implicitDefEqProofs only[go_sem,f9];unfold XN;refine⟨⟨(K2.trans ((Z0 kx).trans (Z0 k4))).trans k5',f0,f1,f4,f5,(hv3.Zf k4).Zf k5',k+1,hkc,?_,?_⟩,?_⟩
    .show Value.int D _=Value.int D _
     congr 1
    .rw[XI,e6];exact⟨N4.ZZ.Zf k5 Va,Yi.Wa N4.pt k5' rfl rfl R5⟩
    .simp only[vi,Zr,↓reduceIte,f9];omega
  .have hgt:¬(((n.ZA.length+k:Nat):Int))<=Z5:=pA;obtain rfl:k=C:=pA;obtain⟨g4,w4,h4⟩:∃g4,QX g2 ⟨ra.rb,3,aa⟩ (a7 true)=O g4/\g4=g2.setIfInBounds ra.rb (J (jX { r with ZY:=pk,XU:=true } ra).toArray 157):=by
    refine⟨_,?_,rfl⟩;rw[Xj R2.ZZ.2,if_pos ⟨by simp[jX],rfl⟩];rfl
   simp -implicitDefEqProofs only[go_sem,f0,f1,f4,f5,f9,hgt,dE,w4];have kk:Kp (fun t=>t=.Zh i) o g2 o g4:=by rw[h4];exact (Kp.refl K2.Yn (fun t=>t=.Zh i)).set R2.ZZ.1 rfl _
   have R4:XA o i g4 ra { r with ZY:=pk,XU:=true }:=⟨⟨R2.ZZ.1,by rw[h4];exact ZV R2.ZZ.2⟩,R2.ZI.Zf kk Va,R2.OO.Zf kk,R2.ZY.Zf kk Va,R2.Xb.Zf kk Va,R2.RC.Zf kk (fun _ e=>by cases e),R2.keys⟩
   rw[<-hpk];refine⟨ra,rfl,K2.trans (kk.mono fun t q=>.inl q),N2.ZZ.Zf kk Va,Yi.Wa N2.pt (kk.mono fun t q=>.inl q) rfl rfl R4⟩
end Go.Proofs.YthlfaofofaphfaaGreatDoor
