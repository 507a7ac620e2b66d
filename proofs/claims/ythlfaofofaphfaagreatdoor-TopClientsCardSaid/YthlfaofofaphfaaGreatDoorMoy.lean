/- Part Moy. -/
import Derived.Test.YthlfaofofaphfaaGreatDoorMop
import Derived.Test.YthlfaofofaphfaaGreatDoorOpn
open Go.Value renaming slice→H,int→Q,pointer→Z,agg→aI,bool→ba
open Go.IntKind renaming i64→D
open Go.Obj renaming cells→J
open Go.Proofs.Tryz renaming prog→a3
open List renaming length→U,append_nil→am,map_cons→bc,nodup_cons→bd,map→bg,range'→bh,foldl_append→bn,mem_cons→bo
open Nat renaming le_refl→au
open Option renaming isSome_none→aU,getD_some→a0,map_some→a4,isSome_some→a6,getD_none→a7,map_none→a9,some→O,none→aa
open Array renaming size_push→a8,getElem?_push→bk
open Bool renaming false_eq_true→a5
open And renaming intro→bf
open Go renaming Value→aw,World→be,TypeId→bl
namespace Go.Proofs.YthlfaofofaphfaaGreatDoor
open Go Go.V
set_option linter.unusedSimpArgs false
set_option linter.unusedVariables false
set_option maxRecDepth 100000
theorem qE(G:Hp)(X Y:Obj):((G.push X).push Y)[G.size]? = O X:=by rw[ZJ Hg,Zc]
theorem gs2(G:Hp)(k:Nat)(X Y:Obj):((G.setIfInBounds k X).push Y)[G.size]? = O Y:=by
 have:=Zc (h:=G.setIfInBounds k X) (o:=Y);rwa [Array.size_setIfInBounds]at this
theorem tZ(G:Hp)(X Y:Obj):((G.push X).push Y)[G.size+1]? = O Y:=by
 have:=Zc (h:=G.push X) (o:=Y);rwa [a8]at this
def mo(B:Nat)(g':Hp)(A C:aw)(p:Yw)(l:List Vt)(b:Yw):Prop:=
 ∃ka kc w1 w2,A=Zz ka/\C=Zz kc/\B<=ka/\B<=kc/\g'[ka]? = O (J (Xu (if YG p l b=0 then b else ⟨0,0⟩) w1).toArray 105)/\g'[kc]? = O (J [w2].toArray 103) /\
  Qv B 133 Zv 8 g' w1 (if YG p l b=0 then l else [])/\Qv B 133 Zv 8 g' w2 (if YG p l b=0 then l else [])
def DK(B:Nat)(g':Hp)(A:aw)(l:List Nat)(n:Int)(E:Int)(add:List Nat):Prop:=
 ∃ka w,A=Z (O ⟨ka,0,aa⟩)/\B<=ka/\g'[ka]? = O (J [w,Q D (if E=0 then n else 0)].toArray 100)/\Yx B 5 g' w (if E=0 then l++add else [])
set_option maxHeartbeats 1000000 in
theorem bP(T:be)(h:Hp)(o:Ow)(wb i nb:Nat)(YL:Nat->Nat)(a:NA)(n:Nd)(Xq:WA)(fl:List YF)(Yv:Nat->Int)(ZE:List Ps)(l:YF)(w:aw)(d:Vp o h)(N:Z5 o h wb i nb a n)(W:ZZ o h wb YL Xq fl Yv ZE)(iv:TD o h w l.vs)(Y7:(U fl)<=1000000000000)(yD:n.Zq.l.length<=1000000)(tT:(U n.data)<=1000000)(tb:eG o h):
  Zd a3 T 85 #[Zz wb,Zz nb,aI (XN l w).toArray] h fun v' h'=>∃o' a' Jv,Kp (fun t=>t=.world\/t=.Zp\/t=.ZV i) o h o' h'/\Z5 o' h' wb i nb a' (YB n l).n/\ZZ o' h' wb YL Jv (fl++(YB n l).ls) Yv ZE:=by
 obtain⟨pw,cw,rfl⟩:=iv.ZP;refine Zd.XS [_,_,_] Tryz.func85 ?_;unfold Zz XN;simp -implicitDefEqProofs only[go_sem];obtain⟨h1,Xk⟩:=ZQ (((h.push (J [Zz wb].toArray 91)).push (J [Zz nb].toArray 98)).push (J (XN l (H pw (U l.vs) cw)).toArray 135):Hp);have k1:Kp Wy o h o h1:=by rw[Xk];exact ((Kp.refl d _).push _ |>.push _).push _
 have s1:h1.size=h.size+3:=by rw[Xk];simp
 have d1:∀b,h.size<=b->o b=aa:=d;have x3:Yb o h1 h.size (J [Zz wb].toArray 91):=⟨d _ nc,by rw[Xk,ZJ KQ,qE]⟩
 have x4:Yb o h1 (h.size+1) (J [Zz nb].toArray 98):=⟨d _ nc,by rw[Xk,ZJ Hg,tZ]⟩
 have x5:Yb o h1 (h.size+2) (J (XN l (H pw (U l.vs) cw)).toArray 135):=⟨d _ nc,by
  have:=Zc (h:=(h.push (J [Zz wb].toArray 91)).push (J [Zz nb].toArray 98)) (o:=J (XN l (H pw (U l.vs) cw)).toArray 135);rw[Xk];simpa using this⟩
 have e0:((h.push (J [Zz wb].toArray 91)).push (J [Zz nb].toArray 98)).push (J (XN l (H pw (U l.vs) cw)).toArray 135)=h1:=Xk.symm;unfold Zz XN at e0;rw[e0];clear e0 Xk;have N1:=N.Zo k1;have W1:=W.Zo k1;have iv1:=iv.Zf k1;have R1:=ZR N1.ZX.2 N1.pt.store.len;have Q8:=Za N1.ZX.2;have l3:=Za x3.2;have l4:=Za x4.2;have l5:=Za x5.2;have r3:hc h1 ⟨h.size,0,aa⟩=O (Zz wb):=Zn x3.2;have r4:hc h1 ⟨h.size+1,0,aa⟩=O (Zz nb):=Zn x4.2;have r53:rd h1 ⟨h.size+2,3,aa⟩ 2=O [Q D l.b.r,Q D l.b.n]:=by rw[YJ x5.2 (by simp[XN])];rfl
 have r51:hc h1 ⟨h.size+2,1,aa⟩=O (Q D l.Jq):=Zn x5.2;unfold Zz at r3 r4;have Fq:=R1.Zq;obtain⟨pv,cv,t9⟩:=N1.pt.XO.ZP;rw[t9]at Fq;have call:∀G,Zk h1.size h1 G->Zd a3 T 95 #[aI #[Q D n.Zq.p.r,Q D n.Zq.p.n,H pv n.Zq.l.length cv],aI #[Q D l.b.r,Q D l.b.n]] G fun v' h'=>ar G.size h' v' n.Zq.p n.Zq.l l.b/\Zk G.size G h':=fun G hG=>
  RF T G n.Zq.p _ n.Zq.l l.b (by rw[<-t9];exact N1.pt.XO.ts.Yy hG) nc
 obtain⟨E,hE⟩:=ZQ (YG n.Zq.p n.Zq.l l.b);have wA:∀(G:Hp) (k:Nat) (r m:Int) (p:Option Addr) (L c:Nat),G[k]? = O (J [Q D 0,Q D 0,H aa 0 0].toArray 105)->wr G ⟨k,0,aa⟩ [Q D r,Q D m,H p L c]=O (G.setIfInBounds k (J [Q D r,Q D m,H p L c].toArray 105)):=fun G k r m p L c hx=>by
  rw[Ye hx 0 _];rfl
 have wB:∀(G:Hp) (k:Nat) (p:Option Addr) (L c:Nat),G[k]? = O (J [H aa 0 0].toArray 103)->QP G ⟨k,0,aa⟩ (H p L c)=O (G.setIfInBounds k (J [H p L c].toArray 103)):=fun G k p L c hx=>by
  rw[Xe hx 0 _];rfl
 refine VS.mono (N:=fun F' g'=>Zk h1.size h1 g'/\F' 3=Z (O ⟨h.size,0,aa⟩)/\F' 4=Z (O ⟨h.size+1,0,aa⟩)/\F' 5=Z (O ⟨h.size+2,0,aa⟩)/\F' 8=Q D E/\mo h1.size g' (F' 6) (F' 7) n.Zq.p n.Zq.l l.b) ?_ ?_ (fun _ _ _ h=>h) (fun _ _ h=>h)
 .refine VS.z (h1.size) [6,13,14] (.q 0 (.p 1 (.p 2 (.q 3 (.p 4 (.q 5 (.or 6 (.p 7 (.p 8 (.p 9 (.p 10 (.or 11 (.s 12 (.w 13 (.w 14 (.p 15 .nil)))) (.s 12 (.s 11 (.w 13 (.w 14 (.p 15 .nil)))))))))) (.or 11 (.or 6 (.p 7 (.p 8 (.p 9 (.p 10 (.s 12 (.w 13 (.w 14 (.p 15 .nil)))))))) (.s 12 (.w 6 (.p 7 (.p 8 (.p 9 (.p 10 (.w 13 (.w 14 (.p 15 .nil)))))))))) (.s 12 (.or 6 (.p 7 (.p 8 (.p 9 (.p 10 (.s 11 (.w 13 (.w 14 (.p 15 .nil)))))))) (.s 11 (.w 6 (.p 7 (.p 8 (.p 9 (.p 10 (.w 13 (.w 14 (.p 15 .nil))))))))))))))))))) mixed uf ?_;simp -implicitDefEqProofs only[go_sem,r4,Fq,r53,Q8,l4,l5];unfold mo Zz Xu
  repeat' (first|with_reducible exact Zk.refl _ _|with_reducible exact Zk.push nc _|with_reducible refine bf ?_ ?_)
  all_goals first
   | (refine (call h1 (Zk.refl _ _)).use ?_
      rintro _ g5 ⟨⟨w1,w2,rfl,o1,o2⟩,b5⟩;obtain⟨p1,c1,rfl,_⟩:=o1.open;obtain⟨p2,c2,rfl,_⟩:=o2.open;rw[<-hE]at *;have s5:=b5.size;unfold Xu;simp -implicitDefEqProofs only[go_sem,b5];refine⟨⟨_,_,_,_,rfl,rfl,s5,nc,qE _ _ _,tZ _ _ _,(o1.push _).push _,(o2.push _).push _⟩,⟨_,_,_,_,rfl,rfl,nc,s5,tZ _ _ _,qE _ _ _,(o1.push _).push _,(o2.push _).push _⟩⟩)
   | (refine (call (h1.push (J _ 105)) (Zk.push (au _) _)).use ?_
      rintro _ g5 ⟨⟨w1,w2,rfl,o1,o2⟩,b5⟩;obtain⟨p1,c1,rfl,_⟩:=o1.open;obtain⟨p2,c2,rfl,_⟩:=o2.open;rw[<-hE]at *;have s5:=b5.size;rw[a8]at s5;have B5:Zk h1.size h1 g5:=(Zk.push (au _) _).trans (b5.mono Hg);have xA:=b5.get (k:=h1.size) Hg Zc;have Pc:=wA _ _ (if E=0 then l.b else ⟨0,0⟩).r (if E=0 then l.b else ⟨0,0⟩).n p1 (if E=0 then n.Zq.l else []).length c1 xA;have zA:=Za xA;unfold Xu;simp -implicitDefEqProofs only[go_sem,B5,Pc,zA];exact⟨_,_,_,_,rfl,rfl,au _,nc,by rw[ZJ (by simpa using zA)];exact ZS xA,gs2 _ _ _ _,((o1.Ya Hg _).push _).mono Hg,((o2.Ya Hg _).push _).mono Hg⟩)
   | (refine (call (h1.push (J _ 103)) (Zk.push (au _) _)).use ?_
      rintro _ g5 ⟨⟨w1,w2,rfl,o1,o2⟩,b5⟩;obtain⟨p1,c1,rfl,_⟩:=o1.open;obtain⟨p2,c2,rfl,_⟩:=o2.open;rw[<-hE]at *;have s5:=b5.size;rw[a8]at s5;have B5:Zk h1.size h1 g5:=(Zk.push (au _) _).trans (b5.mono Hg);have xB:=b5.get (k:=h1.size) Hg Zc;have Fp:=wB _ _ p2 (if E=0 then n.Zq.l else []).length c2 xB;have zB:=Za xB;unfold Xu;simp -implicitDefEqProofs only[go_sem,B5,Fp,zB];exact⟨_,_,_,_,rfl,rfl,nc,au _,gs2 _ _ _ _,by rw[ZJ (by simpa using zB)];exact ZS xB,((o1.Ya Hg _).push _).mono Hg,((o2.Ya Hg _).push _).mono Hg⟩)
   | (refine (call ((h1.push (J _ 105)).push (J _ 103)) ((Zk.push (au _) _).YU Hg _)).use ?_
      rintro _ g5 ⟨⟨w1,w2,rfl,o1,o2⟩,b5⟩;obtain⟨p1,c1,rfl,_⟩:=o1.open;obtain⟨p2,c2,rfl,_⟩:=o2.open;rw[<-hE]at *;have s5:=b5.size;rw[a8,a8]at s5;have B5:Zk h1.size h1 g5:=((Zk.push (au _) _).YU Hg _).trans (b5.mono KQ);have xA:=b5.get (k:=h1.size) KQ (qE _ _ _);have xB:=b5.get (k:=h1.size+1) Hg (tZ _ _ _);have Pc:=wA _ _ (if E=0 then l.b else ⟨0,0⟩).r (if E=0 then l.b else ⟨0,0⟩).n p1 (if E=0 then n.Zq.l else []).length c1 xA;have zA:=Za xA;have Kw:=fun o:Obj=>(Xa (o:=o) (show h1.size≠h1.size+1 by omega)).trans xB;have Fp:=fun o:Obj=>wB _ _ p2 (if E=0 then n.Zq.l else []).length c2 (Kw o);have zB:h1.size+1<g5.size:=Za xB;unfold Xu;simp -implicitDefEqProofs only[go_sem,B5,Pc,zA,Fp,zB];exact⟨_,_,_,_,rfl,rfl,nc,nc,(Xa nc).trans (ZS xA),ZS (Kw _),((o1.Ya KQ _).Ya Hg _).mono KQ,((o2.Ya KQ _).Ya Hg _).mono KQ⟩)
   | (refine (call ((h1.push (J _ 103)).push (J _ 105)) ((Zk.push (au _) _).YU Hg _)).use ?_
      rintro _ g5 ⟨⟨w1,w2,rfl,o1,o2⟩,b5⟩;obtain⟨p1,c1,rfl,_⟩:=o1.open;obtain⟨p2,c2,rfl,_⟩:=o2.open;rw[<-hE]at *;have s5:=b5.size;rw[a8,a8]at s5;have B5:Zk h1.size h1 g5:=((Zk.push (au _) _).YU Hg _).trans (b5.mono KQ);have xB:=b5.get (k:=h1.size) KQ (qE _ _ _);have xA:=b5.get (k:=h1.size+1) Hg (tZ _ _ _);have Pc:=wA _ _ (if E=0 then l.b else ⟨0,0⟩).r (if E=0 then l.b else ⟨0,0⟩).n p1 (if E=0 then n.Zq.l else []).length c1 xA;have zA:=Za xA;have Kw:=fun o:Obj=>(Xa (o:=o) (show h1.size+1≠h1.size by omega)).trans xB;have Fp:=fun o:Obj=>wB _ _ p2 (if E=0 then n.Zq.l else []).length c2 (Kw o);have zB:h1.size<g5.size:=Za xB;unfold Xu;simp -implicitDefEqProofs only[go_sem,B5,Pc,zA,Fp,zB];exact⟨_,_,_,_,rfl,rfl,nc,nc,(Xa nc).trans (ZS xA),ZS (Kw _),((o1.Ya Hg _).Ya KQ _).mono KQ,((o2.Ya Hg _).Ya KQ _).mono KQ⟩)
 .rintro F1 g1 ⟨b1,f3,f4,f5,f8,ka,kc,w1,w2,fA,fC,ge1,ge2,yA,yC,o1,o2⟩;rw[<-hE]at yA o1 o2;have kb:=ZY k1.Yn b1;have N2:=N1.Zo kb;have W2:=W1.Zo kb;have K2:Kp Wy o h o g1:=k1.Yy b1;have y3:=x3.Zf kb;have y4:=x4.Zf kb;have y5:=x5.Zf kb;have tW:=iv1.Zf kb;have gz:=(tb.Zf k1).Zf kb;have R2:=ZR N2.ZX.2 N2.pt.store.len;have m3:=Za y3.2;have m4:=Za y4.2;have m5:=Za y5.2;have Ui:=Za N2.ZX.2;have q3:hc g1 ⟨h.size,0,aa⟩=O (Zz wb):=Zn y3.2;have q4:hc g1 ⟨h.size+1,0,aa⟩=O (Zz nb):=Zn y4.2;have mq:rd g1 ⟨h.size+2,3,aa⟩ 2=O [Q D l.b.r,Q D l.b.n]:=by rw[YJ y5.2 (by simp[XN])];rfl
  have q51:hc g1 ⟨h.size+2,1,aa⟩=O (Q D l.Jq):=Zn y5.2;unfold Zz at q3 q4;have R2p:=R2.bK;by_cases e:E=0
  case neg=>
   have eP:YB n l=⟨n,[⟨7,n.me,l.Jq,n.Zq.p,St,[]⟩],[]⟩:=by unfold YB;rw[<-hE,if_pos e]
   rw[eP];simp -implicitDefEqProofs only[go_sem,f8,e];refine VS.z (g1.size) [10] (.q 0 (.q 1 (.p 2 (.q 3 (.q 4 (.p 5 (.p 6 (.p 7 (.q 8 (.p 9 (.w 10 .nil))))))))))) mixed uf ?_;simp -implicitDefEqProofs only[go_sem,f3,f4,f5,q3,q4,q51,R2p,m3,m4,m5,Ui];refine (VR T g1 o wb nb YL n.me Xq fl Yv ZE l.Jq ⟨7,0,0,n.Zq.p,St,[]⟩ (H aa 0 0) K2.Yn W2 R2.me Ui (Im.nil _ _ _ _) Y7).use ?_;rintro v' h' ⟨o',Jv,k,_,W'⟩;simp -implicitDefEqProofs only[go_sem];exact⟨o',a,Jv,(Z1 K2).trans (k.mono fun t q=>q.elim .inl fun q=>.inr (.inl q)),N2.Zf k (by rintro t (rfl|rfl)<;>simp[Tg.of]),W'⟩
  rw[if_pos e]at yA o1 o2;have iv7:TD o g1 w2 n.Zq.l:=Im.WK o2.Zq (fun b hb=>k1.Yn b hb);have iv6:TD o g1 w1 n.Zq.l:=Im.WK o1.Zq (fun b hb=>k1.Yn b hb);unfold Zz at fA fC;simp -implicitDefEqProofs only[go_sem,f8,e,f3,f4,f5,fC];obtain⟨g2,Wn⟩:=ZQ (g1.push (J [TM 106 [h.size,h.size+1,h.size+2,kc]].toArray 1):Hp);have k2:=Yt K2.Yn (J [TM 106 [h.size,h.size+1,h.size+2,kc]].toArray 1);rw[<-Wn]at k2;have K3:Kp Wy o h o g2:=K2.trans k2;have x9:Yb o g2 g1.size (J [TM 106 [h.size,h.size+1,h.size+2,kc]].toArray 1):=⟨K2.Yn _ (au _),by rw[Wn];exact Zc⟩
  have e2:g1.push (J [TM 106 [h.size,h.size+1,h.size+2,kc]].toArray 1)=g2:=Wn.symm;unfold TM at e2;simp only[bg]at e2;unfold Zz at e2;rw[e2];clear e2 Wn;have N3:=N2.Zo k2;have W3:=W2.Zo k2;have z3:=y3.Zf k2;have z4:=y4.Zf k2;have z5:=y5.Zf k2;have z6:=(show Yb o g1 ka _ from⟨k1.Yn ka ge1,yA⟩).Zf k2;have z7:=(show Yb o g1 kc _ from⟨k1.Yn kc ge2,yC⟩).Zf k2;have iw7:=iv7.Zf k2;have iw6:=iv6.Zf k2;have tb3:=gz.Zf k2;clear R2 R2p m3 m4 m5 Ui q3 q4 mq q51 R1 Fq Q8 l3 l4 l5 r3 r4 r53 r51;have R3:=ZR N3.ZX.2 N3.pt.store.len;have m3:=Za z3.2;have m4:=Za z4.2;have m5:=Za z5.2;have m9:=Za x9.2;have Me:=Za N3.ZX.2;have q4:hc g2 ⟨h.size+1,0,aa⟩=O (Zz nb):=Zn z4.2;have mq:rd g2 ⟨h.size+2,3,aa⟩ 2=O (Qz l.b):=by rw[YJ z5.2 (by simp[XN])];rfl
  have q9:hc g2 ⟨g1.size,0,aa⟩=O (TM 106 [h.size,h.size+1,h.size+2,kc]):=Zn x9.2;have R3p:rd g2 ⟨nb,4,aa⟩ 2=O (Qz n.Zq.p):=R3.bK;unfold Zz at q4;refine VS.q mixed uf ?_;simp -implicitDefEqProofs only[go_sem,f4,f5,q4,mq,R3p];by_cases ep:n.Zq.p=l.b
  .have eP:YB n l=⟨n,[⟨1,n.me,l.Jq,l.b,St,n.Zq.l⟩],[]⟩:=by unfold YB;rw[<-hE,if_neg nc,if_pos ep]
   rw[eP];unfold TM at q9;simp only[bg]at q9;unfold Zz at q9;simp -implicitDefEqProofs only[go_sem,ep,q9];refine (mi T g2 o wb nb YL n.me Xq fl Yv ZE h.size (h.size+1) (h.size+2) kc l _ w2 n.Zq.l K3.Yn W3 R3.me Me Y7 z3 z4 z5 z7 iw7).use ?_;rintro v' h' ⟨o',Jv,k,W'⟩;simp -implicitDefEqProofs only[go_sem];exact⟨o',a,Jv,(Z1 K3).trans (k.mono fun t q=>q.elim .inl fun q=>.inr (.inl q)),N3.Zf k (by rintro t (rfl|rfl)<;>simp[Tg.of]),W'⟩
  simp -implicitDefEqProofs only[go_sem,ep];have ze:=R3.tape;obtain⟨pd,cd,Pw⟩:=N3.pt.data.1.ZP;rw[Pw]at ze;obtain⟨E2,qF⟩:=ZQ (Ji n.data n.YZ l.b);have call2:∀G,Zk g2.size g2 G->Zd a3 T 107 #[aI #[H pd (U n.data) cd,Q D n.YZ],aI #[Q D l.b.r,Q D l.b.n]] G fun v' h'=>RK G.size h' v' n.data n.YZ E2 (YS (JL l.b))/\Zk G.size G h':=fun G hG=>by
   rw[qF];exact Ix T G _ n.YZ n.data l.b (by rw[<-Pw];exact N3.pt.data.bs.Yy hG) nc (tb3.tk.Qx hG)
  have wT:∀(G:Hp) (k:Nat) (m:Int) (p:Option Addr) (L c:Nat),G[k]? = O (J [H aa 0 0,Q D 0].toArray 100)->wr G ⟨k,0,aa⟩ [H p L c,Q D m]=O (G.setIfInBounds k (J [H p L c,Q D m].toArray 100)):=fun G k m p L c hx=>by
   rw[Ye hx 0 _];rfl
  unfold Qz at mq;refine VS.mono (N:=fun F' g'=>Zk g2.size g2 g'/\F' 3=Z (O ⟨h.size,0,aa⟩)/\F' 4=Z (O ⟨h.size+1,0,aa⟩)/\F' 5=Z (O ⟨h.size+2,0,aa⟩)/\F' 6=Z (O ⟨ka,0,aa⟩)/\F' 9=Z (O ⟨g1.size,0,aa⟩)/\F' 8=Q D E2/\DK g2.size g' (F' 10) n.data n.YZ E2 (YS (JL l.b))) ?_ ?_ (fun _ _ _ h=>h) (fun _ _ h=>h)
  .refine VS.z (g2.size) [6,11] (.q 0 (.p 1 (.p 2 (.q 3 (.p 4 (.q 5 (.or 6 (.p 7 (.p 8 (.p 9 (.s 10 (.w 11 (.p 12 .nil)))))) (.s 10 (.w 6 (.p 7 (.p 8 (.p 9 (.w 11 (.p 12 .nil)))))))))))))) mixed uf ?_;simp -implicitDefEqProofs only[go_sem,f3,f4,f5,fA,q4,ze,mq,m4,m5,Me];unfold DK
   repeat' (first|with_reducible exact Zk.refl _ _|with_reducible exact Zk.push nc _|with_reducible refine bf ?_ ?_)
   all_goals first
    | (refine (call2 g2 (Zk.refl _ _)).use ?_
       rintro _ g5 ⟨⟨w,rfl,o1⟩,b5⟩;obtain⟨p1,c1,rfl,_⟩:=o1.bs.open;have s5:=b5.size;simp -implicitDefEqProofs only[go_sem,b5];exact⟨f3,f4,f5,fA,_,_,rfl,s5,Zc,o1.push _⟩)
    | (refine (call2 (g2.push (J _ 100)) (Zk.push (au _) _)).use ?_
       rintro _ g5 ⟨⟨w,rfl,o1⟩,b5⟩;obtain⟨p1,c1,rfl,_⟩:=o1.bs.open;have B5:Zk g2.size g2 g5:=(Zk.push (au _) _).trans (b5.mono Hg);have xA:=b5.get (k:=g2.size) Hg Zc;have Pc:=wT _ _ (if E2=0 then n.YZ else 0) p1 (if E2=0 then n.data++YS (JL l.b) else []).length c1 xA;have zA:=Za xA;simp -implicitDefEqProofs only[go_sem,B5,Pc,zA];exact⟨f3,f4,f5,fA,_,_,rfl,au _,ZS xA,(o1.Ya Hg _).mono Hg⟩)
  .rintro F2 g3 ⟨b3,f3,f4,f5,f6,f9,f8,kt,wt,fT,ge3,yT,oT⟩;have TE:=ZY K3.Yn b3;have N4:=N3.Zo TE;have W4:=W3.Zo TE;have K4:Kp Wy o h o g3:=K3.Yy b3;by_cases e2:E2=0
   case neg=>
    have eP:YB n l=⟨n,[],[]⟩:=by unfold YB;rw[<-hE,if_neg nc,if_neg ep,<-qF,if_pos e2]
    rw[eP,am];simp -implicitDefEqProofs only[go_sem,f8,e2];exact⟨o,a,Xq,Z1 K4,N4,W4⟩
   rw[if_pos e2]at yT oT;have u3:=z3.Zf TE;have u4:=z4.Zf TE;have u5:=z5.Zf TE;have u6:=z6.Zf TE;have u7:=z7.Zf TE;have u9:=x9.Zf TE;have iu6:=iw6.Zf TE;have iu7:=iw7.Zf TE;have iT:Pv o g3 wt (n.data++YS (JL l.b)):=⟨Im.WK oT.Zq (fun b hb=>K3.Yn b hb),oT.byte⟩
   have eP:YB n l=⟨{ n with data:=n.data++YS (JL l.b),Zs:=O (.VB ⟨l.b,n.Zq.l⟩ l.Jq l.b n.Zq.l) },[],[]⟩:=by unfold YB;rw[<-hE,if_neg nc,if_neg ep,<-qF,if_neg nc]
   rw[eP,am];clear R3 m3 m4 m5 m9 Me q4 mq q9 R3p ze;obtain⟨pt,ct,rfl,_⟩:=oT.bs.open;have q4:hc g3 ⟨h.size+1,0,aa⟩=O (Zz nb):=Zn u4.2;have qT:rd g3 ⟨kt,0,aa⟩ 2=O [H pt (n.data++YS (JL l.b)).length ct,Q D n.YZ]:=Zy yT rfl;have Hf:=Za N4.ZX.2;obtain⟨g4,w4,N5,k5⟩:=Yi.write (a:={ a with data:=H pt (n.data++YS (JL l.b)).length ct }) (n:={ n with data:=n.data++YS (JL l.b) }) { N4.pt with data:=iT } K4.Yn N4.ZX ((XH N4.ZX.2 N4.pt.store.len).tape (H pt (n.data++YS (JL l.b)).length ct) n.YZ rfl);have v4:=u4.Zf k5;have q4':hc g4 ⟨h.size+1,0,aa⟩=O (Zz nb):=Zn v4.2;have Mf:=Za N5.ZX.2;have pn:Vj o g4 wb i nb a.Zh (TM 108 [ka,h.size+1,g1.size]) (O (.VB ⟨l.b,n.Zq.l⟩ l.Jq l.b n.Zq.l)):=
    ⟨ka,h.size+1,g1.size,_,rfl,⟨_,u6.Zf k5,iu6.Zf k5⟩,v4,u9.Zf k5,h.size,h.size+1,h.size+2,kc,l,_,w2,rfl,u3.Zf k5,v4,u5.Zf k5,rfl,rfl,u7.Zf k5,iu7.Zf k5⟩
   obtain⟨g6,w6,N6,k6⟩:=Yi.write (a:={ a with data:=H pt (n.data++YS (JL l.b)).length ct,Zs:=TM 108 [ka,h.size+1,g1.size] }) (n:={ n with data:=n.data++YS (JL l.b),Zs:=O (.VB ⟨l.b,n.Zq.l⟩ l.Jq l.b n.Zq.l) }) { N5.pt with Zs:=pn } k5.Yn N5.ZX ((XH N5.ZX.2 N5.pt.store.len).Zs (TM 108 [ka,h.size+1,g1.size]) rfl);unfold TM at w6;simp only[bg]at w6;unfold Zz at q4 q4' w6;simp -implicitDefEqProofs only[go_sem,f8,e2,f4,f6,f9,fT,q4,qT,w4,Hf,q4',w6,Mf];have K6:Kp (fun t=>t=.world\/t=.Zp\/t=.ZV i) o h o g6:=((Z1 K4).trans (k5.mono fun t q=>.inr (.inr q))).trans (k6.mono fun t q=>.inr (.inr q));exact⟨o,_,Xq,K6,N6,(W4.Zf k5 (by rintro t rfl;simp[Tg.of])).Zf k6 (by rintro t rfl;simp[Tg.of])⟩
def Ze0(B:Nat)(g':Hp)(A:aw)(p:Yw)(l:List Vt)(x:Vt):Prop:=
 ∃ka w,A=Z (O ⟨ka,0,aa⟩)/\B<=ka/\g'[ka]? = O (J (Xu (if Xj p l x=0 then x.b else ⟨0,0⟩) w).toArray 105)/\Qv B 133 Zv 8 g' w (if Xj p l x=0 then Jz l x else [])
set_option maxHeartbeats 1000000 in
theorem zf(T:be)(h:Hp)(o:Ow)(wb i nb:Nat)(YL:Nat->Nat)(a:NA)(n:Nd)(Xq:WA)(fl:List YF)(Yv:Nat->Int)(ZE:List Ps)(l:YF)(w:aw)(d:Vp o h)(N:Z5 o h wb i nb a n)(W:ZZ o h wb YL Xq fl Yv ZE)(iv:TD o h w l.vs)(Y7:(U fl)<=1000000000000)(yD:n.Zq.l.length<=1000000)(tT:(U n.data)<=1000000)(tb:eG o h):
  Zd a3 T 87 #[Zz wb,Zz nb,aI (XN l w).toArray] h fun v' h'=>∃o' a' Jv,Kp (fun t=>t=.world\/t=.Zp\/t=.ZV i) o h o' h'/\Z5 o' h' wb i nb a' (asked n l).n/\ZZ o' h' wb YL Jv (fl++(asked n l).ls) Yv ZE:=by
 obtain⟨pw,cw,rfl⟩:=iv.ZP;refine Zd.XS [_,_,_] Tryz.func87 ?_;unfold Zz XN;simp -implicitDefEqProofs only[go_sem];obtain⟨h1,Xk⟩:=ZQ (((h.push (J [Zz wb].toArray 91)).push (J [Zz nb].toArray 98)).push (J (XN l (H pw (U l.vs) cw)).toArray 135):Hp);have k1:Kp Wy o h o h1:=by rw[Xk];exact ((Kp.refl d _).push _ |>.push _).push _
 have s1:h1.size=h.size+3:=by rw[Xk];simp
 have d1:∀b,h.size<=b->o b=aa:=d;have x3:Yb o h1 h.size (J [Zz wb].toArray 91):=⟨d _ nc,by rw[Xk,ZJ KQ,qE]⟩
 have x4:Yb o h1 (h.size+1) (J [Zz nb].toArray 98):=⟨d _ nc,by rw[Xk,ZJ Hg,tZ]⟩
 have x5:Yb o h1 (h.size+2) (J (XN l (H pw (U l.vs) cw)).toArray 135):=⟨d _ nc,by
  have:=Zc (h:=(h.push (J [Zz wb].toArray 91)).push (J [Zz nb].toArray 98)) (o:=J (XN l (H pw (U l.vs) cw)).toArray 135);rw[Xk];simpa using this⟩
 have e0:((h.push (J [Zz wb].toArray 91)).push (J [Zz nb].toArray 98)).push (J (XN l (H pw (U l.vs) cw)).toArray 135)=h1:=Xk.symm;unfold Zz XN at e0;rw[e0];clear e0 Xk;have N1:=N.Zo k1;have W1:=W.Zo k1;have iv1:=iv.Zf k1;have R1:=ZR N1.ZX.2 N1.pt.store.len;have Q8:=Za N1.ZX.2;have l3:=Za x3.2;have l4:=Za x4.2;have l5:=Za x5.2;have r3:hc h1 ⟨h.size,0,aa⟩=O (Zz wb):=Zn x3.2;have r4:hc h1 ⟨h.size+1,0,aa⟩=O (Zz nb):=Zn x4.2;have r53:rd h1 ⟨h.size+2,5,aa⟩ 8=O (Zv l.v):=by rw[YJ x5.2 (by simp[XN])];rfl
 have r51:hc h1 ⟨h.size+2,1,aa⟩=O (Q D l.Jq):=Zn x5.2;unfold Zz at r3 r4;have Fq:=R1.Zq;obtain⟨pv,cv,t9⟩:=N1.pt.XO.ZP;rw[t9]at Fq;unfold Zv at r53;have call:∀G,Zk h1.size h1 G->Zd a3 T 97 #[aI #[Q D n.Zq.p.r,Q D n.Zq.p.n,H pv n.Zq.l.length cv],aI (Zv l.v).toArray] G fun v' h'=>l9 G.size h' v' n.Zq.p n.Zq.l l.v/\Zk G.size G h':=fun G hG=>
  Ks T G n.Zq.p _ n.Zq.l l.v (by rw[<-t9];exact N1.pt.XO.ts.Yy hG) nc
 unfold Zv at call;obtain⟨E,hE⟩:=ZQ (Xj n.Zq.p n.Zq.l l.v);have wA:∀(G:Hp) (k:Nat) (r m:Int) (p:Option Addr) (L c:Nat),G[k]? = O (J [Q D 0,Q D 0,H aa 0 0].toArray 105)->wr G ⟨k,0,aa⟩ [Q D r,Q D m,H p L c]=O (G.setIfInBounds k (J [Q D r,Q D m,H p L c].toArray 105)):=fun G k r m p L c hx=>by
  rw[Ye hx 0 _];rfl
 refine VS.mono (N:=fun F' g'=>Zk h1.size h1 g'/\F' 3=Z (O ⟨h.size,0,aa⟩)/\F' 4=Z (O ⟨h.size+1,0,aa⟩)/\F' 5=Z (O ⟨h.size+2,0,aa⟩)/\F' 7=Q D E/\Ze0 h1.size g' (F' 6) n.Zq.p n.Zq.l l.v) ?_ ?_ (fun _ _ _ h=>h) (fun _ _ h=>h)
 .refine VS.z (h1.size) [6,11] (.q 0 (.p 1 (.p 2 (.q 3 (.p 4 (.q 5 (.or 6 (.p 7 (.p 8 (.p 9 (.s 10 (.w 11 (.p 12 .nil)))))) (.s 10 (.w 6 (.p 7 (.p 8 (.p 9 (.w 11 (.p 12 .nil)))))))))))))) mixed uf ?_;simp -implicitDefEqProofs only[go_sem,r4,Fq,r53,Q8,l4,l5];unfold Ze0 Xu
  repeat' (first|with_reducible exact Zk.refl _ _|with_reducible exact Zk.push nc _|with_reducible refine bf ?_ ?_)
  all_goals first
   | (refine (call h1 (Zk.refl _ _)).use ?_
      rintro _ g5 ⟨⟨w1,rfl,o1⟩,b5⟩;obtain⟨p1,c1,rfl,_⟩:=o1.open;rw[<-hE]at *;have s5:=b5.size;unfold Xu;simp -implicitDefEqProofs only[go_sem,b5];exact⟨_,_,rfl,s5,Zc,o1.push _⟩)
   | (refine (call (h1.push (J _ 105)) (Zk.push (au _) _)).use ?_
      rintro _ g5 ⟨⟨w1,rfl,o1⟩,b5⟩;obtain⟨p1,c1,rfl,_⟩:=o1.open;rw[<-hE]at *;have B5:Zk h1.size h1 g5:=(Zk.push (au _) _).trans (b5.mono Hg);have xA:=b5.get (k:=h1.size) Hg Zc;have Pc:=wA _ _ (if E=0 then l.v.b else ⟨0,0⟩).r (if E=0 then l.v.b else ⟨0,0⟩).n p1 (if E=0 then Jz n.Zq.l l.v else []).length c1 xA;have zA:=Za xA;unfold Xu;simp -implicitDefEqProofs only[go_sem,B5,Pc,zA];exact⟨_,_,rfl,au _,ZS xA,(o1.Ya Hg _).mono Hg⟩)
 .rintro F1 g1 ⟨b1,f3,f4,f5,f8,ka,w1,fA,ge1,yA,o1⟩;rw[<-hE]at yA o1;have kb:=ZY k1.Yn b1;have N2:=N1.Zo kb;have W2:=W1.Zo kb;have K2:Kp Wy o h o g1:=k1.Yy b1;have y3:=x3.Zf kb;have y4:=x4.Zf kb;have y5:=x5.Zf kb;have tW:=iv1.Zf kb;have gz:=(tb.Zf k1).Zf kb;have R2:=ZR N2.ZX.2 N2.pt.store.len;have m3:=Za y3.2;have m4:=Za y4.2;have m5:=Za y5.2;have Ui:=Za N2.ZX.2;have q3:hc g1 ⟨h.size,0,aa⟩=O (Zz wb):=Zn y3.2;have q4:hc g1 ⟨h.size+1,0,aa⟩=O (Zz nb):=Zn y4.2;have q51:hc g1 ⟨h.size+2,1,aa⟩=O (Q D l.Jq):=Zn y5.2;unfold Zz at q3 q4;have R2p:=R2.bK;by_cases e:E=0
  case neg=>
   have eP:asked n l=⟨n,[⟨7,n.me,l.Jq,n.Zq.p,St,[]⟩],[]⟩:=by unfold asked;rw[<-hE,if_pos e]
   rw[eP];simp -implicitDefEqProofs only[go_sem,f8,e];refine VS.z (g1.size) [10] (.q 0 (.q 1 (.p 2 (.q 3 (.q 4 (.p 5 (.p 6 (.p 7 (.q 8 (.p 9 (.w 10 .nil))))))))))) mixed uf ?_;simp -implicitDefEqProofs only[go_sem,f3,f4,f5,q3,q4,q51,R2p,m3,m4,m5,Ui];refine (VR T g1 o wb nb YL n.me Xq fl Yv ZE l.Jq ⟨7,0,0,n.Zq.p,St,[]⟩ (H aa 0 0) K2.Yn W2 R2.me Ui (Im.nil _ _ _ _) Y7).use ?_;rintro v' h' ⟨o',Jv,k,_,W'⟩;simp -implicitDefEqProofs only[go_sem];exact⟨o',a,Jv,(Z1 K2).trans (k.mono fun t q=>q.elim .inl fun q=>.inr (.inl q)),N2.Zf k (by rintro t (rfl|rfl)<;>simp[Tg.of]),W'⟩
  rw[if_pos e]at yA o1;have iv6:TD o g1 w1 (Jz n.Zq.l l.v):=Im.WK o1.Zq (fun b hb=>k1.Yn b hb);simp -implicitDefEqProofs only[go_sem,f8,e,f3,f4,f5];obtain⟨g2,Wn⟩:=ZQ (g1.push (J [TM 111 [h.size,h.size+1,h.size+2]].toArray 1):Hp);have k2:=Yt K2.Yn (J [TM 111 [h.size,h.size+1,h.size+2]].toArray 1);rw[<-Wn]at k2;have K3:Kp Wy o h o g2:=K2.trans k2;have x9:Yb o g2 g1.size (J [TM 111 [h.size,h.size+1,h.size+2]].toArray 1):=⟨K2.Yn _ (au _),by rw[Wn];exact Zc⟩
  have e2:g1.push (J [TM 111 [h.size,h.size+1,h.size+2]].toArray 1)=g2:=Wn.symm;unfold TM at e2;simp only[bg]at e2;unfold Zz at e2;rw[e2];clear e2 Wn;have N3:=N2.Zo k2;have W3:=W2.Zo k2;have z3:=y3.Zf k2;have z4:=y4.Zf k2;have z5:=y5.Zf k2;have z6:=(show Yb o g1 ka _ from⟨k1.Yn ka ge1,yA⟩).Zf k2;have iw6:=iv6.Zf k2;have tb3:=gz.Zf k2;clear R2 R2p m3 m4 m5 Ui q3 q4 q51 R1 Fq Q8 l3 l4 l5 r3 r4 r53 r51;have R3:=ZR N3.ZX.2 N3.pt.store.len;have m3:=Za z3.2;have m4:=Za z4.2;have m5:=Za z5.2;have m9:=Za x9.2;have Me:=Za N3.ZX.2;have q4:hc g2 ⟨h.size+1,0,aa⟩=O (Zz nb):=Zn z4.2;have mq:rd g2 ⟨h.size+2,5,aa⟩ 8=O (Zv l.v):=by rw[YJ z5.2 (by simp[XN])];rfl
  have q9:hc g2 ⟨g1.size,0,aa⟩=O (TM 111 [h.size,h.size+1,h.size+2]):=Zn x9.2;have R3v:=R3.XO;have N3v:=N3.pt.XO;unfold Zz at q4;unfold Zv at mq;refine VS.mono (N:=fun F' g'=>Zk g2.size g2 g'/\F' 3=Z (O ⟨h.size,0,aa⟩)/\F' 4=Z (O ⟨h.size+1,0,aa⟩)/\F' 5=Z (O ⟨h.size+2,0,aa⟩)/\F' 6=Z (O ⟨ka,0,aa⟩)/\F' 8=Z (O ⟨g1.size,0,aa⟩)/\F' 41=ba (decide (l.v∈n.Zq.l))) ?_ ?_ (fun _ _ _ h=>h) (fun _ _ h=>h)
  .refine VS.z (g2.size) [7] (.q 0 (.p 1 (.p 2 (.p 3 (.q 4 (.p 5 (.q 6 (.w 7 .nil)))))))) mixed uf ?_;simp -implicitDefEqProofs only[go_sem,f3,f4,f5,fA,q4,mq,R3v,m4,m5,Me];have cv:=EK T g2 a.XO n.Zq.l l.v N3v.ts nc;unfold Zv at cv;refine cv.use ?_;rintro _ g5 ⟨rfl,b5⟩;simp -implicitDefEqProofs only[go_sem,b5,f3,f4,f5,fA]
  rintro F1' iY ⟨tI,f3,f4,f5,fA,f9,f41⟩;have Nc:=ZY K3.Yn tI
  replace N3:=N3.Zo Nc
  replace W3:=W3.Zo Nc
  replace K3:=K3.trans Nc
  replace z3:=z3.Zf Nc
  replace z4:=z4.Zf Nc
  replace z5:=z5.Zf Nc
  replace z6:=z6.Zf Nc
  replace iw6:=iw6.Zf Nc
  replace tb3:=tb3.Zf Nc
  replace x9:=x9.Zf Nc
  clear R3 m3 m4 m5 m9 Me q4 mq q9 R3v N3v;have R3:=ZR N3.ZX.2 N3.pt.store.len;have m3:=Za z3.2;have m4:=Za z4.2;have m5:=Za z5.2;have m9:=Za x9.2;have Me:=Za N3.ZX.2;have q4:hc iY ⟨h.size+1,0,aa⟩=O (Zz nb):=Zn z4.2;have mq:rd iY ⟨h.size+2,5,aa⟩ 8=O (Zv l.v):=by rw[YJ z5.2 (by simp[XN])];rfl
  have q9:hc iY ⟨g1.size,0,aa⟩=O (TM 111 [h.size,h.size+1,h.size+2]):=Zn x9.2;unfold Zz at q4;by_cases ep:l.v∈n.Zq.l
  .have eP:asked n l=⟨n,[⟨3,n.me,l.Jq,Jj,l.v,[]⟩],[]⟩:=by unfold asked;rw[<-hE,if_neg nc,if_pos ep]
   rw[eP];unfold TM at q9;simp only[bg]at q9;unfold Zz at q9;simp -implicitDefEqProofs only[go_sem,f41,ep,f9,q9];refine (mj T iY o wb nb YL n.me Xq fl Yv ZE h.size (h.size+1) (h.size+2) l _ K3.Yn W3 R3.me Me Y7 z3 z4 z5).use ?_;rintro v' h' ⟨o',Jv,k,W'⟩;simp -implicitDefEqProofs only[go_sem];exact⟨o',a,Jv,(Z1 K3).trans (k.mono fun t q=>q.elim .inl fun q=>.inr (.inl q)),N3.Zf k (by rintro t (rfl|rfl)<;>simp[Tg.of]),W'⟩
  simp -implicitDefEqProofs only[go_sem,f41,ep];have ze:=R3.tape;obtain⟨pd,cd,Pw⟩:=N3.pt.data.1.ZP;rw[Pw]at ze;obtain⟨E2,qF⟩:=ZQ (QZ n.data n.YZ l.v);have call2:∀G,Zk iY.size iY G->Zd a3 T 113 #[aI #[H pd (U n.data) cd,Q D n.YZ],aI (Zv l.v).toArray] G fun v' h'=>RK G.size h' v' n.data n.YZ E2 (YS (Up l.v))/\Zk G.size G h':=fun G hG=>by
   rw[qF];exact yG T G _ n.YZ n.data l.v (by rw[<-Pw];exact N3.pt.data.bs.Yy hG) nc (tb3.tk.Qx hG)
  have wT:∀(G:Hp) (k:Nat) (m:Int) (p:Option Addr) (L c:Nat),G[k]? = O (J [H aa 0 0,Q D 0].toArray 100)->wr G ⟨k,0,aa⟩ [H p L c,Q D m]=O (G.setIfInBounds k (J [H p L c,Q D m].toArray 100)):=fun G k m p L c hx=>by
   rw[Ye hx 0 _];rfl
  unfold Zv at mq call2;refine VS.mono (N:=fun F' g'=>Zk iY.size iY g'/\F' 3=Z (O ⟨h.size,0,aa⟩)/\F' 4=Z (O ⟨h.size+1,0,aa⟩)/\F' 5=Z (O ⟨h.size+2,0,aa⟩)/\F' 6=Z (O ⟨ka,0,aa⟩)/\F' 8=Z (O ⟨g1.size,0,aa⟩)/\F' 7=Q D E2/\DK iY.size g' (F' 9) n.data n.YZ E2 (YS (Up l.v))) ?_ ?_ (fun _ _ _ h=>h) (fun _ _ h=>h)
  .refine VS.z (iY.size) [6,11] (.q 0 (.p 1 (.p 2 (.q 3 (.p 4 (.q 5 (.or 6 (.p 7 (.p 8 (.p 9 (.s 10 (.w 11 (.p 12 .nil)))))) (.s 10 (.w 6 (.p 7 (.p 8 (.p 9 (.w 11 (.p 12 .nil)))))))))))))) mixed uf ?_;simp -implicitDefEqProofs only[go_sem,f3,f4,f5,fA,f9,q4,ze,mq,m4,m5,Me];unfold DK
   repeat' (first|with_reducible exact Zk.refl _ _|with_reducible exact Zk.push nc _|with_reducible refine bf ?_ ?_)
   all_goals first
    | (refine (call2 iY (Zk.refl _ _)).use ?_
       rintro _ g5 ⟨⟨w,rfl,o1⟩,b5⟩;obtain⟨p1,c1,rfl,_⟩:=o1.bs.open;have s5:=b5.size;simp -implicitDefEqProofs only[go_sem,b5];exact⟨f3,f4,f5,fA,f9,_,_,rfl,s5,Zc,o1.push _⟩)
    | (refine (call2 (iY.push (J _ 100)) (Zk.push (au _) _)).use ?_
       rintro _ g5 ⟨⟨w,rfl,o1⟩,b5⟩;obtain⟨p1,c1,rfl,_⟩:=o1.bs.open;have B5:Zk iY.size iY g5:=(Zk.push (au _) _).trans (b5.mono Hg);have xA:=b5.get (k:=iY.size) Hg Zc;have Pc:=wT _ _ (if E2=0 then n.YZ else 0) p1 (if E2=0 then n.data++YS (Up l.v) else []).length c1 xA;have zA:=Za xA;simp -implicitDefEqProofs only[go_sem,B5,Pc,zA];exact⟨f3,f4,f5,fA,f9,_,_,rfl,au _,ZS xA,(o1.Ya Hg _).mono Hg⟩)
  .rintro F2 g3 ⟨b3,f3,f4,f5,f6,f9,f8,kt,wt,fT,ge3,yT,oT⟩;have TE:=ZY K3.Yn b3;have N4:=N3.Zo TE;have W4:=W3.Zo TE;have K4:Kp Wy o h o g3:=K3.Yy b3;by_cases e2:E2=0
   case neg=>
    have eP:asked n l=⟨n,[],[]⟩:=by unfold asked;rw[<-hE,if_neg nc,if_neg ep,<-qF,if_pos e2]
    rw[eP,am];simp -implicitDefEqProofs only[go_sem,f8,e2];exact⟨o,a,Xq,Z1 K4,N4,W4⟩
   rw[if_pos e2]at yT oT;have u3:=z3.Zf TE;have u4:=z4.Zf TE;have u5:=z5.Zf TE;have u6:=z6.Zf TE;have u9:=x9.Zf TE;have iu6:=iw6.Zf TE;have iT:Pv o g3 wt (n.data++YS (Up l.v)):=⟨Im.WK oT.Zq (fun b hb=>K3.Yn b hb),oT.byte⟩
   have eP:asked n l=⟨{ n with data:=n.data++YS (Up l.v),Zs:=O (.TC ⟨l.v.b,Jz n.Zq.l l.v⟩ l.Jq l.v) },[],[]⟩:=by unfold asked;rw[<-hE,if_neg nc,if_neg ep,<-qF,if_neg nc]
   rw[eP,am];clear R3 m3 m4 m5 m9 Me q4 mq q9 ze;obtain⟨pt,ct,rfl,_⟩:=oT.bs.open;have q4:hc g3 ⟨h.size+1,0,aa⟩=O (Zz nb):=Zn u4.2;have qT:rd g3 ⟨kt,0,aa⟩ 2=O [H pt (n.data++YS (Up l.v)).length ct,Q D n.YZ]:=Zy yT rfl;have Hf:=Za N4.ZX.2;obtain⟨g4,w4,N5,k5⟩:=Yi.write (a:={ a with data:=H pt (n.data++YS (Up l.v)).length ct }) (n:={ n with data:=n.data++YS (Up l.v) }) { N4.pt with data:=iT } K4.Yn N4.ZX ((XH N4.ZX.2 N4.pt.store.len).tape (H pt (n.data++YS (Up l.v)).length ct) n.YZ rfl);have v4:=u4.Zf k5;have q4':hc g4 ⟨h.size+1,0,aa⟩=O (Zz nb):=Zn v4.2;have Mf:=Za N5.ZX.2;have pn:Vj o g4 wb i nb a.Zh (TM 114 [ka,h.size+1,g1.size]) (O (.TC ⟨l.v.b,Jz n.Zq.l l.v⟩ l.Jq l.v)):=
    ⟨ka,h.size+1,g1.size,_,rfl,⟨_,u6.Zf k5,iu6.Zf k5⟩,v4,u9.Zf k5,h.size,h.size+1,h.size+2,l,_,rfl,u3.Zf k5,v4,u5.Zf k5,rfl,rfl⟩
   obtain⟨g6,w6,N6,k6⟩:=Yi.write (a:={ a with data:=H pt (n.data++YS (Up l.v)).length ct,Zs:=TM 114 [ka,h.size+1,g1.size] }) (n:={ n with data:=n.data++YS (Up l.v),Zs:=O (.TC ⟨l.v.b,Jz n.Zq.l l.v⟩ l.Jq l.v) }) { N5.pt with Zs:=pn } k5.Yn N5.ZX ((XH N5.ZX.2 N5.pt.store.len).Zs (TM 114 [ka,h.size+1,g1.size]) rfl);unfold TM at w6;simp only[bg]at w6;unfold Zz at q4 q4' w6;simp -implicitDefEqProofs only[go_sem,f8,e2,f4,f6,f9,fT,q4,qT,w4,Hf,q4',w6,Mf];have K6:Kp (fun t=>t=.world\/t=.Zp\/t=.ZV i) o h o g6:=((Z1 K4).trans (k5.mono fun t q=>.inr (.inr q))).trans (k6.mono fun t q=>.inr (.inr q));exact⟨o,_,Xq,K6,N6,(W4.Zf k5 (by rintro t rfl;simp[Tg.of])).Zf k6 (by rintro t rfl;simp[Tg.of])⟩
theorem Wx.Yh{o:Ow}{i:Nat}{h:Hp}{sv:List (Int × Nat)}{vt:List (Int × List (Int × Unit))}(s:Wx o i h sv vt)(k:Int):(Go.V.Yh sv k=aa/\Go.V.Yh vt k=aa)\/∃b l,Go.V.Yh sv k=O b/\Go.V.Yh vt k=O l/\UW o (.RO i k) h b (Hc l):=by
 induction s with
 | nil=>exact .inl ⟨rfl,rfl⟩
 | @cons a b l m Cu _ ih=>
  obtain⟨a1,a2⟩:=a;obtain⟨b1,b2⟩:=b;obtain⟨rfl,h2⟩:=Cu;unfold Go.V.Yh;by_cases q:a1=k
  .rw[if_pos q,if_pos q];subst q;exact .inr ⟨_,_,rfl,rfl,h2⟩
  .rw[if_neg q,if_neg q];exact ih
theorem Wx.add{o:Ow}{i:Nat}{h:Hp}{k:Int}{b:Nat}{l:List (Int × Unit)}(hb:UW o (.RO i k) h b (Hc l)):∀{sv:List (Int × Nat)} {vt:List (Int × List (Int × Unit))},Wx o i h sv vt->Go.V.Yh sv k=aa->Wx o i h (ins sv k b) (ins vt k l):=by
 intro sv vt s
 induction s with
 | nil=>intro _;exact .cons ⟨rfl,hb⟩ .nil
 | @cons a b l m Cu _ ih=>
  intro hn;obtain⟨a1,a2⟩:=a;obtain⟨b1,b2⟩:=b;obtain⟨rfl,h2⟩:=Cu;unfold Go.V.Yh at hn;split at hn
  .cases hn
  .rename_i q;unfold ins;rw[if_neg q,if_neg q];exact .cons ⟨rfl,h2⟩ (ih hn)
theorem Wx.put{o:Ow}{i:Nat}{h h':Hp}{k:Int}{b:Nat}{l':List (Int × Unit)}(kp:Kp (fun t=>t=.RO i k) o h o h')(hb:UW o (.RO i k) h' b (Hc l')):∀{sv:List (Int × Nat)} {vt:List (Int × List (Int × Unit))},Wx o i h sv vt->(sv.map (·.1)).Nodup->Go.V.Yh sv k=O b->Wx o i h' sv (ins vt k l'):=by
 intro sv vt s
 induction s with
 | nil=>intro _ h;cases h
 | @cons a c l m Cu tl ih=>
  intro hn hl;obtain⟨a1,a2⟩:=a;obtain⟨b1,b2⟩:=c;obtain⟨h1,h2⟩:=Cu;simp only at h1 h2;subst h1;simp only[bc,bd]at hn;unfold Go.V.Yh at hl;unfold ins;by_cases q:a1=k
  .rw[if_pos q]at hl ⊢;subst q;obtain rfl:=Option.some.inj hl;refine .cons ⟨rfl,hb⟩ ?_;have key:∀{l:List (Int × Nat)} {m:List (Int × List (Int × Unit))},Wx o i h l m->a1 ∉ l.map (·.1)->Wx o i h' l m:=by
    intro l m s
    induction s with
    | nil=>intro _;exact .nil
    | @cons x y l m hxy _ ih2=>
     intro hn;simp only[bc,bo,not_or]at hn;exact .cons ⟨hxy.1,hxy.2.Zf kp (by intro e;cases e;exact hn.1 hxy.1.symm)⟩ (ih2 hn.2)
   exact key tl hn.1
  .rw[if_neg q]at hl ⊢;exact .cons ⟨rfl,h2.Zf kp (by intro e;cases e;exact q rfl)⟩ (ih hn.2 hl)
theorem bQ{β:Type}:∀{l:List (Int × β)} {k:Int} {v:β},(l.map (·.1)).Nodup->((ins l k v).map (·.1)).Nodup/\∀x,x∈(ins l k v).map (·.1)->x=k\/x∈l.map (·.1):=by
 intro l
 induction l with
 | nil=>intro k v _;exact⟨by simp[ins],fun x hx=>by simp[ins]at hx;exact .inl hx⟩
 | cons a l ih=>
  intro k v hn;obtain⟨a1,a2⟩:=a;simp only[bc,bd]at hn;unfold ins;by_cases q:a1=k
  .rw[if_pos q];exact⟨by simp only[bc,bd];exact hn,fun x hx=>.inr hx⟩
  .rw[if_neg q];obtain⟨h1,h2⟩:=ih (k:=k) (v:=v) hn.2;refine⟨?_,fun x hx=>?_⟩
   .simp only[bc,bd];exact⟨fun hm=>(h2 _ hm).elim q hn.1,h1⟩
   .simp only[bc,bo]at hx ⊢;rcases hx with hx|hx
    .exact .inr (.inl hx)
    .exact (h2 _ hx).elim .inl fun q=>.inr (.inr q)
theorem Zc6{β:Type}:∀(l:List (Int × β)) (k:Int) (u v:β),ins (ins l k u) k v=ins l k v:=by
 intro l
 induction l with
 | nil=>intro k u v;unfold ins;simp[ins]
 | cons a l ih=>
  intro k u v;obtain⟨a1,a2⟩:=a;have h1:∀(x:Int) (y z:β) (m:List (Int × β)),ins ((x,y) :: m) k z=if x=k then (x,z) :: m else (x,y) :: ins m k z:=fun _ _ _ _=>rfl
  rw[h1,h1];by_cases q:a1=k
  .rw[if_pos q,if_pos q,h1,if_pos q]
  .rw[if_neg q,if_neg q,h1,if_neg q,ih]
theorem Xt.zh{o:Ow}{i:Nat}{h:Hp}{ra:RA}{r:Xw}(s:Xt o i h ra r)(d:Vp o h){k:Int}{b:Nat}{l l':List (Int × Unit)}(hl:Yh ra.sv k=O b)(hb:UW o (.RO i k) h b (Hc l)):
  Kp (fun t=>t=.RO i k) o h o (h.setIfInBounds b (Jn (Hc l')))/\Xt o i (h.setIfInBounds b (Jn (Hc l'))) ra { r with Y5:=ins r.Y5 k l' }:=by
 have kk:Kp (fun t=>t=.RO i k) o h o (h.setIfInBounds b (Jn (Hc l'))):=(Kp.refl d (fun t=>t=.RO i k)).set hb.1 rfl _;exact⟨kk,s.ZX.Zf kk Ih,s.ZI.Zf kk Ih,s.Ok.Zf kk,s.ZW.Zf kk Ih,s.Y5.Zf kk Ih,Wx.put kk ⟨hb.1,ZS hb.2⟩ s.Rg s.keys hl,s.keys⟩
def qG(i:Nat)(t:Tg):Prop:=Wf i t\/JS i t
set_option maxHeartbeats 1000000 in
theorem IK(T:be)(h:Hp)(o:Ow)(wb i nb:Nat)(YL:Nat->Nat)(a:NA)(n:Nd)(Xq:WA)(fl:List YF)(Yv:Nat->Int)(ZE:List Ps)(l:YF)(w:aw)(d:Vp o h)(N:Z5 o h wb i nb a n)(W:ZZ o h wb YL Xq fl Yv ZE)(iv:TD o h w l.vs)(hk:n.Zi.length<=100000000000)(hl:n.ZB.length<=100000000000)(ht:(U ZE)<=100000000000)(hq:n.Zx.length<=1000000000000)(hw:n.Zj.length<=1000000000000)(hv:∀r s,n.Zh=O r->((Yh r.Y5 s).getD []).length<=1000000):
  Zd a3 T 86 #[Zz wb,Zz nb,aI (XN l w).toArray] h fun v' h'=>∃o' a' Jv,Kp (qG i) o h o' h'/\Z5 o' h' wb i nb a' (Yl n l).n/\ZZ o' h' wb YL Jv fl Yv (ZE++(Yl n l).ts):=by
 obtain⟨pw,cw,rfl⟩:=iv.ZP;refine Zd.XS [_,_,_] Tryz.func86 ?_;unfold Zz XN;have TF:=Za N.ZX.2;have R:=ZR N.ZX.2 N.pt.store.len;obtain⟨h1,Xk⟩:=ZQ (h.push (J (XN l (H pw (U l.vs) cw)).toArray 135):Hp);have k1:Kp Wy o h o h1:=by rw[Xk];exact Yt d _
 have x5:Yb o h1 h.size (J (XN l (H pw (U l.vs) cw)).toArray 135):=⟨d _ (au _),by rw[Xk];exact Zc⟩
 have e0:=Xk.symm;unfold XN at e0;have N1:=N.Zo k1;have W1:=W.Zo k1;have iv1:=iv.Zf k1;have R1:=ZR N1.ZX.2 N1.pt.store.len;have Q8:=Za N1.ZX.2;have m5:=Za x5.2;have q0:hc h1 ⟨h.size,0,aa⟩=O (Q D l.Z7):=Zn x5.2;have q1:hc h1 ⟨h.size,1,aa⟩=O (Q D l.Jq):=Zn x5.2;have q3:rd h1 ⟨h.size,3,aa⟩ 2=O (Qz l.b):=by rw[YJ x5.2 (by simp[XN])];rfl
 have q5:hc h1 ⟨h.size,5,aa⟩=O (Q D l.v.Zu):=Zn x5.2;have q6:rd h1 ⟨h.size,6,aa⟩ 2=O (Qz l.v.b):=by rw[YJ x5.2 (by simp[XN])];rfl
 have q13:hc h1 ⟨h.size,13,aa⟩=O (H pw (U l.vs) cw):=Zn x5.2;have ua:=N1.pt.Zh;have hR9:=R.Zh
 cases hr:n.Zh with
 | none=>
  cases har:a.Zh with
  | some ra=>rw[hr,har]at ua;exact ua.elim
  | none=>
   have eP:Yl n l=⟨n,[],[]⟩:=by unfold Yl;rw[hr]
   rw[har]at hR9;unfold Md at hR9;rw[eP,am];simp -implicitDefEqProofs only[go_sem,hR9];rw[e0];exact⟨o,a,Xq,Z1 k1,N1,W1⟩
 | some r=>
  cases har:a.Zh with
  | none=>rw[hr,har]at ua;exact ua.elim
  | some ra=>
   rw[hr,har]at ua;have RG:Xt o i h1 ra r:=ua;rw[har]at hR9;unfold Md Zz at hR9;have mrb:=Za RG.ZX.2;have rr0:rd h1 ⟨ra.rb,0,aa⟩ 2=O (Qz r.b):=by rw[YJ RG.ZX.2 (by simp[iW])];rfl
   have rr2:hc h1 ⟨ra.rb,2,aa⟩=O (.map (O ra.pb)):=Zn RG.ZX.2;have rr5:hc h1 ⟨ra.rb,5,aa⟩=O (.map (O ra.vb)):=Zn RG.ZX.2;by_cases c1:l.Z7=1
   .have c1b:=eq_true c1;simp -implicitDefEqProofs only[go_sem,hR9,c1b];rw[e0];refine VS.q mixed uf ?_;simp -implicitDefEqProofs only[go_sem,q3,rr0];by_cases c2:l.b=r.b
    .have eP:Yl n l=⟨ZcV n r l,[],[]⟩:=by unfold Yl;rw[hr];simp only;rw[if_pos c1,if_pos c2]
     rw[eP,am];have c2b:=eq_true c2;simp -implicitDefEqProofs only[go_sem,c2b];refine VS.z (h1.size) [8] (.p 0 (.p 1 (.p 2 (.q 3 (.p 4 (.q 5 (.p 6 (.q 7 (.w 8 .nil))))))))) mixed uf ?_;simp -implicitDefEqProofs only[go_sem,rr2,q1,q13,mrb,m5];rw[Qb ID RG.ZI.2];simp -implicitDefEqProofs only[go_sem];obtain⟨k2,R2⟩:=RG.mm k1.Yn (k:=l.Jq) iv1;refine⟨o,{ a with Zh:=O { ra with pv:=ins ra.pv l.Jq (H pw (U l.vs) cw) } },Xq,(Z1 k1).trans (k2.mono fun t q=>.inr (.inr (.inl q))),⟨?_,?_⟩,W1.Zf k2 (by rintro t rfl;simp[Tg.of])⟩
     .have:=N1.ZX.Zf k2 Ih;rw[<-IJ (O { r with ZI:=ins r.ZI l.Jq l.vs }) har (ra':={ ra with pv:=ins ra.pv l.Jq (H pw (U l.vs) cw) }) rfl]at this;exact this
     .exact Yi.UX N1.pt (k2.mono fun t q=>.inr (.inl q)) har rfl R2
    .have eP:Yl n l=⟨n,[],[]⟩:=by unfold Yl;rw[hr];simp only;rw[if_pos c1,if_neg c2]
     rw[eP,am];simp -implicitDefEqProofs only[go_sem,c2];exact⟨o,a,Xq,Z1 k1,N1,W1⟩
   .simp -implicitDefEqProofs only[go_sem,hR9,c1];rw[e0];refine VS.q mixed uf ?_;simp -implicitDefEqProofs only[go_sem,q6,rr0];by_cases c2:l.v.b=r.b
    case neg=>
     have eP:Yl n l=⟨n,[],[]⟩:=by unfold Yl;rw[hr];simp only;rw[if_neg c1,if_pos c2]
     rw[eP,am];simp -implicitDefEqProofs only[go_sem,c2];exact⟨o,a,Xq,Z1 k1,N1,W1⟩
    have eP:Yl n l=if 5<2*(Q2 r l).length then Jg (Tq n r l) l.v.Zu l.v.cm else ⟨Tq n r l,[],[]⟩:=by unfold Yl;rw[hr];simp only;rw[if_neg c1,if_neg (fun q=>q c2)]
    rw[eP];have hvr:=hv r l.v.Zu hr;have c2b:=eq_true c2;have lk:=fun (K:aw->Hp->Prop)=>Xc (K:=K) (n:=l.v.Zu) (c:=false) Fh DD RG.Y5.2;rw[Jm]at lk;obtain⟨S,hS⟩:=ZQ ((Yh r.Y5 l.v.Zu).getD []);have hlen:(U S)<=1000000:=by rw[hS];exact hvr
    have NA1:Z5 o h1 wb i nb { a with Zh:=O ra } { n with Zh:=O r }:=by
     have e1:({ a with Zh:=O ra }:NA)=a:=by rw[<-har]
     have e2:({ n with Zh:=O r }:Nd)=n:=by rw[<-hr]
     rw[e1,e2];exact N1
    have KG:Kp (qG i) o h o h1:=Z1 k1;have Zc8:=hR9;rcases RG.Rg.Yh l.v.Zu with⟨e1,e2⟩|⟨sb,S',e1,e2,hsb⟩
    .have hS0:S=[]:=by rw[hS,e2];rfl
     rw[e1]at lk;simp only[a9,a7,a5,if_false]at lk
     -- the new set
     obtain⟨h2,VQ⟩:=ZQ (h1.push (Jn []):Hp);have eh2:h1.push (.map #[] 0)=h2:=VQ.symm;have k2a:Kp (JS i) o h1 (QS o h1.size (.RO i l.v.Zu)) h2:=by
      rw[VQ];exact ((Kp.refl k1.Yn _).push _).PI (au _) Hg (.inr (.inr (.inr (.inr ⟨_,rfl⟩))))
     have kx:Kp Wy o h1 o h2:=by rw[VQ];exact Yt k1.Yn _
     have RGx:=RG.Zf kx (fun _ _ q=>q);have lo:∀b,b<h1.size->QS o h1.size (.RO i l.v.Zu) b=o b:=fun b hb=>XX nc;obtain⟨o2,tP⟩:=ZQ (QS o h1.size (.RO i l.v.Zu));rw[<-tP]at k2a lo;have RGy:Xt o2 i h2 ra r:=by
      have lt:∀{b:Nat} {x:Obj},h1[b]? = O x->b<h1.size:=Za;refine⟨⟨(lo _ (Za RG.ZX.2)).trans RG.ZX.1,RGx.ZX.2⟩,⟨(lo _ (Za RG.ZI.2)).trans RG.ZI.1,RGx.ZI.2⟩,RG.Ok.Zf k2a,⟨(lo _ (Za RG.ZW.2)).trans RG.ZW.1,RGx.ZW.2⟩,⟨(lo _ (Za RG.Y5.2)).trans RG.Y5.1,RGx.Y5.2⟩,?_,RG.keys⟩;have key:∀{sv:List (Int × Nat)} {vt:List (Int × List (Int × Unit))},Wx o i h1 sv vt->Wx o2 i h2 sv vt:=by
       intro sv vt s
       induction s with
       | nil=>exact .nil
       | cons x _ ih=>exact .cons ⟨x.1,⟨(lo _ (Za x.2.2)).trans x.2.1,(x.2.Zf kx id).2⟩⟩ ih
      exact key RG.Rg
     have ms:UW o2 (.RO i l.v.Zu) h2 h1.size (Hc []):=⟨by rw[tP];exact XT,by rw[VQ];exact Zc⟩
     have ZG1:ra.rb<h2.size:=by have:=kx.size;omega
     simp -implicitDefEqProofs only[go_sem,hR9,c2b,q5,rr5,lk,mpV];rw[eh2,Qb Fh RGy.Y5.2];obtain⟨G,hG⟩:=ZQ (h2.setIfInBounds ra.vb (Jn (ins (Vu mpV ra.sv) l.v.Zu (.map (O h1.size)))));rw[<-hG];obtain⟨qr,Zg4⟩:∃qr:RA,qr = { ra with sv:=ins ra.sv l.v.Zu h1.size }:=⟨_,rfl⟩
     have kk:Kp (fun t=>t=.Y5 i) o2 h2 o2 G:=by rw[hG];exact (Kp.refl k2a.Yn (fun t=>t=.Y5 i)).set RGy.Y5.1 rfl _
     have RGG:Xt o2 i G qr { r with Y5:=ins r.Y5 l.v.Zu [] }:=by
      rw[Zg4];refine⟨RGy.ZX.Zf kk Ih,RGy.ZI.Zf kk Ih,RGy.Ok.Zf kk,RGy.ZW.Zf kk Ih,⟨RGy.Y5.1,?_⟩,(Wx.add ms RGy.Rg e1).Zf kk (fun _ e=>by cases e),(bQ RG.keys).1⟩;show G[ra.vb]? = O (Jn (Vu mpV (ins ra.sv l.v.Zu h1.size)));rw[hG,ZS RGy.Y5.2,PG];rfl
     have k2b:Kp (JS i) o h1 o2 G:=k2a.trans (kk.mono fun t q=>.inr (.inr (.inr (.inl q))));have bT:qr.rb=ra.rb:=by rw[Zg4]
     have NG:Z5 o2 G wb i nb { a with Zh:=O qr } { n with Zh:=O { r with Y5:=ins r.Y5 l.v.Zu [] } }:=by
      refine⟨?_,Yi.UX NA1.pt k2b rfl bT RGG⟩;have:=NA1.ZX.Zf k2b (by rintro (q|q|q|q|⟨_,q⟩)<;>cases q);rw[show Jb { n with Zh:=O { r with Y5:=ins r.Y5 l.v.Zu [] } } { a with Zh:=O qr } = Jb { n with Zh:=O r } { a with Zh:=O ra } from by unfold Jb VC Md;simp only[bT]];exact this
     have WG:=W1.Zf k2b (by intro t q;rw[Kt q];simp);have XG:=x5.Zf k2b;have KG2:Kp (qG i) o h o2 G:=(Z1 k1).trans (k2b.mono fun t q=>.inr q);have LKS:Yh qr.sv l.v.Zu=O h1.size:=by rw[Zg4];simp[Xf]
     have SB:UW o2 (.RO i l.v.Zu) G h1.size (Hc S):=by rw[hS0];exact ms.Zf kk Ih
     have Q5:hc G ⟨h.size,5,aa⟩=O (Q D l.v.Zu):=Zn XG.2;have Q1:hc G ⟨h.size,1,aa⟩=O (Q D l.Jq):=Zn XG.2;have RR5:hc G ⟨ra.rb,5,aa⟩=O (.map (O qr.vb)):=by rw[<-bT];exact Zn RGG.ZX.2
     have MRB:ra.rb<G.size:=by rw[<-bT];exact Za RGG.ZX.2
     have M5:=Za XG.2;have LK:=fun (K:aw->Hp->Prop)=>Xc (K:=K) (n:=l.v.Zu) (c:=false) Fh DD RGG.Y5.2;rw[Jm]at LK;simp only[LKS,a4,a0,a5,if_false,mpV]at LK;simp -implicitDefEqProofs only[go_sem];refine VS.z (G.size) [9] (.p 0 (.p 1 (.p 2 (.q 3 (.p 4 (.p 6 (.q 7 (.p 8 (.s 5 (.w 9 .nil)))))))))) mixed uf ?_;simp -implicitDefEqProofs only[go_sem,Zc8,c2b,Q5,Q1,RR5,LK,MRB,M5];rw[Qb DC SB.2];obtain⟨k2,RG2⟩:=RGG.zh KG2.Yn (l':=ins S l.Jq ()) LKS SB;rw[show Jn (ins (Hc S) l.Jq (aI #[]))=Jn (Hc (ins S l.Jq ())) from by unfold Hc;rw[PG]];obtain⟨g2,Wn⟩:=ZQ (G.setIfInBounds h1.size (Jn (Hc (ins S l.Jq ()))));rw[<-Wn]at k2 RG2 ⊢;have eV:({ r with Y5:=ins r.Y5 l.v.Zu (Q2 r l) }:Xw) = { ({ r with Y5:=ins r.Y5 l.v.Zu [] }:Xw) with Y5:=ins (ins r.Y5 l.v.Zu []) l.v.Zu (ins S l.Jq ()) }:=by unfold Q2;rw[hS,Zc6]
     have K2:Kp (qG i) o2 G o2 g2:=k2.mono fun t q=>.inr (.inr (.inr (.inr (.inr ⟨_,q⟩))));have N2:Z5 o2 g2 wb i nb { a with Zh:=O qr } (Tq n r l):=by
      refine⟨?_,?_⟩
      .have:=NG.ZX.Zf k2 Ih;exact this
      .have:=Yi.UX NG.pt (k2.mono fun t q=>.inr (.inr (.inr (.inr ⟨_,q⟩)))) rfl rfl RG2;unfold Tq;rw[eV];exact this
     have W2:=WG.Zf k2 (by rintro t rfl;simp[Tg.of]);have x2:=XG.Zf k2;have p0:rd g2 ⟨h.size,8,aa⟩ 5=O l.v.cm.C:=by rw[YJ x2.2 (by simp[XN])];rfl
     have p5:hc g2 ⟨qr.rb,5,aa⟩=O (.map (O qr.vb)):=Zn RG2.ZX.2;rw[bT]at p5;have p6:=fun (K:aw->Hp->Prop)=>Xc (K:=K) (n:=l.v.Zu) (c:=false) Fh DD RG2.Y5.2;rw[Jm]at p6;simp only[LKS,a4,a0,a5,if_false]at p6;have SB2:UW o2 (.RO i l.v.Zu) g2 h1.size (Hc (ins S l.Jq ())):=⟨SB.1,by rw[Wn];exact ZS SB.2⟩
     have p7:=fun (K:aw->Hp->Prop) (cs:Array Bool) (ty:bl)=>Ry (T:=T) (K:=K) (ty:=ty) (cs:=cs) DC SB2.2;have p8:(Hc (ins S l.Jq ())).length=(Q2 r l).length:=by unfold Hc Q2;rw[If,hS]
     rw[p8]at p7;simp -implicitDefEqProofs only[go_sem,Zc8,c2b,p5,p6,p7,mpV];refine (HJ T g2 (Q2 r l).length (by unfold Q2;rw[<-hS,NS];split<;>omega)).use ?_;rintro _ _ ⟨rfl,rfl⟩;by_cases c3:5<2*(Q2 r l).length
     .rw[if_pos c3];simp -implicitDefEqProofs only[go_sem,c3,p0];refine (Fo T _ o2 wb i nb YL _ _ Xq fl Yv ZE l.v.Zu l.v.cm k2.Yn N2 W2 hk hl ht hq hw).use ?_;rintro v' h' ⟨o',a',Jv,kl,N',W'⟩;simp -implicitDefEqProofs only[go_sem];exact⟨o',a',Jv,(KG2.trans K2).trans (kl.mono fun t q=>.inl q),N',W'⟩
     .rw[if_neg c3,am];simp -implicitDefEqProofs only[go_sem,c3];exact⟨o2,_,Xq,KG2.trans K2,N2,W2⟩
    .have hS0:S=S':=by rw[hS,e2];rfl
     subst hS0;rw[e1]at lk;simp only[a4,a0,a5,if_false]at lk;simp -implicitDefEqProofs only[go_sem,c2b,q5,rr5,lk,mpV,hR9];have Sx:=fun (K:aw->Hp->Prop)=>Xc (K:=K) (n:=l.v.Zu) (c:=false) Fh DD RG.Y5.2;rw[Jm]at Sx;simp only[e1,a4,a0,a5,if_false,mpV]at Sx;refine VS.z (h1.size) [9] (.p 0 (.p 1 (.p 2 (.q 3 (.p 4 (.p 6 (.q 7 (.p 8 (.s 5 (.w 9 .nil)))))))))) mixed uf ?_;simp -implicitDefEqProofs only[go_sem,Zc8,c2b,q5,q1,rr5,Sx,mrb,m5];rw[Qb DC hsb.2];obtain⟨k2,RG2⟩:=RG.zh KG.Yn (l':=ins S l.Jq ()) e1 hsb;rw[show Jn (ins (Hc S) l.Jq (aI #[]))=Jn (Hc (ins S l.Jq ())) from by unfold Hc;rw[PG]];obtain⟨g2,Wn⟩:=ZQ (h1.setIfInBounds sb (Jn (Hc (ins S l.Jq ()))));rw[<-Wn]at k2 RG2 ⊢;have eV:({ r with Y5:=ins r.Y5 l.v.Zu (Q2 r l) }:Xw) = { r with Y5:=ins r.Y5 l.v.Zu (ins S l.Jq ()) }:=by unfold Q2;rw[hS]
     have K2:Kp (qG i) o h1 o g2:=k2.mono fun t q=>.inr (.inr (.inr (.inr (.inr ⟨_,q⟩))));have N2:Z5 o g2 wb i nb { a with Zh:=O ra } (Tq n r l):=by
      refine⟨?_,?_⟩
      .have:=NA1.ZX.Zf k2 Ih;exact this
      .have:=Yi.UX NA1.pt (k2.mono fun t q=>.inr (.inr (.inr (.inr ⟨_,q⟩)))) rfl rfl RG2;unfold Tq;rw[eV];exact this
     have W2:=W1.Zf k2 (by rintro t rfl;simp[Tg.of]);have x2:=x5.Zf k2;have p0:rd g2 ⟨h.size,8,aa⟩ 5=O l.v.cm.C:=by rw[YJ x2.2 (by simp[XN])];rfl
     have p5:hc g2 ⟨ra.rb,5,aa⟩=O (.map (O ra.vb)):=Zn RG2.ZX.2;have p6:=fun (K:aw->Hp->Prop)=>Xc (K:=K) (n:=l.v.Zu) (c:=false) Fh DD RG2.Y5.2;rw[Jm]at p6;simp only[e1,a4,a0,a5,if_false]at p6;have SB2:UW o (.RO i l.v.Zu) g2 sb (Hc (ins S l.Jq ())):=⟨hsb.1,by rw[Wn];exact ZS hsb.2⟩
     have p7:=fun (K:aw->Hp->Prop) (cs:Array Bool) (ty:bl)=>Ry (T:=T) (K:=K) (ty:=ty) (cs:=cs) DC SB2.2;have p8:(Hc (ins S l.Jq ())).length=(Q2 r l).length:=by unfold Hc Q2;rw[If,hS]
     rw[p8]at p7;simp -implicitDefEqProofs only[go_sem,Zc8,c2b,p5,p6,p7,mpV];refine (HJ T g2 (Q2 r l).length (by unfold Q2;rw[<-hS,NS];split<;>omega)).use ?_;rintro _ _ ⟨rfl,rfl⟩;by_cases c3:5<2*(Q2 r l).length
     .rw[if_pos c3];simp -implicitDefEqProofs only[go_sem,c3,p0];refine (Fo T _ o wb i nb YL _ _ Xq fl Yv ZE l.v.Zu l.v.cm k2.Yn N2 W2 hk hl ht hq hw).use ?_;rintro v' h' ⟨o',a',Jv,kl,N',W'⟩;simp -implicitDefEqProofs only[go_sem];exact⟨o',a',Jv,(KG.trans K2).trans (kl.mono fun t q=>.inl q),N',W'⟩
     .rw[if_neg c3,am];simp -implicitDefEqProofs only[go_sem,c3];exact⟨o,_,Xq,KG.trans K2,N2,W2⟩
def JO(i:Nat)(t:Tg):Prop:=t=.world\/t=.Zp\/t=.ZE\/t.of=O i
theorem Fr{i:Nat}{t:Tg}(h:Wf i t):JO i t:=by
 rcases h with rfl|rfl|rfl|rfl|rfl|rfl|rfl<;>simp[JO,Tg.of]
theorem bU{i:Nat}{t:Tg}(h:qG i t):JO i t:=h.elim Fr fun q=>.inr (.inr (.inr (Kt q)))
theorem bV(T:be)(h:Hp)(o:Ow)(wb i nb:Nat)(a:NA)(n:Nd)(l:YF)(w:aw)(d:Vp o h)(N:Z5 o h wb i nb a n)(iv:TD o h w l.vs):
  Zd a3 T 91 #[Zz wb,Zz nb,aI (XN l w).toArray] h fun v' h'=>Kp (fun t=>t=.ZV i) o h o h'/\Z5 o h' wb i nb a (Xs n l):=by
 obtain⟨pw,cw,rfl⟩:=iv.ZP;refine Zd.XS [_,_,_] Tryz.func91 ?_;unfold Zz XN;have e0:∃h1:Hp,h1=h.push (J (XN l (H pw (U l.vs) cw)).toArray 135):=⟨_,rfl⟩
 obtain⟨h1,Xk⟩:=e0;have k1:Kp Wy o h o h1:=by rw[Xk];exact Yt d _
 have x5:Yb o h1 h.size (J (XN l (H pw (U l.vs) cw)).toArray 135):=⟨d _ (au _),by rw[Xk];exact Zc⟩
 have e0:=Xk.symm;unfold XN at e0;have N1:=N.Zo k1;have R1:=ZR N1.ZX.2 N1.pt.store.len;have Q8:=Za N1.ZX.2;have m5:=Za x5.2;have q3:rd h1 ⟨h.size,3,aa⟩ 2=O (Qz l.b):=by rw[YJ x5.2 (by simp[XN])];rfl
 have r7:rd h1 ⟨nb,7,aa⟩ 2=O (Qz n.YX):=R1.YX;simp -implicitDefEqProofs only[go_sem];rw[e0];refine VS.mono (N:=fun F' g'=>Zk h1.size h1 g'/\F' 1=Z (O ⟨nb,0,aa⟩)/\F' 5=Z (O ⟨h.size,0,aa⟩)/\F' 12=ba (decide (ZL n.YX l.b))) ?_ ?_ (fun _ _ _ h=>h) (fun _ _ h=>h)
 .refine VS.z (h1.size) [6] (.p 0 (.q 1 (.p 2 (.p 3 (.p 4 (.q 5 (.w 6 .nil))))))) mixed uf ?_;simp -implicitDefEqProofs only[go_sem,q3,r7,Q8,m5];refine (Lx T h1 l.b n.YX).use ?_;rintro _ g ⟨rfl,b⟩;simp -implicitDefEqProofs only[go_sem,b]
 .rintro F' g ⟨b,f1,f5,f12⟩;have kb:=ZY k1.Yn b;have N2:=N1.Zo kb;have K2:=k1.trans kb;by_cases c:ZL n.YX l.b
  .have e:Xs n l = { n with YX:=l.b }:=by unfold Xs;rw[if_pos c]
   rw[e];obtain⟨g2,w2,N3,k3⟩:=Yi.write (n:={ n with YX:=l.b }) (a:=a) { N2.pt with } K2.Yn N2.ZX ((XH N2.ZX.2 N2.pt.store.len).YX l.b.r l.b.n);have p3:rd g ⟨h.size,3,aa⟩ 2=O [Q D l.b.r,Q D l.b.n]:=by rw[YJ (x5.Zf kb).2 (by simp[XN])];rfl
   have Ui:=Za N2.ZX.2;simp -implicitDefEqProofs only[go_sem,f1,f5,f12,c,p3,w2,Ui];exact⟨(Z1 K2).trans k3,N3⟩
  .have e:Xs n l=n:=by unfold Xs;rw[if_neg c]
   rw[e];simp -implicitDefEqProofs only[go_sem,f12,c];exact⟨Z1 K2,N2⟩
theorem qH(T:be)(h:Hp)(o:Ow)(wb i nb:Nat)(YL:Nat->Nat)(a:NA)(n:Nd)(Xq:WA)(fl:List YF)(Yv:Nat->Int)(ZE:List Ps)(l:YF)(w:aw)(d:Vp o h)(N:Z5 o h wb i nb a n)(W:ZZ o h wb YL Xq fl Yv ZE)(iv:TD o h w l.vs)(hk:n.Zi.length<=100000000000)(hl:n.ZB.length<=100000000000)(ht:(U ZE)<=100000000000)(hq:n.Zx.length<=1000000000000)(hw:n.Zj.length<=1000000000000):
  Zd a3 T 90 #[Zz wb,Zz nb,aI (XN l w).toArray] h fun v' h'=>∃o' a' Jv,Kp (Wf i) o h o' h'/\Z5 o' h' wb i nb a' (Jg n l.v.Zu l.v.cm).n/\ZZ o' h' wb YL Jv fl Yv (ZE++(Jg n l.v.Zu l.v.cm).ts):=by
 obtain⟨pw,cw,rfl⟩:=iv.ZP;refine Zd.XS [_,_,_] Tryz.func90 ?_;unfold Zz XN;obtain⟨h1,Xk⟩:=ZQ (h.push (J (XN l (H pw (U l.vs) cw)).toArray 135):Hp);have k1:Kp Wy o h o h1:=by rw[Xk];exact Yt d _
 have e0:=Xk.symm;unfold XN at e0;simp -implicitDefEqProofs only[go_sem];rw[e0];refine (Fo T h1 o wb i nb YL a n Xq fl Yv ZE l.v.Zu l.v.cm k1.Yn (N.Zo k1) (W.Zo k1) hk hl ht hq hw).use ?_;rintro v' h' ⟨o',a',Jv,k,N',W'⟩;simp -implicitDefEqProofs only[go_sem];exact⟨o',a',Jv,(Z1 k1).trans k,N',W'⟩
theorem zi(T:be)(h:Hp)(o:Ow)(wb i nb:Nat)(a:NA)(n:Nd)(l:YF)(w:aw)(d:Vp o h)(N:Z5 o h wb i nb a n)(iv:TD o h w l.vs)(hq:n.Zx.length<=1000000000000)(hl:n.ZB.length<=1000000000000):
  Zd a3 T 88 #[Zz wb,Zz nb,aI (XN l w).toArray] h fun v' h'=>∃o' a',Kp (ZgZ i) o h o' h'/\Z5 o' h' wb i nb a' (add n l.v.cm):=by
 obtain⟨pw,cw,rfl⟩:=iv.ZP;refine Zd.XS [_,_,_] Tryz.func88 ?_;unfold Zz XN;obtain⟨h1,Xk⟩:=ZQ (h.push (J (XN l (H pw (U l.vs) cw)).toArray 135):Hp);have k1:Kp Wy o h o h1:=by rw[Xk];exact Yt d _
 have e0:=Xk.symm;unfold XN at e0;simp -implicitDefEqProofs only[go_sem];rw[e0];refine (yX T h1 o wb i nb a n l.v.cm k1.Yn (N.Zo k1) hq hl).use ?_;rintro v' h' ⟨o',a',k,N'⟩;simp -implicitDefEqProofs only[go_sem];exact⟨o',a',(Z1 k1).trans k,N'⟩
theorem zj(T:be)(h:Hp)(o:Ow)(wb i nb:Nat)(YL:Nat->Nat)(a:NA)(n:Nd)(Xq:WA)(fl:List YF)(Yv:Nat->Int)(ZE:List Ps)(l:YF)(w:aw)(d:Vp o h)(N:Z5 o h wb i nb a n)(W:ZZ o h wb YL Xq fl Yv ZE)(iv:TD o h w l.vs)(Y7:(U fl)<=1000000000000):
  Zd a3 T 89 #[Zz wb,Zz nb,aI (XN l w).toArray] h fun v' h'=>∃o' a' Jv,Kp (fun t=>t=.world\/t=.Zp\/t=.ZV i) o h o' h'/\Z5 o' h' wb i nb a' (Qp n l).n/\ZZ o' h' wb YL Jv (fl++(Qp n l).ls) Yv ZE:=by
 obtain⟨pw,cw,rfl⟩:=iv.ZP;refine Zd.XS [_,_,_] Tryz.func89 ?_;unfold Zz XN;obtain⟨h1,Xk⟩:=ZQ (h.push (J (XN l (H pw (U l.vs) cw)).toArray 135):Hp);have k1:Kp Wy o h o h1:=by rw[Xk];exact Yt d _
 have x5:Yb o h1 h.size (J (XN l (H pw (U l.vs) cw)).toArray 135):=⟨d _ (au _),by rw[Xk];exact Zc⟩
 have e0:=Xk.symm;have cc:=bV T h1 o wb i nb a n l (H pw (U l.vs) cw) k1.Yn (N.Zo k1) (iv.Zf k1);unfold XN at e0;unfold XN Zz at cc;simp -implicitDefEqProofs only[go_sem];rw[e0];refine cc.use ?_;rintro _ g ⟨k2,N2⟩;have W2:=(W.Zo k1).Zf k2 (by rintro t rfl;simp[Tg.of]);have y5:=x5.Zf k2;have R2:=ZR N2.ZX.2 N2.pt.store.len;have Ui:=Za N2.ZX.2;have m5:=Za y5.2;have q5:hc g ⟨h.size,5,aa⟩=O (Q D l.v.Zu):=Zn y5.2;have ek:(Xs n l).Zi=n.Zi:=by unfold Xs;split<;>rfl
 have eme:(Xs n l).me=n.me:=by unfold Xs;split<;>rfl
 have lk:=fun (K:aw->Hp->Prop)=>Xc (K:=K) (n:=l.v.Zu) (c:=true) Re Lt N2.pt.Zi.2;have Sx:=fun (K:aw->Hp->Prop) (x:Obj)=>Xc (h:=g.push x) (K:=K) (n:=l.v.Zu) (c:=true) Re Lt ((ZJ (Za N2.pt.Zi.2)).trans N2.pt.Zi.2);rw[Jm,ek]at lk;simp only[Jm,ek]at Sx;have gp:∀x:Obj,(g.push x)[g.size]? = O x:=fun x=>Zc;simp -implicitDefEqProofs only[go_sem]
 cases hx:Yh n.Zi l.v.Zu with
 | none=>
  have eP:Qp n l=⟨Xs n l,[],[]⟩:=by unfold Qp;rw[hx]
  rw[eP,am];rw[hx]at lk;simp only[hx,a9,a7,aU,↓reduceIte]at lk Sx;refine VS.mono (N:=fun F' g'=>Zk g.size g g'/\F' 7=ba false) ?_ ?_ (fun _ _ _ h=>h) (fun _ _ h=>h)
  .refine VS.z (g.size) [7,12] (.p 0 (.p 1 (.p 2 (.q 3 (.p 4 (.p 5 (.q 6 (.or 7 (.p 8 (.p 9 (.p 10 (.s 11 (.w 12 (.p 13 .nil)))))) (.s 11 (.w 7 (.p 8 (.p 9 (.p 10 (.w 12 (.p 13 .nil))))))))))))))) mixed uf ?_;simp -implicitDefEqProofs only[go_sem,R2.Zi,q5,Ui,m5,lk,Sx]
   repeat' (first|exact Zk.refl _ _|exact Zk.push (au _) _|refine bf ?_ ?_)
  .rintro F' g' ⟨b,f7⟩;simp -implicitDefEqProofs only[go_sem,f7];exact⟨o,a,Xq,((Z1 k1).trans (k2.mono fun t q=>.inr (.inr q))).Yy b,N2.Zo (ZY k2.Yn b),W2.Zo (ZY k2.Yn b)⟩
 | some y=>
  have eP:Qp n l=⟨Xs n l,[⟨6,n.me,l.Jq,Jj,QB l.v.Zu Jj y,[]⟩],[]⟩:=by unfold Qp;rw[hx]
  rw[eP];rw[hx]at lk;simp only[hx,a4,a0,a6,↓reduceIte]at lk Sx;refine VS.mono (N:=fun F' g'=>Zk g.size g g'/\F' 0=Z (O ⟨wb,0,aa⟩)/\F' 1=Z (O ⟨nb,0,aa⟩)/\F' 5=Z (O ⟨h.size,0,aa⟩)/\F' 7=ba true/\F' 6=Z (O ⟨g.size,0,aa⟩)/\g'[g.size]? = O (J y.C.toArray 25)) ?_ ?_ (fun _ _ _ h=>h) (fun _ _ h=>h)
  .refine VS.z (g.size) [7,12] (.p 0 (.p 1 (.p 2 (.q 3 (.p 4 (.p 5 (.q 6 (.or 7 (.p 8 (.p 9 (.p 10 (.s 11 (.w 12 (.p 13 .nil)))))) (.s 11 (.w 7 (.p 8 (.p 9 (.p 10 (.w 12 (.p 13 .nil))))))))))))))) mixed uf ?_;simp -implicitDefEqProofs only[go_sem,R2.Zi,q5,Ui,m5,lk,Sx,Sg]
   repeat' (first|exact Zk.refl _ _|exact Zk.push (au _) _|exact gp _|refine bf ?_ ?_)
  .rintro F' g' ⟨b,f0,f1,f5,f7,f6,yy⟩;have kb:=ZY k2.Yn b;have N3:=N2.Zo kb;have W3:=W2.Zo kb;have z5:=y5.Zf kb;have R3:=ZR N3.ZX.2 N3.pt.store.len;have p1:hc g' ⟨h.size,1,aa⟩=O (Q D l.Jq):=Zn z5.2;have p5:hc g' ⟨h.size,5,aa⟩=O (Q D l.v.Zu):=Zn z5.2;have p6:rd g' ⟨g.size,0,aa⟩ 5=O [Q D y.k,Q D y.c,Q D y.s,Q D y.n,Q D y.v]:=Zy yy rfl;simp -implicitDefEqProofs only[go_sem,f0,f1,f5,f7,f6,p1,p5,p6];refine (VR T g' o wb nb YL n.me Xq fl Yv ZE l.Jq ⟨6,0,0,Jj,QB l.v.Zu Jj y,[]⟩ (H aa 0 0) kb.Yn W3 (by rw[<-eme];exact R3.me) (Za N3.ZX.2) (Im.nil _ _ _ _) Y7).use ?_;rintro v' h' ⟨o',Jv,k,_,W'⟩;simp -implicitDefEqProofs only[go_sem];exact⟨o',a,Jv,(((Z1 k1).trans (k2.mono fun t q=>.inr (.inr q))).trans (Z1 kb)).trans (k.mono fun t q=>q.elim .inl fun q=>.inr (.inl q)),N3.Zf k (by rintro t (rfl|rfl)<;>simp[Tg.of]),W'⟩
section
variable {K:aw->Hp->Prop} {X:Hp}
theorem DL{t e:bl}(ht:kP a3 t=O e){b:Nat}(hb:b=X.size){l:List (Int × aw)}{n:Int}{x:aw}:
  Ig a3 t (.map (O b)) (Q D n) x K (X.push (Jn l))=K undef (X.push (Jn (ins l n x))):=by
 subst hb;rw[Qb ht Zc]
 congr 1
 apply Array.ext_getElem?;intro j;rw[Array.getElem?_setIfInBounds,bk,bk];by_cases hj:X.size=j
 .subst hj;simp
 .rw[if_neg hj,if_neg (fun e=>hj e.symm),if_neg (fun e=>hj e.symm)]
theorem iZ{t e:bl}(ht:kP a3 t=O e){b:Nat}(hb:b=X.size){n:Int}{x:aw}:
  Ig a3 t (.map (O b)) (Q D n) x K (X.push (.map #[] 0))=K undef (X.push (Jn [(n,x)])):=DL (l:=[]) ht hb
theorem i5{t e:bl}{z:aw}(ht:kP a3 t=O e)(hz:tzv a3 e=O z){b:Nat}(hb:b=X.size){l:List (Int × aw)}{n:Int}{x:aw}(hx:Yh l n=O x):
  Ie a3 t (.map (O b)) (Q D n) false K (X.push (Jn l))=K x (X.push (Jn l)):=by
 subst hb;rw[Xc ht hz Zc,hx];rfl
end
theorem bW(n:Nd)(l:YF):(YB n l).ts=[]:=by
 unfold YB
 repeat' split
 all_goals rfl
theorem zk(n:Nd)(l:YF):(asked n l).ts=[]:=by
 unfold asked
 repeat' split
 all_goals rfl
theorem zm(n:Nd)(l:YF):(Qp n l).ts=[]:=by
 unfold Qp;split<;>rfl
theorem zn(n:Nd)(s:Int)(x:Cm):(Jg n s x).ls=[]:=rfl
theorem IL(n:Nd)(l:YF):(Yl n l).ls=[]:=by
 unfold Yl
 repeat' split
 all_goals rfl
set_option maxHeartbeats 1000000 in
theorem qI(T:be)(h:Hp)(o:Ow)(wb i nb:Nat)(YL:Nat->Nat)(a:NA)(n:Nd)(Xq:WA)(fl:List YF)(Yv:Nat->Int)(ZE:List Ps)(l:YF)(w:aw)(d:Vp o h)(N:Z5 o h wb i nb a n)(W:ZZ o h wb YL Xq fl Yv ZE)(iv:TD o h w l.vs)(tb:eG o h)(Zz4:0<=l.Z7/\l.Z7<=7)(Y7:(U fl)<=1000000000000)(yD:n.Zq.l.length<=1000000)(tT:(U n.data)<=1000000)(hk:n.Zi.length<=100000000000)(hl:n.ZB.length<=100000000000)(ht:(U ZE)<=100000000000)(hq:n.Zx.length<=1000000000000)(hw:n.Zj.length<=1000000000000)(hv:∀r s,n.Zh=O r->((Yh r.Y5 s).getD []).length<=1000000):
  Zd a3 T 71 #[Zz wb,Zz nb,aI (XN l w).toArray] h fun v' h'=>∃o' a' Jv,Kp (JO i) o h o' h'/\Z5 o' h' wb i nb a' (Zw n l).n/\ZZ o' h' wb YL Jv (fl++(Zw n l).ls) Yv (ZE++(Zw n l).ts):=by
 obtain⟨pw,cw,rfl⟩:=iv.ZP;refine Zd.XS [_,_,_] Tryz.func71 ?_;obtain⟨h1,Xk⟩:=ZQ (h.push (J (XN l (H pw (U l.vs) cw)).toArray 135):Hp);have k1:Kp Wy o h o h1:=by rw[Xk];exact Yt d _
 have x5:Yb o h1 h.size (J (XN l (H pw (U l.vs) cw)).toArray 135):=⟨d _ (au _),by rw[Xk];exact Zc⟩
 have e0:=Xk.symm;have s1:h1.size=h.size+1:=by rw[Xk];simp
 obtain⟨M,hM⟩:∃M:List (Int × aw),M=[(0,.func (.func 85) #[] #[]),(1,.func (.func 86) #[] #[]),(2,.func (.func 87) #[] #[]),(3,.func (.func 86) #[] #[]),(4,.func (.func 88) #[] #[]),(5,.func (.func 89) #[] #[]),(6,.func (.func 90) #[] #[]),(7,.func (.func 91) #[] #[])]:=⟨_,rfl⟩
 have k2:Kp Wy o h o (h1.push (Jn M)):=k1.push _;have N2:=N.Zo k2;have W2:=W.Zo k2;have tW:=iv.Zf k2;have gz:=tb.Zf k2;have x2:Yb o (h1.push (Jn M)) h.size (J (XN l (H pw (U l.vs) cw)).toArray 135):=x5.Zf (Yt k1.Yn _);have d2:Vp o (h1.push (Jn M)):=k2.Yn;have q0:hc (h1.push (Jn M)) ⟨h.size,0,aa⟩=O (Q D l.Z7):=Zn x2.2;have q14:rd (h1.push (Jn M)) ⟨h.size,0,aa⟩ 14=O (XN l (H pw (U l.vs) cw)):=Zy x2.2 rfl;have eM:ins (ins (ins (ins (ins (ins (ins [((0:Int),Value.func (.func 85) #[] #[])] 1 (.func (.func 86) #[] #[])) 2 (.func (.func 87) #[] #[])) 3 (.func (.func 86) #[] #[])) 4 (.func (.func 88) #[] #[])) 5 (.func (.func 89) #[] #[])) 6 (.func (.func 90) #[] #[])) 7 (.func (.func 91) #[] #[])=M:=by rw[hM];rfl
 have u0:=fun (K:aw->Hp->Prop) (n:Int) (x:aw)=>iZ (K:=K) (X:=h1) yO (b:=h1.size) rfl (n:=n) (x:=x);have u1:=fun (K:aw->Hp->Prop) (l:List (Int × aw)) (n:Int) (x:aw)=>DL (K:=K) (X:=h1) yO (b:=h1.size) rfl (l:=l) (n:=n) (x:=x);have lk:=fun (K:aw->Hp->Prop) (x:aw) (hx:Yh M l.Z7=O x)=>i5 (K:=K) (X:=h1) yO ZlI (b:=h1.size) rfl hx;unfold Zz XN;unfold XN at e0 q14;have zo:l.Z7=0\/l.Z7=1\/l.Z7=2\/l.Z7=3\/l.Z7=4\/l.Z7=5\/l.Z7=6\/l.Z7=7:=nc;rcases zo with Km|Km|Km|Km|Km|Km|Km|Km
 .have hf:Zw n l=YB n l:=by unfold Zw;simp[Km]
  rw[hf];have i6:=fun (K:aw->Hp->Prop)=>lk K (.func (.func 85) #[] #[]) (by rw[Km,hM];rfl);have cc:=bP T _ o wb i nb YL a n Xq fl Yv ZE l _ d2 N2 W2 tW Y7 yD tT gz;unfold XN Zz at cc;simp -implicitDefEqProofs only[go_sem,e0,u0,u1,eM,q0,q14,i6];refine cc.use ?_;rintro v' h' ⟨o',a',Jv,k,N',W'⟩;simp -implicitDefEqProofs only[go_sem];exact⟨o',a',Jv,(Z1 k2).trans (k.mono fun t q=>by rcases q with rfl|rfl|rfl<;>simp[JO,Tg.of]),N',by rw[bW,am];exact W'⟩
 .have hf:Zw n l=Yl n l:=by unfold Zw;simp[Km]
  rw[hf];have i6:=fun (K:aw->Hp->Prop)=>lk K (.func (.func 86) #[] #[]) (by rw[Km,hM];rfl);have cc:=IK T _ o wb i nb YL a n Xq fl Yv ZE l _ d2 N2 W2 tW hk hl ht hq hw hv;unfold XN Zz at cc;simp -implicitDefEqProofs only[go_sem,e0,u0,u1,eM,q0,q14,i6];refine cc.use ?_;rintro v' h' ⟨o',a',Jv,k,N',W'⟩;simp -implicitDefEqProofs only[go_sem];exact⟨o',a',Jv,(Z1 k2).trans (k.mono fun t q=>bU q),N',by rw[IL,am];exact W'⟩
 .have hf:Zw n l=asked n l:=by unfold Zw;simp[Km]
  rw[hf];have i6:=fun (K:aw->Hp->Prop)=>lk K (.func (.func 87) #[] #[]) (by rw[Km,hM];rfl);have cc:=zf T _ o wb i nb YL a n Xq fl Yv ZE l _ d2 N2 W2 tW Y7 yD tT gz;unfold XN Zz at cc;simp -implicitDefEqProofs only[go_sem,e0,u0,u1,eM,q0,q14,i6];refine cc.use ?_;rintro v' h' ⟨o',a',Jv,k,N',W'⟩;simp -implicitDefEqProofs only[go_sem];exact⟨o',a',Jv,(Z1 k2).trans (k.mono fun t q=>by rcases q with rfl|rfl|rfl<;>simp[JO,Tg.of]),N',by rw[zk,am];exact W'⟩
 .have hf:Zw n l=Yl n l:=by unfold Zw;simp[Km]
  rw[hf];have i6:=fun (K:aw->Hp->Prop)=>lk K (.func (.func 86) #[] #[]) (by rw[Km,hM];rfl);have cc:=IK T _ o wb i nb YL a n Xq fl Yv ZE l _ d2 N2 W2 tW hk hl ht hq hw hv;unfold XN Zz at cc;simp -implicitDefEqProofs only[go_sem,e0,u0,u1,eM,q0,q14,i6];refine cc.use ?_;rintro v' h' ⟨o',a',Jv,k,N',W'⟩;simp -implicitDefEqProofs only[go_sem];exact⟨o',a',Jv,(Z1 k2).trans (k.mono fun t q=>bU q),N',by rw[IL,am];exact W'⟩
 .have hf:Zw n l=⟨add n l.v.cm,[],[]⟩:=by unfold Zw;simp[Km]
  rw[hf];have i6:=fun (K:aw->Hp->Prop)=>lk K (.func (.func 88) #[] #[]) (by rw[Km,hM];rfl);have cc:=zi T _ o wb i nb a n l _ d2 N2 tW hq nc;unfold XN Zz at cc;simp -implicitDefEqProofs only[go_sem,e0,u0,u1,eM,q0,q14,i6];refine cc.use ?_;rintro v' h' ⟨o',a',k,N'⟩;simp -implicitDefEqProofs only[go_sem];exact⟨o',a',Xq,(Z1 k2).trans (k.mono fun t q=>by rcases q with rfl|rfl<;>simp[JO,Tg.of]),N',by rw[am,am];exact W2.Zf k (by rintro t (rfl|rfl)<;>simp[Tg.of])⟩
 .have hf:Zw n l=Qp n l:=by unfold Zw;simp[Km]
  rw[hf];have i6:=fun (K:aw->Hp->Prop)=>lk K (.func (.func 89) #[] #[]) (by rw[Km,hM];rfl);have cc:=zj T _ o wb i nb YL a n Xq fl Yv ZE l _ d2 N2 W2 tW Y7;unfold XN Zz at cc;simp -implicitDefEqProofs only[go_sem,e0,u0,u1,eM,q0,q14,i6];refine cc.use ?_;rintro v' h' ⟨o',a',Jv,k,N',W'⟩;simp -implicitDefEqProofs only[go_sem];exact⟨o',a',Jv,(Z1 k2).trans (k.mono fun t q=>by rcases q with rfl|rfl|rfl<;>simp[JO,Tg.of]),N',by rw[zm,am];exact W'⟩
 .have hf:Zw n l=Jg n l.v.Zu l.v.cm:=by unfold Zw;simp[Km]
  rw[hf];have i6:=fun (K:aw->Hp->Prop)=>lk K (.func (.func 90) #[] #[]) (by rw[Km,hM];rfl);have cc:=qH T _ o wb i nb YL a n Xq fl Yv ZE l _ d2 N2 W2 tW hk hl ht hq hw;unfold XN Zz at cc;simp -implicitDefEqProofs only[go_sem,e0,u0,u1,eM,q0,q14,i6];refine cc.use ?_;rintro v' h' ⟨o',a',Jv,k,N',W'⟩;simp -implicitDefEqProofs only[go_sem];exact⟨o',a',Jv,(Z1 k2).trans (k.mono fun t q=>Fr q),N',by rw[zn,am];exact W'⟩
 .have hf:Zw n l=⟨Xs n l,[],[]⟩:=by unfold Zw;simp[Km]
  rw[hf];have i6:=fun (K:aw->Hp->Prop)=>lk K (.func (.func 91) #[] #[]) (by rw[Km,hM];rfl);have cc:=bV T _ o wb i nb a n l _ d2 N2 tW;unfold XN Zz at cc;simp -implicitDefEqProofs only[go_sem,e0,u0,u1,eM,q0,q14,i6];refine cc.use ?_;rintro v' h' ⟨k,N'⟩;simp -implicitDefEqProofs only[go_sem];exact⟨o,a,Xq,(Z1 k2).trans (k.mono fun t q=>by rw[q];simp[JO,Tg.of]),N',by rw[am,am];exact W2.Zf k (by rintro t rfl;simp[Tg.of])⟩
@[go_sem] theorem ZuJ(x:Cm):List.take 5 x.C=x.C:=rfl
def VD(n:Nd)(r:Xw)(x:Cm):Int:=match free n r x with|some s=>(s:Int)|none=>0
theorem Xt.rr{o:Ow}{i:Nat}{h:Hp}{ra:RA}{r:Xw}(s:Xt o i h ra r):rd h ⟨ra.rb,0,aa⟩ 2=O (Qz r.b)/\hc h ⟨ra.rb,2,aa⟩=O (.map (O ra.pb))/\hc h ⟨ra.rb,3,aa⟩=O (ba r.XM)/\hc h ⟨ra.rb,4,aa⟩=O (.map (O ra.qb))/\hc h ⟨ra.rb,5,aa⟩=O (.map (O ra.vb)):=
 ⟨by rw[YJ s.ZX.2 (by simp[iW])];rfl,Zn s.ZX.2,Zn s.ZX.2,Zn s.ZX.2,Zn s.ZX.2⟩
set_option maxHeartbeats 1000000 in
theorem Zdc(T:be)(h:Hp)(o:Ow)(wb i nb:Nat)(a:NA)(n:Nd)(ra:RA)(r:Xw)(x:Cm)(d:Vp o h)(N:Z5 o h wb i nb a n)(R:Xt o i h ra r)(hl:n.ZB.length<=1000000000000):
  Zd a3 T 117 #[Zz nb,Zz ra.rb,Sg x] h fun v' h'=>v'=.tuple #[Q D (VD n r x),ba (free n r x).isSome]/\Zk h.size h h':=by
 have TF:=Za N.ZX.2;have Hd:=Za R.ZX.2;refine Zd.MQ [_,_,_] Tryz.func117 ?_;unfold Zz Sg;obtain⟨h1,Xk⟩:=ZQ (h.push (J x.C.toArray 25):Hp);have k1:Kp Wy o h o h1:=by rw[Xk];exact Yt d _
 have b1:Zk h.size h h1:=by rw[Xk];exact Zk.push (au _) _
 have x1:Yb o h1 h.size (J x.C.toArray 25):=⟨d _ (au _),by rw[Xk];exact Zc⟩
 have e0:=Xk.symm;have N1:=N.Zo k1;have R1:=R.Zf k1 (fun _ _ q=>q);have P1:=ZR N1.ZX.2 N1.pt.store.len;have P0:=ZR N.ZX.2 N.pt.store.len;obtain⟨lp,lc,Kv,hlc⟩:=Xz.ZP N1.pt.ZB;have P11:=P1.ZB;rw[Kv]at P11;have Q8:=Za N1.ZX.2;have e3:((n.ZB.length:Nat):Int)=(n.ZB.length:Int):=rfl;simp -implicitDefEqProofs only[go_sem,e0,P11];refine VS.Yj (fun F g=>Zk h1.size h1 g/\F 0=Z (O ⟨nb,0,aa⟩)/\F 1=Z (O ⟨ra.rb,0,aa⟩)/\F 5=Z (O ⟨h.size,0,aa⟩)/\∃s:Nat,F 8=Q D s/\n.ZB.length<=s/\Qe n r x (40-n.ZB.length) n.ZB.length=Qe n r x (40-s) s)
  (fun F _=>40-(vi (F 8)).toNat) rfl ⟨Zk.refl _ _,rfl,rfl,rfl,n.ZB.length,rfl,au _,rfl⟩ ?_
 rintro F g ⟨hg,f0,f1,f5,s,f8,hs,he⟩;have kg:=ZY k1.Yn hg;have N2:=N1.Zo kg;have R2:=R1.Zf kg (fun _ _ q=>q);have y1:=x1.Zf kg;have P2:=ZR N2.ZX.2 N2.pt.store.len;obtain⟨_,_,_,q4,_⟩:=R2.rr;have gs:=hg.size;have Ui:=Za N2.ZX.2;have bT:=Za R2.ZX.2;have bb:Zk h.size h g:=b1.trans (hg.mono b1.size);have eF:free n r x=Qe n r x (40-s) s:=he;by_cases ZU:s<40
 .have Z8:(s:Int)<40:=nc;obtain⟨f,hf⟩:∃f,40-s=f+1:=⟨39-s,nc⟩
  have ef:f=40-(s+1):=nc;rw[hf]at eF he;have DM:=fun (K:aw->Hp->Prop)=>Xc (K:=K) (n:=(s:Int)) (c:=true) Re Lt R2.ZW.2;rw[Jm]at DM;have Sx:=fun (K:aw->Hp->Prop) (z:Obj)=>Xc (h:=g.push z) (K:=K) (n:=(s:Int)) (c:=true) Re Lt ((ZJ (Za N2.pt.Zi.2)).trans N2.pt.Zi.2);simp only[Jm]at Sx;have fz:∀c:Cm,rd g ⟨h.size,0,aa⟩ 5=O x.C:=fun _=>Zy y1.2 rfl;have fx:rd g ⟨h.size,0,aa⟩ 5=O x.C:=Zy y1.2 rfl;have hx5:=Za y1.2;have n1:¬h.size=g.size:=nc;have n2:¬h.size=g.size+1:=nc;have n3:¬nb=g.size:=nc;unfold Qe at eF
  cases c1:Yh r.ZW (s:Int) with
  | none=>
   simp only[c1,a9,a7,aU,↓reduceIte]at DM
   cases c2:Yh n.Zi (s:Int) with
   | none=>
    simp only[c2,a9,a7,aU,↓reduceIte]at Sx;have e4:free n r x=O s:=by rw[eF,if_neg (by rw[c1,c2];simp),if_pos ⟨c1,c2⟩]
    have e5:VD n r x=s:=by unfold VD;rw[e4]
    rw[e5,e4];simp -implicitDefEqProofs only[go_sem,f0,f1,f5,f8,Z8,q4,DM,Sx,P2.Zi,n1,n2,n3,fx,Sg,a6];exact (bb.YU nc _).YU KQ _
   | some z=>
    simp only[c2,a4,a0,a6,↓reduceIte]at Sx;by_cases qz:z=x
    .have e4:free n r x=aa:=by rw[eF,if_pos (.inr (by rw[c2,qz]))]
     have e5:VD n r x=0:=by unfold VD;rw[e4]
     rw[e5,e4];simp -implicitDefEqProofs only[go_sem,f0,f1,f5,f8,Z8,q4,DM,Sx,P2.Zi,n1,n2,n3,fx,Sg,qz,aU];exact (bb.YU nc _).YU KQ _
    .have qz':¬O z=O x:=fun e=>qz (Option.some.inj e);simp -implicitDefEqProofs only[go_sem,f0,f1,f5,f8,Z8,q4,DM,Sx,P2.Zi,n1,n2,n3,fx,Sg,qz];unfold XK;refine⟨⟨(hg.YU nc _).YU KQ _,f0,f1,f5,s+1,rfl,nc,?_⟩,?_⟩
     .rw[he,<-ef,Qe,if_neg (by rw[c1,c2];simp[qz]),if_neg (by rw[c2];simp)]
     .simp only[vi,Zr,↓reduceIte,f8];omega
  | some y=>
   simp only[c1,a4,a0,a6,↓reduceIte]at DM;by_cases qy:y=x
   .have e4:free n r x=aa:=by rw[eF,if_pos (.inl (by rw[c1,qy]))]
    have e5:VD n r x=0:=by unfold VD;rw[e4]
    rw[e5,e4]
    cases c2:Yh n.Zi (s:Int) with
    | none=>
     simp only[c2,a9,a7,aU,↓reduceIte]at Sx;simp -implicitDefEqProofs only[go_sem,f0,f1,f5,f8,Z8,q4,DM,Sx,P2.Zi,n1,n2,n3,fx,Sg,qy,aU];exact (bb.YU nc _).YU KQ _
    | some z=>
     simp only[c2,a4,a0,a6,↓reduceIte]at Sx;simp -implicitDefEqProofs only[go_sem,f0,f1,f5,f8,Z8,q4,DM,Sx,P2.Zi,n1,n2,n3,fx,Sg,qy,aU];exact (bb.YU nc _).YU KQ _
   .cases c2:Yh n.Zi (s:Int) with
    | none=>
     simp only[c2,a9,a7,aU,↓reduceIte]at Sx;simp -implicitDefEqProofs only[go_sem,f0,f1,f5,f8,Z8,q4,DM,Sx,P2.Zi,n1,n2,n3,fx,Sg,qy];unfold XK;refine⟨⟨(hg.YU nc _).YU KQ _,f0,f1,f5,s+1,rfl,nc,?_⟩,?_⟩
     .rw[he,<-ef,Qe,if_neg (by rw[c1,c2];simp[qy]),if_neg (by rw[c1];simp)]
     .simp only[vi,Zr,↓reduceIte,f8];omega
    | some z=>
     simp only[c2,a4,a0,a6,↓reduceIte]at Sx;by_cases qz:z=x
     .have e4:free n r x=aa:=by rw[eF,if_pos (.inr (by rw[c2,qz]))]
      have e5:VD n r x=0:=by unfold VD;rw[e4]
      rw[e5,e4];simp -implicitDefEqProofs only[go_sem,f0,f1,f5,f8,Z8,q4,DM,Sx,P2.Zi,n1,n2,n3,fx,Sg,qy,qz,aU];exact (bb.YU nc _).YU KQ _
     ·
      simp -implicitDefEqProofs only[go_sem,f0,f1,f5,f8,Z8,q4,DM,Sx,P2.Zi,n1,n2,n3,fx,Sg,qy,qz];unfold XK;refine⟨⟨(hg.YU nc _).YU KQ _,f0,f1,f5,s+1,rfl,nc,?_⟩,?_⟩
      .rw[he,<-ef,Qe,if_neg (by rw[c1,c2];simp[qy,qz]),if_neg (by rw[c1];simp)]
      .simp only[vi,Zr,↓reduceIte,f8];omega
 .have Xp:¬(s:Int)<40:=nc;have e4:free n r x=aa:=by rw[eF,show 40-s=0 by omega];rfl
  have e5:VD n r x=0:=by unfold VD;rw[e4]
  rw[e5,e4];simp -implicitDefEqProofs only[go_sem,f8,Xp,bb,aU]
def Zg5(B:Nat)(o:Ow)(h0 h:Hp)(u:aw)(LL:List (List Vt)):Prop:=
 ∃ws:List aw,UE B 103 1 h u (U LL) ws/\AV (fun w l=>TD o h0 w l/\(U l)<=1000000) ws LL
def i7(o:Ow)(h:Hp)(u:aw)(LL:List (List Vt)):Prop:=∃p c,u=H p (U LL) c/\(LL≠[]->∃b off,p=O ⟨b,off,aa⟩/\b<h.size/\o b=aa/\∀i (hi:i<(U LL)),∃w,hc h ⟨b,off+i,aa⟩=O w/\TD o h w LL[i]/\LL[i].length<=1000000)
theorem i7.vss{o:Ow}{h:Hp}{u:aw}{LL:List (List Vt)}(s:i7 o h u LL):Vss h u LL:=by
 obtain⟨p,c,hv,hh⟩:=s;refine⟨p,c,hv,fun Y4=>?_⟩;obtain⟨b,off,h1,h2,h3,h4⟩:=hh Y4;refine⟨b,off,h1,h2,fun i hi=>?_⟩;obtain⟨w,g1,g2,g3⟩:=h4 i hi;exact⟨w,g1,g2.ts,nc⟩
theorem i7.Zf{S:Tg->Prop}{o o':Ow}{h h':Hp}{u:aw}{LL:List (List Vt)}(s:i7 o h u LL)(k:Kp S o h o' h'):i7 o' h' u LL:=by
 obtain⟨p,c,hv,hh⟩:=s;refine⟨p,c,hv,fun Y4=>?_⟩;obtain⟨b,off,h1,h2,h3,h4⟩:=hh Y4;obtain⟨q1,q2⟩:=k.Zf b h2 fun t ht=>by rw[h3]at ht;cases ht
 refine⟨b,off,h1,Nat.lt_of_lt_of_le h2 k.size,q2.trans h3,fun i hi=>?_⟩;obtain⟨w,g1,g2,g3⟩:=h4 i hi;refine⟨w,?_,g2.Zf k,g3⟩;unfold hc at g1 ⊢;rw[q1];exact g1
theorem Zg5.ZuK{o:Ow}{h0 h:Hp}{u:aw}{LL:List (List Vt)}(s:Zg5 h0.size o h0 h u LL)(d:Vp o h0)(hb:Zk h0.size h0 h):i7 o h u LL:=by
 obtain⟨ws,Zq,al⟩:=s;have Zdd:(U ws)=(U LL):=by
  clear Zq
  induction al with
  | nil=>rfl
  | cons _ _ ih=>simp[ih]
 have ZuL:∀i (hi:i<(U LL)),∃w,ws[i]? = O w/\TD o h0 w LL[i]/\LL[i].length<=1000000:=by
  clear Zq Zdd
  induction al with
  | nil=>intro i hi;simp at hi
  | cons Cu _ ih=>
   intro i hi
   cases i with
   | zero=>exact⟨_,rfl,Cu⟩
   | succ i=>exact ih i (by simpa using hi)
 obtain⟨p,c,hv,hl,XE⟩:=Zq.sl;refine⟨p,c,hv,fun Y4=>?_⟩;have H5:0<(U LL):=List.length_pos_iff.2 Y4;obtain⟨b,off,rfl,F9⟩:=XE (by intro e;rw[e]at Zdd;simp at Zdd;omega);have hbB:h0.size<=b:=by
  refine Zq.ZX b ?_;rcases Zq with⟨⟨q,h1⟩,h2,h3⟩|⟨b',cap,sp,_,h1,_,_,_,hm⟩
  .subst h3;simp at Zdd;omega
  .rw[hv]at h1;simp only[Value.slice.injEq,Option.some.injEq,Addr.mk.injEq]at h1;obtain⟨⟨rfl,_,_⟩,h12,h13⟩:=h1;rw[hv];have:c≠0:=nc;simp[Yf,this]
 refine⟨b,off,rfl,WZ (F9 0 nc),d b hbB,fun i hi=>?_⟩;obtain⟨w,h1,h2,h3⟩:=ZuL i hi;have kK:i<(U ws):=nc;rw[List.getElem?_eq_getElem kK]at h1;exact⟨w,by rw[F9 i kK,Option.some.inj h1],h2.Zf (ZY d hb),h3⟩
theorem bX{α β:Type}{R:α->β->Prop}{l:List α}{k:List β}(s:AV R l k){a:α}{b:β}(h:R a b):AV R (l++[a]) (k++[b]):=by
 induction s with
 | nil=>exact .cons h .nil
 | cons x _ ih=>exact .cons x ih
theorem qJ(l:List Vt)(v:Vt):RM (l++[v])=if RM l<v.Zu then v.Zu else RM l:=by
 unfold RM;rw[bn];rfl
theorem Xt.mw{o:Ow}{i:Nat}{h:Hp}{ra:RA}{r:Xw}(s:Xt o i h ra r)(d:Vp o h){k:Int}{x:Cm}:
  Kp (fun t=>t=.ZW i) o h o (h.setIfInBounds ra.qb (Jn (ins (Vu Sg r.ZW) k (aI x.C.toArray))))/\Xt o i (h.setIfInBounds ra.qb (Jn (ins (Vu Sg r.ZW) k (aI x.C.toArray)))) ra { r with ZW:=ins r.ZW k x }:=by
 have kk:Kp (fun t=>t=.ZW i) o h o (h.setIfInBounds ra.qb (Jn (ins (Vu Sg r.ZW) k (aI x.C.toArray)))):=(Kp.refl d (fun t=>t=.ZW i)).set s.ZW.1 rfl _;exact⟨kk,s.ZX.Zf kk Ih,s.ZI.Zf kk Ih,s.Ok.Zf kk,⟨s.ZW.1,by rw[ZS s.ZW.2,PG];rfl⟩,s.Y5.Zf kk Ih,s.Rg.Zf kk (fun _ e=>by cases e),s.keys⟩
theorem RP(r:Xw):(Yo r).length=5:=rfl
theorem DN(r:Xw)(m:Nat)(hm:m<(Yo r).length):(Yo r)[m]=(Yh r.ZI (m:Int)).getD []:=by
 simp only[Yo,List.getElem_map,List.getElem_range]
theorem Xt.list{o:Ow}{i:Nat}{h:Hp}{ra:RA}{r:Xw}(s:Xt o i h ra r)(hp:∀x∈r.ZI,x.2.length<=1000000)(m:Int):∃p c vs,(Yh ra.pv m).getD (H aa 0 0)=H p (U vs) c/\(Yh r.ZI m).getD []=vs/\TD o h (H p (U vs) c) vs/\(U vs)<=1000000:=by
 rcases s.Ok.Yh m with⟨h1,h2⟩|⟨w,vs,h1,h2,iv⟩
 .exact⟨aa,0,[],by rw[h1];rfl,by rw[h2];rfl,Im.nil _ _ _ _,Hg⟩
 .obtain⟨p,c,rfl⟩:=iv.ZP;exact⟨p,c,vs,by rw[h1];rfl,by rw[h2];rfl,iv,hp _ (Rx h2)⟩
set_option maxHeartbeats 1000000 in
theorem zp(T:be)(h:Hp)(o:Ow)(wb i nb:Nat)(a:NA)(n:Nd)(ra:RA)(r:Xw)(d:Vp o h)(N:Z5 o h wb i nb { a with Zh:=O ra } { n with Zh:=O r })(hp:∀x∈r.ZI,x.2.length<=1000000)(hs:∀x∈r.ZI,∀v∈x.2,v.Zu<=1000000)(hl:n.ZB.length<=1000000000000):
  Zd a3 T 116 #[Zz nb,Zz ra.rb] h fun v' h'=>∃ra',ra'.rb=ra.rb/\Kp (JS i) o h o h'/\Z5 o h' wb i nb { a with Zh:=O ra' } { n with Zh:=O (Wa n r) }:=by
 have TF:=Za N.ZX.2;have R:Xt o i h ra r:=N.pt.Zh;have Hd:=Za R.ZX.2;refine Zd.XS [_,_] Tryz.func116 ?_;unfold Zz;simp -implicitDefEqProofs only[go_sem];refine VS.Yj (fun F g=>Zk h.size h g/\F 0=Z (O ⟨nb,0,aa⟩)/\F 1=Z (O ⟨ra.rb,0,aa⟩)/\∃m:Nat,m<=5/\F 12=Q D m/\Zg5 h.size o h g (F 4) ((Yo r).take m)/\F 5=Q D (RM ((Yo r).take m).flatten))
  (fun F _=>5-(vi (F 12)).toNat) rfl ⟨Zk.refl _ _,rfl,rfl,0,nc,rfl,⟨[],UE.nil _ _ _ _,.nil⟩,rfl⟩ ?_
 rintro F g ⟨hg,f0,f1,m,hm,f12,hG,f5⟩;have kg:=ZY d hg;have N1:=N.Zo kg;have R1:=R.Zf kg (fun _ _ q=>q);obtain⟨_,q2,q3,q4,_⟩:=R1.rr;have gs:=hg.size;by_cases ZU:m<5
 .have Z8:(m:Int)<5:=nc;obtain⟨pm,cm,vs,e1,e2,iv,yD⟩:=R1.list hp (m:Int);have hm5:m<(Yo r).length:=by rw[RP];exact ZU
  have e3:(Yo r)[m]=vs:=by rw[DN,e2]
  have e4:(Yo r).take (m+1)=(Yo r).take m++[vs]:=by rw[Y2 _ m hm5,e3]
  have lk:=fun (G:Hp) (hG:Zk g.size g G) (K:aw->Hp->Prop)=>Xc (h:=G) (K:=K) (n:=(m:Int)) (c:=false) ID yP (hG.get (Za R1.ZI.2) R1.ZI.2);simp only[e1,a5,if_false]at lk;have lk0:=lk g (Zk.refl _ _);obtain⟨ws,Zq,al⟩:=hG;obtain⟨p4,c4,hF4⟩:∃p c,F 4=H p ((Yo r).take m).length c:=by
   obtain⟨p,c,h1,_⟩:=Zq.sl;exact⟨p,c,h1⟩
  have ml:((Yo r).take m).length=m:=by rw[List.length_take,RP];omega
  rw[ml]at hF4 Zq;rw[hF4]at Zq;simp -implicitDefEqProofs only[go_sem,f0,f1,f5,f12,hF4,Z8,q2,lk0];have src:Sl 1 (g.push (J [H pm (U vs) cm].toArray 103)) (H (O ⟨g.size,0,aa⟩) 1 1) 1 [H pm (U vs) cm]:=Sl.made Hg 1;refine Ic (E:=103) (n:=1) (B:=h.size) (bytes:=24) (m:=m) (k:=1) (cs:=ws) ZfV Tryz.underlying229 Zj7 Zj9 rfl Zj8 (Zq.push _) KQ src rfl nc nc ?_;intro u3 g3 Zl3 ZuN _;have hg3:Zk h.size h g3:=(hg.YU nc _).trans (ZuN.Yy KQ (Zq.push (J [H pm (U vs) cm].toArray 103)).ZX);have kg3:=ZY d hg3;have R3:=R.Zf kg3 (fun _ _ q=>q);obtain⟨_,q23,_,_,_⟩:=R3.rr;have lk3:=fun (K:aw->Hp->Prop)=>Xc (K:=K) (n:=(m:Int)) (c:=false) ID yP R3.ZI.2;simp only[e1,a5,if_false]at lk3;obtain⟨p5,c5,rfl⟩:∃p c,u3=H p (m+1) c:=by obtain⟨p,c,h1,_⟩:=Zl3.sl;exact⟨p,c,h1⟩
  have iv0:TD o h (H pm (U vs) cm) vs:=by
   obtain⟨pm',cm',vs',x1,x2,iv',_⟩:=R.list hp (m:Int);rw[e1]at x1;rw[e2]at x2;subst x2;rw[<-x1]at iv';exact iv'
  have al3:AV (fun w l=>TD o h w l/\(U l)<=1000000) (ws++[H pm (U vs) cm]) ((Yo r).take m++[vs]):=by
   exact bX al ⟨iv0,yD⟩
  simp -implicitDefEqProofs only[go_sem,f0,f1,f5,f12,Z8,q23,lk3];obtain⟨LL,hLL⟩:=ZQ (((Yo r).take m).flatten);have hfl:((Yo r).take (m+1)).flatten=LL++vs:=by rw[e4,List.flatten_append,<-hLL];simp
  rw[<-hLL]at f5;have ivo:=fun g' (hb:Zk h.size h g')=>Fl (iv0.Zf (ZY d hb)).ts;refine VS.Yj (fun F' g'=>Zk h.size h g'/\F' 0=Z (O ⟨nb,0,aa⟩)/\F' 1=Z (O ⟨ra.rb,0,aa⟩)/\F' 12=Q D m/\F' 29=H pm (U vs) cm/\F' 30=Q D (U vs)/\F' 4=H p5 (m+1) c5/\UE h.size 103 1 g' (H p5 (m+1) c5) (m+1) (ws++[H pm (U vs) cm])/\∃j:Nat,j<=(U vs)/\F' 31=Q D j/\F' 5=Q D (RM (LL++vs.take j)))
   (fun F' _=>(U vs)-(vi (F' 31)).toNat) rfl ⟨hg3,f0,f1,f12,rfl,rfl,rfl,Zl3,0,nc,rfl,by rw[List.take_zero,am];exact f5⟩ ?_
  rintro F2 g4 ⟨He,f0,f1,f12,f29,f30,f4,Zl4,j,hj,f31,f5⟩;by_cases fa:j<(U vs)
  .have ZuO:(j:Int)<(U vs):=nc;obtain⟨pp,cc,DO,iE⟩:=ivo g4 He;obtain⟨bb,oo,hpp,Tm,Ky⟩:=iE (by intro e;rw[e]at fa;simp at fa);simp only[Value.slice.injEq]at DO;obtain⟨rfl,_,rfl⟩:=DO;subst hpp;have r1:=Ky j fa;unfold Zv at r1;simp -implicitDefEqProofs only[go_sem,f0,f1,f12,f29,f30,f4,f31,f5,ZuO,r1];unfold XK;refine⟨⟨He.YU He.size _,f0,f1,f12,f29,f30,f4,Zl4.push _,j+1,fa,rfl,?_⟩,?_⟩
   .show Value.int D _=_;rw[Y2 vs j fa,<-List.append_assoc,qJ]
   .simp only[vi,Zr,↓reduceIte,f31];omega
  .have Xp:¬(j:Int)<(U vs):=nc;obtain rfl:j=(U vs):=nc;rw[List.take_length]at f5;simp -implicitDefEqProofs only[go_sem,f30,f31,Xp,f12];unfold XK;refine⟨⟨He,f0,f1,m+1,ZU,rfl,⟨_,?_,by rw[e4];exact al3⟩,by rw[hfl];exact f5⟩,?_⟩
   .show UE _ _ _ _ (F2 4) _ _;rw[f4,e4,List.length_append,ml];exact Zl4
   .simp only[vi,Zr,↓reduceIte,f12];omega
 .have Xp:¬(m:Int)<5:=nc;obtain rfl:m=5:=nc;have ht5:(Yo r).take 5=Yo r:=by rw[List.take_of_length_le];exact Nat.le_of_eq (RP r)
  rw[ht5]at hG f5;have P1:=ZR N1.ZX.2 N1.pt.store.len;have Q8:=Za N1.ZX.2;obtain⟨lp,lc,Kv,_⟩:=Xz.ZP N1.pt.ZB;have P11:=P1.ZB;rw[Kv]at P11;have qL:=hG.ZuK d hg;obtain⟨u,hu⟩:=ZQ (F 4);rw[<-hu]at qL hG;obtain⟨Z4,Lh⟩:=ZQ (RM (Yo r).flatten);rw[<-Lh]at f5;have htl:Z4<=1000000:=by
   rw[Lh];have key:∀(l:List Vt) (t:Int),t<=1000000->(∀v∈l,v.Zu<=1000000)->l.foldl (fun t v=>if t<v.Zu then v.Zu else t) t<=1000000:=by
    intro l
    induction l with
    | nil=>intro t ht _;exact ht
    | cons x l ih=>
     intro t ht hh;refine ih _ ?_ (fun v hv=>hh v (List.mem_cons_of_mem _ hv));show (if t<x.Zu then x.Zu else t)<=1000000;split
     .exact hh x List.mem_cons_self
     .exact ht
   refine key _ _ nc ?_;intro v hv;simp only[List.mem_flatten]at hv;obtain⟨l,wZ,I0⟩:=hv;obtain⟨k,hk,rfl⟩:=List.getElem_of_mem wZ;rw[DN]at I0
   cases hx:Yh r.ZI (k:Int) with
   | none=>rw[hx]at I0;cases I0
   | some y=>rw[hx]at I0;exact hs _ (Rx hx) v I0
  clear hG;obtain⟨LL,hLL⟩:=ZQ (Yo r);rw[<-hLL]at qL Lh;obtain⟨C,hC⟩:=ZQ ((Z4+1).toNat-n.ZB.length);have il:Wa n r = { r with ZW:=(bh n.ZB.length C).foldl (JV n LL) r.ZW,XM:=true }:=by
   unfold Wa;rw[hC,Lh,hLL]
  rw[il];have hu':=hu.symm;simp -implicitDefEqProofs only[go_sem,f0,f1,f5,f12,Xp,P11];refine VS.Yj (fun F' g'=>Kp (JS i) o h o g'/\F' 0=Z (O ⟨nb,0,aa⟩)/\F' 1=Z (O ⟨ra.rb,0,aa⟩)/\F' 4=u/\F' 5=Q D Z4/\i7 o g' u LL/\∃k:Nat,k<=C/\F' 9=Q D ((n.ZB.length+k:Nat):Int)/\Z5 o g' wb i nb { a with Zh:=O ra } { n with Zh:=O { r with ZW:=(bh n.ZB.length k).foldl (JV n LL) r.ZW } })
   (fun F' _=>n.ZB.length+C-(vi (F' 9)).toNat) rfl ⟨Z1 kg,f0,f1,hu',f5,qL,0,nc,rfl,N1⟩ ?_
  rintro F2 g2 ⟨K2,f0,f1,f4,f5,qL,k,hk,f9,N2⟩;obtain⟨pk,hpk⟩:=ZQ ((bh n.ZB.length k).foldl (JV n LL) r.ZW);rw[<-hpk]at N2;have R2:Xt o i g2 ra { r with ZW:=pk }:=N2.pt.Zh;obtain⟨_,_,_,q4,_⟩:=R2.rr;have P2:=ZR N2.ZX.2 N2.pt.store.len;have Ui:=Za N2.ZX.2;have bT:=Za R2.ZX.2;by_cases hkc:k<C
  .have hle:(((n.ZB.length+k:Nat):Int))<=Z4:=nc;have lk:=fun (K:aw->Hp->Prop)=>Xc (K:=K) (n:=((n.ZB.length+k:Nat):Int)) (c:=true) Re Lt N2.pt.Zi.2;rw[Jm]at lk;have XC:(bh n.ZB.length (k+1)).foldl (JV n LL) r.ZW=JV n LL pk (n.ZB.length+k):=by
    rw[List.range'_concat,bn,<-hpk];simp
   cases hx:Yh n.Zi ((n.ZB.length+k:Nat):Int) with
   | some y=>
    have e6:JV n LL pk (n.ZB.length+k)=pk:=by unfold JV;rw[if_neg (by rw[hx];simp)]
    simp only[show ({ n with Zh:=O { r with ZW:=pk } }:Nd).Zi=n.Zi from rfl,hx,a4,a0,a6,↓reduceIte]at lk;simp -implicitDefEqProofs only[go_sem,f0,f1,f4,f5,f9,hle,P2.Zi,lk,Sg];have kx:=Yt K2.Yn (J y.C.toArray 25);unfold XK;refine⟨⟨K2.push _,f0,f1,f4,f5,qL.Zf kx,k+1,hkc,?_,by rw[XC,e6];exact N2.Zo kx⟩,?_⟩
    .show Value.int D _=Value.int D _
     congr 1
    .simp only[vi,Zr,↓reduceIte,f9];omega
   | none=>
    have e6:JV n LL pk (n.ZB.length+k)=ins pk ((n.ZB.length+k:Nat):Int) (Oj LL ((n.ZB.length+k:Nat):Int)):=by unfold JV;rw[if_pos hx]
    simp only[show ({ n with Zh:=O { r with ZW:=pk } }:Nd).Zi=n.Zi from rfl,hx,a9,a7,aU,↓reduceIte]at lk;simp -implicitDefEqProofs only[go_sem,f0,f1,f4,f5,f9,hle,P2.Zi,lk];obtain⟨g3,hg3⟩:=ZQ (g2.push (J IB.C.toArray 25):Hp);have kx:Kp Wy o g2 o g3:=by rw[hg3];exact Yt K2.Yn _
    rw[<-hg3];have N3:=N2.Zo kx;have R3:Xt o i g3 ra { r with ZW:=pk }:=N3.pt.Zh;obtain⟨_,_,_,q43,_⟩:=R3.rr;have ZuP:=Za R3.ZX.2;have hv3:=qL.Zf kx;have LLl:(U LL)<=4611686018427387904:=by rw[hLL,RP];omega
    refine VS.z (g3.size) [12] (.p 0 (.p 1 (.p 2 (.q 3 (.p 4 (.p 5 (.p 6 (.s 7 (.p 8 (.p 9 (.p 10 (.p 11 (.w 12 .nil))))))))))))) mixed uf ?_;simp -implicitDefEqProofs only[go_sem,f0,f1,f4,f5,f9,q43,ZuP];refine (Zcn T g3 u LL ((n.ZB.length+k:Nat):Int) hv3.vss LLl).use ?_;rintro _ g4 ⟨Zcz,b4⟩;unfold C9 at Zcz;subst Zcz;have k4:=ZY kx.Yn b4;have N4:=N3.Zo k4;have R4:Xt o i g4 ra { r with ZW:=pk }:=N4.pt.Zh;have eC:C8 (if Sc ((n.ZB.length+k:Nat):Int) LL.flatten=0 then WF ((n.ZB.length+k:Nat):Int) LL.flatten else St)=(Oj LL ((n.ZB.length+k:Nat):Int)).C:=by
     unfold Oj;split<;>rfl
    rw[eC];simp -implicitDefEqProofs only[go_sem,b4,f0,f1,f4,f5,f9];rw[Qb Re R4.ZW.2];obtain⟨k5,R5⟩:=R4.mw k4.Yn (k:=((n.ZB.length+k:Nat):Int)) (x:=Oj LL ((n.ZB.length+k:Nat):Int));have k5':Kp (JS i) o g4 o _:=k5.mono fun t q=>.inr (.inr (.inl q));simp -implicitDefEqProofs only[go_sem,f9];unfold XK;refine⟨⟨(K2.trans ((Z1 kx).trans (Z1 k4))).trans k5',f0,f1,f4,f5,(hv3.Zf k4).Zf k5',k+1,hkc,?_,?_⟩,?_⟩
    .show Value.int D _=Value.int D _
     congr 1
    .rw[XC,e6];exact⟨N4.ZX.Zf k5 Ih,Yi.UX N4.pt k5' rfl rfl R5⟩
    .simp only[vi,Zr,↓reduceIte,f9];omega
  .have hgt:¬(((n.ZB.length+k:Nat):Int))<=Z4:=nc;obtain rfl:k=C:=nc;obtain⟨g4,w4,h4⟩:∃g4,QP g2 ⟨ra.rb,3,aa⟩ (ba true)=O g4/\g4=g2.setIfInBounds ra.rb (J (iW { r with ZW:=pk,XM:=true } ra).toArray 157):=by
    refine⟨_,?_,rfl⟩;rw[Xe R2.ZX.2,if_pos ⟨by simp[iW],rfl⟩];rfl
   simp -implicitDefEqProofs only[go_sem,f0,f1,f4,f5,f9,hgt,bT,w4];have kk:Kp (fun t=>t=.Zh i) o g2 o g4:=by rw[h4];exact (Kp.refl K2.Yn (fun t=>t=.Zh i)).set R2.ZX.1 rfl _
   have R4:Xt o i g4 ra { r with ZW:=pk,XM:=true }:=⟨⟨R2.ZX.1,by rw[h4];exact ZS R2.ZX.2⟩,R2.ZI.Zf kk Ih,R2.Ok.Zf kk,R2.ZW.Zf kk Ih,R2.Y5.Zf kk Ih,R2.Rg.Zf kk (fun _ e=>by cases e),R2.keys⟩
   rw[<-hpk];refine⟨ra,rfl,K2.trans (kk.mono fun t q=>.inl q),N2.ZX.Zf kk Ih,Yi.UX N2.pt (kk.mono fun t q=>.inl q) rfl rfl R4⟩
end Go.Proofs.YthlfaofofaphfaaGreatDoor
