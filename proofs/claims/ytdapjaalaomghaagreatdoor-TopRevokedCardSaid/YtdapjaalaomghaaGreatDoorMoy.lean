import Derived.Test.YtdapjaalaomghaaGreatDoorMop
import Derived.Test.YtdapjaalaomghaaGreatDoorOpn
open Go.Value renaming slice→H,int→Q,pointer→Z,agg→ao,bool→a8
open Go.IntKind renaming i64→D
open Go.Obj renaming cells→J
open Go.Proofs.Tryz renaming prog→aU
open List renaming length→U,append_nil→ab,map_cons→a9,nodup_cons→ba,map→be,range'→bf,foldl_append→bk,mem_cons→bl
open Nat renaming le_refl→ae
open Option renaming isSome_none→aq,getD_some→aw,map_some→a0,isSome_some→a4,getD_none→a5,map_none→a7,some→O,none→aa
open Array renaming size_push→a6,getElem?_push→bg
open Bool renaming false_eq_true→a3
open And renaming intro→bd
open Go renaming Value→am,World→bc,TypeId→bh
namespace Go.Proofs.YtdapjaalaomghaaGreatDoor
open Go Go.V
set_option linter.all false
set_option maxRecDepth 100000
theorem rD(G:Hp)(X Y:Obj):((G.push X).push Y)[G.size]? = O X:=by rw[ZI uK,Zc]
theorem gs2(G:Hp)(k:Nat)(X Y:Obj):((G.setIfInBounds k X).push Y)[G.size]? = O Y:=by
 have:=Zc (h:=G.setIfInBounds k X) (o:=Y);rwa [Array.size_setIfInBounds]at this
theorem uC(G:Hp)(X Y:Obj):((G.push X).push Y)[G.size+1]? = O Y:=by
 have:=Zc (h:=G.push X) (o:=Y);rwa [a6]at this
def mT(B:Nat)(g':Hp)(A C:am)(p:Yn)(l:List Vt)(b:Yn):Prop:=
 ∃ka kc w1 w2,A=Zx ka/\C=Zx kc/\B<=ka/\B<=kc/\g'[ka]? = O (J (Xy (if YG p l b=0 then b else ⟨0,0⟩) w1).toArray 104)/\g'[kc]? = O (J [w2].toArray 102) /\
  Qv B 132 Zv 8 g' w1 (if YG p l b=0 then l else [])/\Qv B 132 Zv 8 g' w2 (if YG p l b=0 then l else [])
def D4(B:Nat)(g':Hp)(A:am)(l:List Nat)(n:Int)(E:Int)(add:List Nat):Prop:=
 ∃ka w,A=Z (O ⟨ka,0,aa⟩)/\B<=ka/\g'[ka]? = O (J [w,Q D (if E=0 then n else 0)].toArray 99)/\Yx B 5 g' w (if E=0 then l++add else [])
set_option maxHeartbeats 1000000 in
theorem cV(T:bc)(h:Hp)(o:Ow)(wb i nb:Nat)(YM:Nat->Nat)(a:NA)(n:Nd)(Xt:WA)(fl:List YF)(Yw:Nat->Int)(ZA:List PS)(l:YF)(w:am)(d:Vx o h)(N:Z5 o h wb i nb a n)(W:ZY o h wb YM Xt fl Yw ZA)(iv:TO o h w l.vs)(Y5:(U fl)<=1000000000000)(zf:n.Zm.l.length<=1000000)(uy:(U n.data)<=1000000)(tb:fK o h):
  Zd aU T 83 #[Zx wb,Zx nb,ao (XN l w).toArray] h fun v' h'=>∃o' a' Jv,Kp (fun t=>t=.world\/t=.Zo\/t=.ZV i) o h o' h'/\Z5 o' h' wb i nb a' (YA n l).n/\ZY o' h' wb YM Jv (fl++(YA n l).ls) Yw ZA:=by
 obtain⟨pw,cw,rfl⟩:=iv.ZO;refine Zd.XT [_,_,_] Tryz.func83 ?_;unfold Zx XN;simp only[go_sem];obtain⟨h1,Xm⟩:=ZN (((h.push (J [Zx wb].toArray 90)).push (J [Zx nb].toArray 97)).push (J (XN l (H pw (U l.vs) cw)).toArray 134):Hp);have k1:Kp WL o h o h1:=by rw[Xm];exact ((Kp.refl d _).push _ |>.push _).push _
 have s1:h1.size=h.size+3:=by rw[Xm];simp
 have d1:∀b,h.size<=b->o b=aa:=d;have x3:Ya o h1 h.size (J [Zx wb].toArray 90):=⟨d _ nT,by rw[Xm,ZI Ig,rD]⟩
 have x4:Ya o h1 (h.size+1) (J [Zx nb].toArray 97):=⟨d _ nT,by rw[Xm,ZI uK,uC]⟩
 have x5:Ya o h1 (h.size+2) (J (XN l (H pw (U l.vs) cw)).toArray 134):=⟨d _ nT,by
  have:=Zc (h:=(h.push (J [Zx wb].toArray 90)).push (J [Zx nb].toArray 97)) (o:=J (XN l (H pw (U l.vs) cw)).toArray 134);rw[Xm];simpa using this⟩
 have e0:((h.push (J [Zx wb].toArray 90)).push (J [Zx nb].toArray 97)).push (J (XN l (H pw (U l.vs) cw)).toArray 134)=h1:=Xm.symm;unfold Zx XN at e0;rw[e0];clear e0 Xm;have N1:=N.Zn k1;have W1:=W.Zn k1;have iv1:=iv.Ze k1;have R1:=ZP N1.ZW.2 N1.pt.store.len;have Q3:=Za N1.ZW.2;have l3:=Za x3.2;have l4:=Za x4.2;have l5:=Za x5.2;have r3:hc h1 ⟨h.size,0,aa⟩=O (Zx wb):=Zl x3.2;have r4:hc h1 ⟨h.size+1,0,aa⟩=O (Zx nb):=Zl x4.2;have r53:rd h1 ⟨h.size+2,3,aa⟩ 2=O [Q D l.b.r,Q D l.b.n]:=by rw[YJ x5.2 (by simp[XN])];rfl
 have r51:hc h1 ⟨h.size+2,1,aa⟩=O (Q D l.Jp):=Zl x5.2;unfold Zx at r3 r4;have FE:=R1.Zm;obtain⟨pv,cv,uD⟩:=N1.pt.XO.ZO;rw[uD]at FE;have call:∀G,Zj h1.size h1 G->Zd aU T 93 #[ao #[Q D n.Zm.p.r,Q D n.Zm.p.n,H pv n.Zm.l.length cv],ao #[Q D l.b.r,Q D l.b.n]] G fun v' h'=>aT G.size h' v' n.Zm.p n.Zm.l l.b/\Zj G.size G h':=fun G hG=>
  RX T G n.Zm.p _ n.Zm.l l.b (by rw[<-uD];exact N1.pt.XO.ts.Yz hG) nT
 obtain⟨E,hE⟩:=ZN (YG n.Zm.p n.Zm.l l.b);have wA:∀(G:Hp) (k:Nat) (r m:Int) (p:Option Addr) (L c:Nat),G[k]? = O (J [Q D 0,Q D 0,H aa 0 0].toArray 104)->wr G ⟨k,0,aa⟩ [Q D r,Q D m,H p L c]=O (G.setIfInBounds k (J [Q D r,Q D m,H p L c].toArray 104)):=fun G k r m p L c hx=>by
  rw[Yd hx 0 _];rfl
 have wB:∀(G:Hp) (k:Nat) (p:Option Addr) (L c:Nat),G[k]? = O (J [H aa 0 0].toArray 102)->QQ G ⟨k,0,aa⟩ (H p L c)=O (G.setIfInBounds k (J [H p L c].toArray 102)):=fun G k p L c hx=>by
  rw[Xh hx 0 _];rfl
 refine VS.mono (N:=fun F' g'=>Zj h1.size h1 g'/\F' 3=Z (O ⟨h.size,0,aa⟩)/\F' 4=Z (O ⟨h.size+1,0,aa⟩)/\F' 5=Z (O ⟨h.size+2,0,aa⟩)/\F' 8=Q D E/\mT h1.size g' (F' 6) (F' 7) n.Zm.p n.Zm.l l.b) ?_ ?_ (fun _ _ _ h=>h) (fun _ _ h=>h)
 .refine VS.z (h1.size) [6,13,14] (.q 0 (.p 1 (.p 2 (.q 3 (.p 4 (.q 5 (.or 6 (.p 7 (.p 8 (.p 9 (.p 10 (.or 11 (.s 12 (.w 13 (.w 14 (.p 15 .nil)))) (.s 12 (.s 11 (.w 13 (.w 14 (.p 15 .nil)))))))))) (.or 11 (.or 6 (.p 7 (.p 8 (.p 9 (.p 10 (.s 12 (.w 13 (.w 14 (.p 15 .nil)))))))) (.s 12 (.w 6 (.p 7 (.p 8 (.p 9 (.p 10 (.w 13 (.w 14 (.p 15 .nil)))))))))) (.s 12 (.or 6 (.p 7 (.p 8 (.p 9 (.p 10 (.s 11 (.w 13 (.w 14 (.p 15 .nil)))))))) (.s 11 (.w 6 (.p 7 (.p 8 (.p 9 (.p 10 (.w 13 (.w 14 (.p 15 .nil))))))))))))))))))) mixed uj ?_;simp only[go_sem,r4,FE,r53,Q3,l4,l5];unfold mT Zx Xy
  repeat' (first|with_reducible exact Zj.refl _ _|with_reducible exact Zj.push nT _|with_reducible refine bd ?_ ?_)
  all_goals first
   | (refine (call h1 (Zj.refl _ _)).use ?_
      rintro _ g5 ⟨⟨w1,w2,rfl,o1,o2⟩,b5⟩;obtain⟨p1,c1,rfl,_⟩:=o1.open;obtain⟨p2,c2,rfl,_⟩:=o2.open;rw[<-hE]at *;have s5:=b5.size;unfold Xy;simp only[go_sem,b5];refine⟨⟨_,_,_,_,rfl,rfl,s5,nT,rD _ _ _,uC _ _ _,(o1.push _).push _,(o2.push _).push _⟩,⟨_,_,_,_,rfl,rfl,nT,s5,uC _ _ _,rD _ _ _,(o1.push _).push _,(o2.push _).push _⟩⟩)
   | (refine (call (h1.push (J _ 104)) (Zj.push (ae _) _)).use ?_
      rintro _ g5 ⟨⟨w1,w2,rfl,o1,o2⟩,b5⟩;obtain⟨p1,c1,rfl,_⟩:=o1.open;obtain⟨p2,c2,rfl,_⟩:=o2.open;rw[<-hE]at *;have s5:=b5.size;rw[a6]at s5;have B5:Zj h1.size h1 g5:=(Zj.push (ae _) _).trans (b5.mono uK);have xA:=b5.get (k:=h1.size) uK Zc;have PC:=wA _ _ (if E=0 then l.b else ⟨0,0⟩).r (if E=0 then l.b else ⟨0,0⟩).n p1 (if E=0 then n.Zm.l else []).length c1 xA;have zA:=Za xA;unfold Xy;simp only[go_sem,B5,PC,zA];exact⟨_,_,_,_,rfl,rfl,ae _,nT,by rw[ZI (by simpa using zA)];exact ZQ xA,gs2 _ _ _ _,((o1.Z9 uK _).push _).mono uK,((o2.Z9 uK _).push _).mono uK⟩)
   | (refine (call (h1.push (J _ 102)) (Zj.push (ae _) _)).use ?_
      rintro _ g5 ⟨⟨w1,w2,rfl,o1,o2⟩,b5⟩;obtain⟨p1,c1,rfl,_⟩:=o1.open;obtain⟨p2,c2,rfl,_⟩:=o2.open;rw[<-hE]at *;have s5:=b5.size;rw[a6]at s5;have B5:Zj h1.size h1 g5:=(Zj.push (ae _) _).trans (b5.mono uK);have xB:=b5.get (k:=h1.size) uK Zc;have FD:=wB _ _ p2 (if E=0 then n.Zm.l else []).length c2 xB;have zB:=Za xB;unfold Xy;simp only[go_sem,B5,FD,zB];exact⟨_,_,_,_,rfl,rfl,nT,ae _,gs2 _ _ _ _,by rw[ZI (by simpa using zB)];exact ZQ xB,((o1.Z9 uK _).push _).mono uK,((o2.Z9 uK _).push _).mono uK⟩)
   | (refine (call ((h1.push (J _ 104)).push (J _ 102)) ((Zj.push (ae _) _).YU uK _)).use ?_
      rintro _ g5 ⟨⟨w1,w2,rfl,o1,o2⟩,b5⟩;obtain⟨p1,c1,rfl,_⟩:=o1.open;obtain⟨p2,c2,rfl,_⟩:=o2.open;rw[<-hE]at *;have s5:=b5.size;rw[a6,a6]at s5;have B5:Zj h1.size h1 g5:=((Zj.push (ae _) _).YU uK _).trans (b5.mono Ig);have xA:=b5.get (k:=h1.size) Ig (rD _ _ _);have xB:=b5.get (k:=h1.size+1) uK (uC _ _ _);have PC:=wA _ _ (if E=0 then l.b else ⟨0,0⟩).r (if E=0 then l.b else ⟨0,0⟩).n p1 (if E=0 then n.Zm.l else []).length c1 xA;have zA:=Za xA;have KO:=fun o:Obj=>(Y7 (o:=o) (show h1.size≠h1.size+1 by omega)).trans xB;have FD:=fun o:Obj=>wB _ _ p2 (if E=0 then n.Zm.l else []).length c2 (KO o);have zB:h1.size+1<g5.size:=Za xB;unfold Xy;simp only[go_sem,B5,PC,zA,FD,zB];exact⟨_,_,_,_,rfl,rfl,nT,nT,(Y7 nT).trans (ZQ xA),ZQ (KO _),((o1.Z9 Ig _).Z9 uK _).mono Ig,((o2.Z9 Ig _).Z9 uK _).mono Ig⟩)
   | (refine (call ((h1.push (J _ 102)).push (J _ 104)) ((Zj.push (ae _) _).YU uK _)).use ?_
      rintro _ g5 ⟨⟨w1,w2,rfl,o1,o2⟩,b5⟩;obtain⟨p1,c1,rfl,_⟩:=o1.open;obtain⟨p2,c2,rfl,_⟩:=o2.open;rw[<-hE]at *;have s5:=b5.size;rw[a6,a6]at s5;have B5:Zj h1.size h1 g5:=((Zj.push (ae _) _).YU uK _).trans (b5.mono Ig);have xB:=b5.get (k:=h1.size) Ig (rD _ _ _);have xA:=b5.get (k:=h1.size+1) uK (uC _ _ _);have PC:=wA _ _ (if E=0 then l.b else ⟨0,0⟩).r (if E=0 then l.b else ⟨0,0⟩).n p1 (if E=0 then n.Zm.l else []).length c1 xA;have zA:=Za xA;have KO:=fun o:Obj=>(Y7 (o:=o) (show h1.size+1≠h1.size by omega)).trans xB;have FD:=fun o:Obj=>wB _ _ p2 (if E=0 then n.Zm.l else []).length c2 (KO o);have zB:h1.size<g5.size:=Za xB;unfold Xy;simp only[go_sem,B5,PC,zA,FD,zB];exact⟨_,_,_,_,rfl,rfl,nT,nT,(Y7 nT).trans (ZQ xA),ZQ (KO _),((o1.Z9 uK _).Z9 Ig _).mono Ig,((o2.Z9 uK _).Z9 Ig _).mono Ig⟩)
 .rintro F1 g1 ⟨b1,f3,f4,f5,f8,ka,kc,w1,w2,fA,fC,ge1,ge2,yA,yC,o1,o2⟩;rw[<-hE]at yA o1 o2;have kb:=ZX k1.Yp b1;have N2:=N1.Zn kb;have W2:=W1.Zn kb;have K2:Kp WL o h o g1:=k1.Yz b1;have y3:=x3.Ze kb;have y4:=x4.Ze kb;have y5:=x5.Ze kb;have uA:=iv1.Ze kb;have io:=(tb.Ze k1).Ze kb;have R2:=ZP N2.ZW.2 N2.pt.store.len;have m3:=Za y3.2;have m4:=Za y4.2;have m5:=Za y5.2;have Ug:=Za N2.ZW.2;have q3:hc g1 ⟨h.size,0,aa⟩=O (Zx wb):=Zl y3.2;have q4:hc g1 ⟨h.size+1,0,aa⟩=O (Zx nb):=Zl y4.2;have mU:rd g1 ⟨h.size+2,3,aa⟩ 2=O [Q D l.b.r,Q D l.b.n]:=by rw[YJ y5.2 (by simp[XN])];rfl
  have q51:hc g1 ⟨h.size+2,1,aa⟩=O (Q D l.Jp):=Zl y5.2;unfold Zx at q3 q4;have R2p:=R2.cN;by_cases e:E=0
  case neg=>
   have eP:YA n l=⟨n,[⟨7,n.me,l.Jp,n.Zm.p,SM,[]⟩],[]⟩:=by unfold YA;rw[<-hE,if_pos e]
   rw[eP];simp only[go_sem,f8,e];refine VS.z (g1.size) [10] (.q 0 (.q 1 (.p 2 (.q 3 (.q 4 (.p 5 (.p 6 (.p 7 (.q 8 (.p 9 (.w 10 .nil))))))))))) mixed uj ?_;simp only[go_sem,f3,f4,f5,q3,q4,q51,R2p,m3,m4,m5,Ug];refine (V0 T g1 o wb nb YM n.me Xt fl Yw ZA l.Jp ⟨7,0,0,n.Zm.p,SM,[]⟩ (H aa 0 0) K2.Yp W2 R2.me Ug (Im.nil _ _ _ _) Y5).use ?_;rintro v' h' ⟨o',Jv,k,_,W'⟩;simp only[go_sem];exact⟨o',a,Jv,(Z0 K2).trans (k.mono fun t q=>q.elim .inl fun q=>.inr (.inl q)),N2.Ze k (by rintro t (rfl|rfl)<;>simp[Tg.of]),W'⟩
  rw[if_pos e]at yA o1 o2;have iv7:TO o g1 w2 n.Zm.l:=Im.WV o2.Zm (fun b hb=>k1.Yp b hb);have iv6:TO o g1 w1 n.Zm.l:=Im.WV o1.Zm (fun b hb=>k1.Yp b hb);unfold Zx at fA fC;simp only[go_sem,f8,e,f3,f4,f5,fC];obtain⟨g2,WB⟩:=ZN (g1.push (J [T6 104 [h.size,h.size+1,h.size+2,kc]].toArray 1):Hp);have k2:=Yu K2.Yp (J [T6 104 [h.size,h.size+1,h.size+2,kc]].toArray 1);rw[<-WB]at k2;have K3:Kp WL o h o g2:=K2.trans k2;have x9:Ya o g2 g1.size (J [T6 104 [h.size,h.size+1,h.size+2,kc]].toArray 1):=⟨K2.Yp _ (ae _),by rw[WB];exact Zc⟩
  have e2:g1.push (J [T6 104 [h.size,h.size+1,h.size+2,kc]].toArray 1)=g2:=WB.symm;unfold T6 at e2;simp only[be]at e2;unfold Zx at e2;rw[e2];clear e2 WB;have N3:=N2.Zn k2;have W3:=W2.Zn k2;have z3:=y3.Ze k2;have z4:=y4.Ze k2;have z5:=y5.Ze k2;have z6:=(show Ya o g1 ka _ from⟨k1.Yp ka ge1,yA⟩).Ze k2;have z7:=(show Ya o g1 kc _ from⟨k1.Yp kc ge2,yC⟩).Ze k2;have iw7:=iv7.Ze k2;have iw6:=iv6.Ze k2;have tb3:=io.Ze k2;clear R2 R2p m3 m4 m5 Ug q3 q4 mU q51 R1 FE Q3 l3 l4 l5 r3 r4 r53 r51;have R3:=ZP N3.ZW.2 N3.pt.store.len;have m3:=Za z3.2;have m4:=Za z4.2;have m5:=Za z5.2;have m9:=Za x9.2;have Mw:=Za N3.ZW.2;have q4:hc g2 ⟨h.size+1,0,aa⟩=O (Zx nb):=Zl z4.2;have mU:rd g2 ⟨h.size+2,3,aa⟩ 2=O (Qz l.b):=by rw[YJ z5.2 (by simp[XN])];rfl
  have q9:hc g2 ⟨g1.size,0,aa⟩=O (T6 104 [h.size,h.size+1,h.size+2,kc]):=Zl x9.2;have R3p:rd g2 ⟨nb,4,aa⟩ 2=O (Qz n.Zm.p):=R3.cN;unfold Zx at q4;refine VS.q mixed uj ?_;simp only[go_sem,f4,f5,q4,mU,R3p];by_cases ep:n.Zm.p=l.b
  .have eP:YA n l=⟨n,[⟨1,n.me,l.Jp,l.b,SM,n.Zm.l⟩],[]⟩:=by unfold YA;rw[<-hE,if_neg nT,if_pos ep]
   rw[eP];unfold T6 at q9;simp only[be]at q9;unfold Zx at q9;simp only[go_sem,ep,q9];refine (mQ T g2 o wb nb YM n.me Xt fl Yw ZA h.size (h.size+1) (h.size+2) kc l _ w2 n.Zm.l K3.Yp W3 R3.me Mw Y5 z3 z4 z5 z7 iw7).use ?_;rintro v' h' ⟨o',Jv,k,W'⟩;simp only[go_sem];exact⟨o',a,Jv,(Z0 K3).trans (k.mono fun t q=>q.elim .inl fun q=>.inr (.inl q)),N3.Ze k (by rintro t (rfl|rfl)<;>simp[Tg.of]),W'⟩
  simp only[go_sem,ep];have zN:=R3.tape;obtain⟨pd,cd,PZ⟩:=N3.pt.data.1.ZO;rw[PZ]at zN;obtain⟨E2,rE⟩:=ZN (Jj n.data n.YS l.b);have call2:∀G,Zj g2.size g2 G->Zd aU T 105 #[ao #[H pd (U n.data) cd,Q D n.YS],ao #[Q D l.b.r,Q D l.b.n]] G fun v' h'=>R7 G.size h' v' n.data n.YS E2 (YR (JQ l.b))/\Zj G.size G h':=fun G hG=>by
   rw[rE];exact IL T G _ n.YS n.data l.b (by rw[<-PZ];exact N3.pt.data.bs.Yz hG) nT (tb3.tk.Qx hG)
  have wT:∀(G:Hp) (k:Nat) (m:Int) (p:Option Addr) (L c:Nat),G[k]? = O (J [H aa 0 0,Q D 0].toArray 99)->wr G ⟨k,0,aa⟩ [H p L c,Q D m]=O (G.setIfInBounds k (J [H p L c,Q D m].toArray 99)):=fun G k m p L c hx=>by
   rw[Yd hx 0 _];rfl
  unfold Qz at mU;refine VS.mono (N:=fun F' g'=>Zj g2.size g2 g'/\F' 3=Z (O ⟨h.size,0,aa⟩)/\F' 4=Z (O ⟨h.size+1,0,aa⟩)/\F' 5=Z (O ⟨h.size+2,0,aa⟩)/\F' 6=Z (O ⟨ka,0,aa⟩)/\F' 9=Z (O ⟨g1.size,0,aa⟩)/\F' 8=Q D E2/\D4 g2.size g' (F' 10) n.data n.YS E2 (YR (JQ l.b))) ?_ ?_ (fun _ _ _ h=>h) (fun _ _ h=>h)
  .refine VS.z (g2.size) [6,11] (.q 0 (.p 1 (.p 2 (.q 3 (.p 4 (.q 5 (.or 6 (.p 7 (.p 8 (.p 9 (.s 10 (.w 11 (.p 12 .nil)))))) (.s 10 (.w 6 (.p 7 (.p 8 (.p 9 (.w 11 (.p 12 .nil)))))))))))))) mixed uj ?_;simp only[go_sem,f3,f4,f5,fA,q4,zN,mU,m4,m5,Mw];unfold D4
   repeat' (first|with_reducible exact Zj.refl _ _|with_reducible exact Zj.push nT _|with_reducible refine bd ?_ ?_)
   all_goals first
    | (refine (call2 g2 (Zj.refl _ _)).use ?_
       rintro _ g5 ⟨⟨w,rfl,o1⟩,b5⟩;obtain⟨p1,c1,rfl,_⟩:=o1.bs.open;have s5:=b5.size;simp only[go_sem,b5];exact⟨f3,f4,f5,fA,_,_,rfl,s5,Zc,o1.push _⟩)
    | (refine (call2 (g2.push (J _ 99)) (Zj.push (ae _) _)).use ?_
       rintro _ g5 ⟨⟨w,rfl,o1⟩,b5⟩;obtain⟨p1,c1,rfl,_⟩:=o1.bs.open;have B5:Zj g2.size g2 g5:=(Zj.push (ae _) _).trans (b5.mono uK);have xA:=b5.get (k:=g2.size) uK Zc;have PC:=wT _ _ (if E2=0 then n.YS else 0) p1 (if E2=0 then n.data++YR (JQ l.b) else []).length c1 xA;have zA:=Za xA;simp only[go_sem,B5,PC,zA];exact⟨f3,f4,f5,fA,_,_,rfl,ae _,ZQ xA,(o1.Z9 uK _).mono uK⟩)
  .rintro F2 g3 ⟨b3,f3,f4,f5,f6,f9,f8,kt,wt,fT,ge3,yT,oT⟩;have TQ:=ZX K3.Yp b3;have N4:=N3.Zn TQ;have W4:=W3.Zn TQ;have K4:Kp WL o h o g3:=K3.Yz b3;by_cases e2:E2=0
   case neg=>
    have eP:YA n l=⟨n,[],[]⟩:=by unfold YA;rw[<-hE,if_neg nT,if_neg ep,<-rE,if_pos e2]
    rw[eP,ab];simp only[go_sem,f8,e2];exact⟨o,a,Xt,Z0 K4,N4,W4⟩
   rw[if_pos e2]at yT oT;have u3:=z3.Ze TQ;have u4:=z4.Ze TQ;have u5:=z5.Ze TQ;have u6:=z6.Ze TQ;have u7:=z7.Ze TQ;have u9:=x9.Ze TQ;have iu6:=iw6.Ze TQ;have iu7:=iw7.Ze TQ;have iT:PT o g3 wt (n.data++YR (JQ l.b)):=⟨Im.WV oT.Zm (fun b hb=>K3.Yp b hb),oT.byte⟩
   have eP:YA n l=⟨{ n with data:=n.data++YR (JQ l.b),Zp:=O (.Vy ⟨l.b,n.Zm.l⟩ l.Jp l.b n.Zm.l) },[],[]⟩:=by unfold YA;rw[<-hE,if_neg nT,if_neg ep,<-rE,if_neg nT]
   rw[eP,ab];clear R3 m3 m4 m5 m9 Mw q4 mU q9 R3p zN;obtain⟨pt,ct,rfl,_⟩:=oT.bs.open;have q4:hc g3 ⟨h.size+1,0,aa⟩=O (Zx nb):=Zl u4.2;have qT:rd g3 ⟨kt,0,aa⟩ 2=O [H pt (n.data++YR (JQ l.b)).length ct,Q D n.YS]:=Zz yT rfl;have Hx:=Za N4.ZW.2;obtain⟨g4,w4,N5,k5⟩:=Yh.write (a:={ a with data:=H pt (n.data++YR (JQ l.b)).length ct }) (n:={ n with data:=n.data++YR (JQ l.b) }) { N4.pt with data:=iT } K4.Yp N4.ZW ((XH N4.ZW.2 N4.pt.store.len).tape (H pt (n.data++YR (JQ l.b)).length ct) n.YS rfl);have v4:=u4.Ze k5;have q4':hc g4 ⟨h.size+1,0,aa⟩=O (Zx nb):=Zl v4.2;have Mx:=Za N5.ZW.2;have pn:Vu o g4 wb i nb a.Zg (T6 106 [ka,h.size+1,g1.size]) (O (.Vy ⟨l.b,n.Zm.l⟩ l.Jp l.b n.Zm.l)):=
    ⟨ka,h.size+1,g1.size,_,rfl,⟨_,u6.Ze k5,iu6.Ze k5⟩,v4,u9.Ze k5,h.size,h.size+1,h.size+2,kc,l,_,w2,rfl,u3.Ze k5,v4,u5.Ze k5,rfl,rfl,u7.Ze k5,iu7.Ze k5⟩
   obtain⟨g6,w6,N6,k6⟩:=Yh.write (a:={ a with data:=H pt (n.data++YR (JQ l.b)).length ct,Zp:=T6 106 [ka,h.size+1,g1.size] }) (n:={ n with data:=n.data++YR (JQ l.b),Zp:=O (.Vy ⟨l.b,n.Zm.l⟩ l.Jp l.b n.Zm.l) }) { N5.pt with Zp:=pn } k5.Yp N5.ZW ((XH N5.ZW.2 N5.pt.store.len).Zp (T6 106 [ka,h.size+1,g1.size]) rfl);unfold T6 at w6;simp only[be]at w6;unfold Zx at q4 q4' w6;simp only[go_sem,f8,e2,f4,f6,f9,fT,q4,qT,w4,Hx,q4',w6,Mx];have K6:Kp (fun t=>t=.world\/t=.Zo\/t=.ZV i) o h o g6:=((Z0 K4).trans (k5.mono fun t q=>.inr (.inr q))).trans (k6.mono fun t q=>.inr (.inr q));exact⟨o,_,Xt,K6,N6,(W4.Ze k5 (by rintro t rfl;simp[Tg.of])).Ze k6 (by rintro t rfl;simp[Tg.of])⟩
def ZfA(B:Nat)(g':Hp)(A:am)(p:Yn)(l:List Vt)(x:Vt):Prop:=
 ∃ka w,A=Z (O ⟨ka,0,aa⟩)/\B<=ka/\g'[ka]? = O (J (Xy (if Xi p l x=0 then x.b else ⟨0,0⟩) w).toArray 104)/\Qv B 132 Zv 8 g' w (if Xi p l x=0 then JA l x else [])
set_option maxHeartbeats 1000000 in
theorem zO(T:bc)(h:Hp)(o:Ow)(wb i nb:Nat)(YM:Nat->Nat)(a:NA)(n:Nd)(Xt:WA)(fl:List YF)(Yw:Nat->Int)(ZA:List PS)(l:YF)(w:am)(d:Vx o h)(N:Z5 o h wb i nb a n)(W:ZY o h wb YM Xt fl Yw ZA)(iv:TO o h w l.vs)(Y5:(U fl)<=1000000000000)(zf:n.Zm.l.length<=1000000)(uy:(U n.data)<=1000000)(tb:fK o h):
  Zd aU T 85 #[Zx wb,Zx nb,ao (XN l w).toArray] h fun v' h'=>∃o' a' Jv,Kp (fun t=>t=.world\/t=.Zo\/t=.ZV i) o h o' h'/\Z5 o' h' wb i nb a' (asked n l).n/\ZY o' h' wb YM Jv (fl++(asked n l).ls) Yw ZA:=by
 obtain⟨pw,cw,rfl⟩:=iv.ZO;refine Zd.XT [_,_,_] Tryz.func85 ?_;unfold Zx XN;simp only[go_sem];obtain⟨h1,Xm⟩:=ZN (((h.push (J [Zx wb].toArray 90)).push (J [Zx nb].toArray 97)).push (J (XN l (H pw (U l.vs) cw)).toArray 134):Hp);have k1:Kp WL o h o h1:=by rw[Xm];exact ((Kp.refl d _).push _ |>.push _).push _
 have s1:h1.size=h.size+3:=by rw[Xm];simp
 have d1:∀b,h.size<=b->o b=aa:=d;have x3:Ya o h1 h.size (J [Zx wb].toArray 90):=⟨d _ nT,by rw[Xm,ZI Ig,rD]⟩
 have x4:Ya o h1 (h.size+1) (J [Zx nb].toArray 97):=⟨d _ nT,by rw[Xm,ZI uK,uC]⟩
 have x5:Ya o h1 (h.size+2) (J (XN l (H pw (U l.vs) cw)).toArray 134):=⟨d _ nT,by
  have:=Zc (h:=(h.push (J [Zx wb].toArray 90)).push (J [Zx nb].toArray 97)) (o:=J (XN l (H pw (U l.vs) cw)).toArray 134);rw[Xm];simpa using this⟩
 have e0:((h.push (J [Zx wb].toArray 90)).push (J [Zx nb].toArray 97)).push (J (XN l (H pw (U l.vs) cw)).toArray 134)=h1:=Xm.symm;unfold Zx XN at e0;rw[e0];clear e0 Xm;have N1:=N.Zn k1;have W1:=W.Zn k1;have iv1:=iv.Ze k1;have R1:=ZP N1.ZW.2 N1.pt.store.len;have Q3:=Za N1.ZW.2;have l3:=Za x3.2;have l4:=Za x4.2;have l5:=Za x5.2;have r3:hc h1 ⟨h.size,0,aa⟩=O (Zx wb):=Zl x3.2;have r4:hc h1 ⟨h.size+1,0,aa⟩=O (Zx nb):=Zl x4.2;have r53:rd h1 ⟨h.size+2,5,aa⟩ 8=O (Zv l.v):=by rw[YJ x5.2 (by simp[XN])];rfl
 have r51:hc h1 ⟨h.size+2,1,aa⟩=O (Q D l.Jp):=Zl x5.2;unfold Zx at r3 r4;have FE:=R1.Zm;obtain⟨pv,cv,uD⟩:=N1.pt.XO.ZO;rw[uD]at FE;unfold Zv at r53;have call:∀G,Zj h1.size h1 G->Zd aU T 95 #[ao #[Q D n.Zm.p.r,Q D n.Zm.p.n,H pv n.Zm.l.length cv],ao (Zv l.v).toArray] G fun v' h'=>mJ G.size h' v' n.Zm.p n.Zm.l l.v/\Zj G.size G h':=fun G hG=>
  KK T G n.Zm.p _ n.Zm.l l.v (by rw[<-uD];exact N1.pt.XO.ts.Yz hG) nT
 unfold Zv at call;obtain⟨E,hE⟩:=ZN (Xi n.Zm.p n.Zm.l l.v);have wA:∀(G:Hp) (k:Nat) (r m:Int) (p:Option Addr) (L c:Nat),G[k]? = O (J [Q D 0,Q D 0,H aa 0 0].toArray 104)->wr G ⟨k,0,aa⟩ [Q D r,Q D m,H p L c]=O (G.setIfInBounds k (J [Q D r,Q D m,H p L c].toArray 104)):=fun G k r m p L c hx=>by
  rw[Yd hx 0 _];rfl
 refine VS.mono (N:=fun F' g'=>Zj h1.size h1 g'/\F' 3=Z (O ⟨h.size,0,aa⟩)/\F' 4=Z (O ⟨h.size+1,0,aa⟩)/\F' 5=Z (O ⟨h.size+2,0,aa⟩)/\F' 7=Q D E/\ZfA h1.size g' (F' 6) n.Zm.p n.Zm.l l.v) ?_ ?_ (fun _ _ _ h=>h) (fun _ _ h=>h)
 .refine VS.z (h1.size) [6,11] (.q 0 (.p 1 (.p 2 (.q 3 (.p 4 (.q 5 (.or 6 (.p 7 (.p 8 (.p 9 (.s 10 (.w 11 (.p 12 .nil)))))) (.s 10 (.w 6 (.p 7 (.p 8 (.p 9 (.w 11 (.p 12 .nil)))))))))))))) mixed uj ?_;simp only[go_sem,r4,FE,r53,Q3,l4,l5];unfold ZfA Xy
  repeat' (first|with_reducible exact Zj.refl _ _|with_reducible exact Zj.push nT _|with_reducible refine bd ?_ ?_)
  all_goals first
   | (refine (call h1 (Zj.refl _ _)).use ?_
      rintro _ g5 ⟨⟨w1,rfl,o1⟩,b5⟩;obtain⟨p1,c1,rfl,_⟩:=o1.open;rw[<-hE]at *;have s5:=b5.size;unfold Xy;simp only[go_sem,b5];exact⟨_,_,rfl,s5,Zc,o1.push _⟩)
   | (refine (call (h1.push (J _ 104)) (Zj.push (ae _) _)).use ?_
      rintro _ g5 ⟨⟨w1,rfl,o1⟩,b5⟩;obtain⟨p1,c1,rfl,_⟩:=o1.open;rw[<-hE]at *;have B5:Zj h1.size h1 g5:=(Zj.push (ae _) _).trans (b5.mono uK);have xA:=b5.get (k:=h1.size) uK Zc;have PC:=wA _ _ (if E=0 then l.v.b else ⟨0,0⟩).r (if E=0 then l.v.b else ⟨0,0⟩).n p1 (if E=0 then JA n.Zm.l l.v else []).length c1 xA;have zA:=Za xA;unfold Xy;simp only[go_sem,B5,PC,zA];exact⟨_,_,rfl,ae _,ZQ xA,(o1.Z9 uK _).mono uK⟩)
 .rintro F1 g1 ⟨b1,f3,f4,f5,f8,ka,w1,fA,ge1,yA,o1⟩;rw[<-hE]at yA o1;have kb:=ZX k1.Yp b1;have N2:=N1.Zn kb;have W2:=W1.Zn kb;have K2:Kp WL o h o g1:=k1.Yz b1;have y3:=x3.Ze kb;have y4:=x4.Ze kb;have y5:=x5.Ze kb;have uA:=iv1.Ze kb;have io:=(tb.Ze k1).Ze kb;have R2:=ZP N2.ZW.2 N2.pt.store.len;have m3:=Za y3.2;have m4:=Za y4.2;have m5:=Za y5.2;have Ug:=Za N2.ZW.2;have q3:hc g1 ⟨h.size,0,aa⟩=O (Zx wb):=Zl y3.2;have q4:hc g1 ⟨h.size+1,0,aa⟩=O (Zx nb):=Zl y4.2;have q51:hc g1 ⟨h.size+2,1,aa⟩=O (Q D l.Jp):=Zl y5.2;unfold Zx at q3 q4;have R2p:=R2.cN;by_cases e:E=0
  case neg=>
   have eP:asked n l=⟨n,[⟨7,n.me,l.Jp,n.Zm.p,SM,[]⟩],[]⟩:=by unfold asked;rw[<-hE,if_pos e]
   rw[eP];simp only[go_sem,f8,e];refine VS.z (g1.size) [10] (.q 0 (.q 1 (.p 2 (.q 3 (.q 4 (.p 5 (.p 6 (.p 7 (.q 8 (.p 9 (.w 10 .nil))))))))))) mixed uj ?_;simp only[go_sem,f3,f4,f5,q3,q4,q51,R2p,m3,m4,m5,Ug];refine (V0 T g1 o wb nb YM n.me Xt fl Yw ZA l.Jp ⟨7,0,0,n.Zm.p,SM,[]⟩ (H aa 0 0) K2.Yp W2 R2.me Ug (Im.nil _ _ _ _) Y5).use ?_;rintro v' h' ⟨o',Jv,k,_,W'⟩;simp only[go_sem];exact⟨o',a,Jv,(Z0 K2).trans (k.mono fun t q=>q.elim .inl fun q=>.inr (.inl q)),N2.Ze k (by rintro t (rfl|rfl)<;>simp[Tg.of]),W'⟩
  rw[if_pos e]at yA o1;have iv6:TO o g1 w1 (JA n.Zm.l l.v):=Im.WV o1.Zm (fun b hb=>k1.Yp b hb);simp only[go_sem,f8,e,f3,f4,f5];obtain⟨g2,WB⟩:=ZN (g1.push (J [T6 109 [h.size,h.size+1,h.size+2]].toArray 1):Hp);have k2:=Yu K2.Yp (J [T6 109 [h.size,h.size+1,h.size+2]].toArray 1);rw[<-WB]at k2;have K3:Kp WL o h o g2:=K2.trans k2;have x9:Ya o g2 g1.size (J [T6 109 [h.size,h.size+1,h.size+2]].toArray 1):=⟨K2.Yp _ (ae _),by rw[WB];exact Zc⟩
  have e2:g1.push (J [T6 109 [h.size,h.size+1,h.size+2]].toArray 1)=g2:=WB.symm;unfold T6 at e2;simp only[be]at e2;unfold Zx at e2;rw[e2];clear e2 WB;have N3:=N2.Zn k2;have W3:=W2.Zn k2;have z3:=y3.Ze k2;have z4:=y4.Ze k2;have z5:=y5.Ze k2;have z6:=(show Ya o g1 ka _ from⟨k1.Yp ka ge1,yA⟩).Ze k2;have iw6:=iv6.Ze k2;have tb3:=io.Ze k2;clear R2 R2p m3 m4 m5 Ug q3 q4 q51 R1 FE Q3 l3 l4 l5 r3 r4 r53 r51;have R3:=ZP N3.ZW.2 N3.pt.store.len;have m3:=Za z3.2;have m4:=Za z4.2;have m5:=Za z5.2;have m9:=Za x9.2;have Mw:=Za N3.ZW.2;have q4:hc g2 ⟨h.size+1,0,aa⟩=O (Zx nb):=Zl z4.2;have mU:rd g2 ⟨h.size+2,5,aa⟩ 8=O (Zv l.v):=by rw[YJ z5.2 (by simp[XN])];rfl
  have q9:hc g2 ⟨g1.size,0,aa⟩=O (T6 109 [h.size,h.size+1,h.size+2]):=Zl x9.2;have R3v:=R3.XO;have N3v:=N3.pt.XO;unfold Zx at q4;unfold Zv at mU;refine VS.mono (N:=fun F' g'=>Zj g2.size g2 g'/\F' 3=Z (O ⟨h.size,0,aa⟩)/\F' 4=Z (O ⟨h.size+1,0,aa⟩)/\F' 5=Z (O ⟨h.size+2,0,aa⟩)/\F' 6=Z (O ⟨ka,0,aa⟩)/\F' 8=Z (O ⟨g1.size,0,aa⟩)/\F' 41=a8 (decide (l.v∈n.Zm.l))) ?_ ?_ (fun _ _ _ h=>h) (fun _ _ h=>h)
  .refine VS.z (g2.size) [7] (.q 0 (.p 1 (.p 2 (.p 3 (.q 4 (.p 5 (.q 6 (.w 7 .nil)))))))) mixed uj ?_;simp only[go_sem,f3,f4,f5,fA,q4,mU,R3v,m4,m5,Mw];have cv:=E8 T g2 a.XO n.Zm.l l.v N3v.ts nT;unfold Zv at cv;refine cv.use ?_;rintro _ g5 ⟨rfl,b5⟩;simp only[go_sem,b5,f3,f4,f5,fA]
  rintro F1' cW ⟨uk,f3,f4,f5,fA,f9,f41⟩;have Nw:=ZX K3.Yp uk
  replace N3:=N3.Zn Nw
  replace W3:=W3.Zn Nw
  replace K3:=K3.trans Nw
  replace z3:=z3.Ze Nw
  replace z4:=z4.Ze Nw
  replace z5:=z5.Ze Nw
  replace z6:=z6.Ze Nw
  replace iw6:=iw6.Ze Nw
  replace tb3:=tb3.Ze Nw
  replace x9:=x9.Ze Nw
  clear R3 m3 m4 m5 m9 Mw q4 mU q9 R3v N3v;have R3:=ZP N3.ZW.2 N3.pt.store.len;have m3:=Za z3.2;have m4:=Za z4.2;have m5:=Za z5.2;have m9:=Za x9.2;have Mw:=Za N3.ZW.2;have q4:hc cW ⟨h.size+1,0,aa⟩=O (Zx nb):=Zl z4.2;have mU:rd cW ⟨h.size+2,5,aa⟩ 8=O (Zv l.v):=by rw[YJ z5.2 (by simp[XN])];rfl
  have q9:hc cW ⟨g1.size,0,aa⟩=O (T6 109 [h.size,h.size+1,h.size+2]):=Zl x9.2;unfold Zx at q4;by_cases ep:l.v∈n.Zm.l
  .have eP:asked n l=⟨n,[⟨3,n.me,l.Jp,Jg,l.v,[]⟩],[]⟩:=by unfold asked;rw[<-hE,if_neg nT,if_pos ep]
   rw[eP];unfold T6 at q9;simp only[be]at q9;unfold Zx at q9;simp only[go_sem,f41,ep,f9,q9];refine (mR T cW o wb nb YM n.me Xt fl Yw ZA h.size (h.size+1) (h.size+2) l _ K3.Yp W3 R3.me Mw Y5 z3 z4 z5).use ?_;rintro v' h' ⟨o',Jv,k,W'⟩;simp only[go_sem];exact⟨o',a,Jv,(Z0 K3).trans (k.mono fun t q=>q.elim .inl fun q=>.inr (.inl q)),N3.Ze k (by rintro t (rfl|rfl)<;>simp[Tg.of]),W'⟩
  simp only[go_sem,f41,ep];have zN:=R3.tape;obtain⟨pd,cd,PZ⟩:=N3.pt.data.1.ZO;rw[PZ]at zN;obtain⟨E2,rE⟩:=ZN (QW n.data n.YS l.v);have call2:∀G,Zj cW.size cW G->Zd aU T 111 #[ao #[H pd (U n.data) cd,Q D n.YS],ao (Zv l.v).toArray] G fun v' h'=>R7 G.size h' v' n.data n.YS E2 (YR (Uq l.v))/\Zj G.size G h':=fun G hG=>by
   rw[rE];exact zk T G _ n.YS n.data l.v (by rw[<-PZ];exact N3.pt.data.bs.Yz hG) nT (tb3.tk.Qx hG)
  have wT:∀(G:Hp) (k:Nat) (m:Int) (p:Option Addr) (L c:Nat),G[k]? = O (J [H aa 0 0,Q D 0].toArray 99)->wr G ⟨k,0,aa⟩ [H p L c,Q D m]=O (G.setIfInBounds k (J [H p L c,Q D m].toArray 99)):=fun G k m p L c hx=>by
   rw[Yd hx 0 _];rfl
  unfold Zv at mU call2;refine VS.mono (N:=fun F' g'=>Zj cW.size cW g'/\F' 3=Z (O ⟨h.size,0,aa⟩)/\F' 4=Z (O ⟨h.size+1,0,aa⟩)/\F' 5=Z (O ⟨h.size+2,0,aa⟩)/\F' 6=Z (O ⟨ka,0,aa⟩)/\F' 8=Z (O ⟨g1.size,0,aa⟩)/\F' 7=Q D E2/\D4 cW.size g' (F' 9) n.data n.YS E2 (YR (Uq l.v))) ?_ ?_ (fun _ _ _ h=>h) (fun _ _ h=>h)
  .refine VS.z (cW.size) [6,11] (.q 0 (.p 1 (.p 2 (.q 3 (.p 4 (.q 5 (.or 6 (.p 7 (.p 8 (.p 9 (.s 10 (.w 11 (.p 12 .nil)))))) (.s 10 (.w 6 (.p 7 (.p 8 (.p 9 (.w 11 (.p 12 .nil)))))))))))))) mixed uj ?_;simp only[go_sem,f3,f4,f5,fA,f9,q4,zN,mU,m4,m5,Mw];unfold D4
   repeat' (first|with_reducible exact Zj.refl _ _|with_reducible exact Zj.push nT _|with_reducible refine bd ?_ ?_)
   all_goals first
    | (refine (call2 cW (Zj.refl _ _)).use ?_
       rintro _ g5 ⟨⟨w,rfl,o1⟩,b5⟩;obtain⟨p1,c1,rfl,_⟩:=o1.bs.open;have s5:=b5.size;simp only[go_sem,b5];exact⟨f3,f4,f5,fA,f9,_,_,rfl,s5,Zc,o1.push _⟩)
    | (refine (call2 (cW.push (J _ 99)) (Zj.push (ae _) _)).use ?_
       rintro _ g5 ⟨⟨w,rfl,o1⟩,b5⟩;obtain⟨p1,c1,rfl,_⟩:=o1.bs.open;have B5:Zj cW.size cW g5:=(Zj.push (ae _) _).trans (b5.mono uK);have xA:=b5.get (k:=cW.size) uK Zc;have PC:=wT _ _ (if E2=0 then n.YS else 0) p1 (if E2=0 then n.data++YR (Uq l.v) else []).length c1 xA;have zA:=Za xA;simp only[go_sem,B5,PC,zA];exact⟨f3,f4,f5,fA,f9,_,_,rfl,ae _,ZQ xA,(o1.Z9 uK _).mono uK⟩)
  .rintro F2 g3 ⟨b3,f3,f4,f5,f6,f9,f8,kt,wt,fT,ge3,yT,oT⟩;have TQ:=ZX K3.Yp b3;have N4:=N3.Zn TQ;have W4:=W3.Zn TQ;have K4:Kp WL o h o g3:=K3.Yz b3;by_cases e2:E2=0
   case neg=>
    have eP:asked n l=⟨n,[],[]⟩:=by unfold asked;rw[<-hE,if_neg nT,if_neg ep,<-rE,if_pos e2]
    rw[eP,ab];simp only[go_sem,f8,e2];exact⟨o,a,Xt,Z0 K4,N4,W4⟩
   rw[if_pos e2]at yT oT;have u3:=z3.Ze TQ;have u4:=z4.Ze TQ;have u5:=z5.Ze TQ;have u6:=z6.Ze TQ;have u9:=x9.Ze TQ;have iu6:=iw6.Ze TQ;have iT:PT o g3 wt (n.data++YR (Uq l.v)):=⟨Im.WV oT.Zm (fun b hb=>K3.Yp b hb),oT.byte⟩
   have eP:asked n l=⟨{ n with data:=n.data++YR (Uq l.v),Zp:=O (.TC ⟨l.v.b,JA n.Zm.l l.v⟩ l.Jp l.v) },[],[]⟩:=by unfold asked;rw[<-hE,if_neg nT,if_neg ep,<-rE,if_neg nT]
   rw[eP,ab];clear R3 m3 m4 m5 m9 Mw q4 mU q9 zN;obtain⟨pt,ct,rfl,_⟩:=oT.bs.open;have q4:hc g3 ⟨h.size+1,0,aa⟩=O (Zx nb):=Zl u4.2;have qT:rd g3 ⟨kt,0,aa⟩ 2=O [H pt (n.data++YR (Uq l.v)).length ct,Q D n.YS]:=Zz yT rfl;have Hx:=Za N4.ZW.2;obtain⟨g4,w4,N5,k5⟩:=Yh.write (a:={ a with data:=H pt (n.data++YR (Uq l.v)).length ct }) (n:={ n with data:=n.data++YR (Uq l.v) }) { N4.pt with data:=iT } K4.Yp N4.ZW ((XH N4.ZW.2 N4.pt.store.len).tape (H pt (n.data++YR (Uq l.v)).length ct) n.YS rfl);have v4:=u4.Ze k5;have q4':hc g4 ⟨h.size+1,0,aa⟩=O (Zx nb):=Zl v4.2;have Mx:=Za N5.ZW.2;have pn:Vu o g4 wb i nb a.Zg (T6 112 [ka,h.size+1,g1.size]) (O (.TC ⟨l.v.b,JA n.Zm.l l.v⟩ l.Jp l.v)):=
    ⟨ka,h.size+1,g1.size,_,rfl,⟨_,u6.Ze k5,iu6.Ze k5⟩,v4,u9.Ze k5,h.size,h.size+1,h.size+2,l,_,rfl,u3.Ze k5,v4,u5.Ze k5,rfl,rfl⟩
   obtain⟨g6,w6,N6,k6⟩:=Yh.write (a:={ a with data:=H pt (n.data++YR (Uq l.v)).length ct,Zp:=T6 112 [ka,h.size+1,g1.size] }) (n:={ n with data:=n.data++YR (Uq l.v),Zp:=O (.TC ⟨l.v.b,JA n.Zm.l l.v⟩ l.Jp l.v) }) { N5.pt with Zp:=pn } k5.Yp N5.ZW ((XH N5.ZW.2 N5.pt.store.len).Zp (T6 112 [ka,h.size+1,g1.size]) rfl);unfold T6 at w6;simp only[be]at w6;unfold Zx at q4 q4' w6;simp only[go_sem,f8,e2,f4,f6,f9,fT,q4,qT,w4,Hx,q4',w6,Mx];have K6:Kp (fun t=>t=.world\/t=.Zo\/t=.ZV i) o h o g6:=((Z0 K4).trans (k5.mono fun t q=>.inr (.inr q))).trans (k6.mono fun t q=>.inr (.inr q));exact⟨o,_,Xt,K6,N6,(W4.Ze k5 (by rintro t rfl;simp[Tg.of])).Ze k6 (by rintro t rfl;simp[Tg.of])⟩
theorem WK.Yg{o:Ow}{i:Nat}{h:Hp}{sv:List (Int × Nat)}{vt:List (Int × List (Int × Unit))}(s:WK o i h sv vt)(k:Int):(Go.V.Yg sv k=aa/\Go.V.Yg vt k=aa)\/∃b l,Go.V.Yg sv k=O b/\Go.V.Yg vt k=O l/\U6 o (.Pf i k) h b (Ht l):=by
 induction s with
 | nil=>exact .inl ⟨rfl,rfl⟩
 | @cons a b l m CT _ ih=>
  obtain⟨a1,a2⟩:=a;obtain⟨b1,b2⟩:=b;obtain⟨rfl,h2⟩:=CT;unfold Go.V.Yg;by_cases q:a1=k
  .rw[if_pos q,if_pos q];subst q;exact .inr ⟨_,_,rfl,rfl,h2⟩
  .rw[if_neg q,if_neg q];exact ih
theorem WK.add{o:Ow}{i:Nat}{h:Hp}{k:Int}{b:Nat}{l:List (Int × Unit)}(hb:U6 o (.Pf i k) h b (Ht l)):∀{sv:List (Int × Nat)} {vt:List (Int × List (Int × Unit))},WK o i h sv vt->Go.V.Yg sv k=aa->WK o i h (ins sv k b) (ins vt k l):=by
 intro sv vt s
 induction s with
 | nil=>intro _;exact .cons ⟨rfl,hb⟩ .nil
 | @cons a b l m CT _ ih=>
  intro hn;obtain⟨a1,a2⟩:=a;obtain⟨b1,b2⟩:=b;obtain⟨rfl,h2⟩:=CT;unfold Go.V.Yg at hn;split at hn
  .cases hn
  .rename_i q;unfold ins;rw[if_neg q,if_neg q];exact .cons ⟨rfl,h2⟩ (ih hn)
theorem WK.put{o:Ow}{i:Nat}{h h':Hp}{k:Int}{b:Nat}{l':List (Int × Unit)}(kp:Kp (fun t=>t=.Pf i k) o h o h')(hb:U6 o (.Pf i k) h' b (Ht l')):∀{sv:List (Int × Nat)} {vt:List (Int × List (Int × Unit))},WK o i h sv vt->(sv.map (·.1)).Nodup->Go.V.Yg sv k=O b->WK o i h' sv (ins vt k l'):=by
 intro sv vt s
 induction s with
 | nil=>intro _ h;cases h
 | @cons a c l m CT tl ih=>
  intro hn hl;obtain⟨a1,a2⟩:=a;obtain⟨b1,b2⟩:=c;obtain⟨h1,h2⟩:=CT;simp only at h1 h2;subst h1;simp only[a9,ba]at hn;unfold Go.V.Yg at hl;unfold ins;by_cases q:a1=k
  .rw[if_pos q]at hl ⊢;subst q;obtain rfl:=Option.some.inj hl;refine .cons ⟨rfl,hb⟩ ?_;have key:∀{l:List (Int × Nat)} {m:List (Int × List (Int × Unit))},WK o i h l m->a1 ∉ l.map (·.1)->WK o i h' l m:=by
    intro l m s
    induction s with
    | nil=>intro _;exact .nil
    | @cons x y l m hxy _ ih2=>
     intro hn;simp only[a9,bl,not_or]at hn;exact .cons ⟨hxy.1,hxy.2.Ze kp (by intro e;cases e;exact hn.1 hxy.1.symm)⟩ (ih2 hn.2)
   exact key tl hn.1
  .rw[if_neg q]at hl ⊢;exact .cons ⟨rfl,h2.Ze kp (by intro e;cases e;exact q rfl)⟩ (ih hn.2 hl)
theorem cX{β:Type}:∀{l:List (Int × β)} {k:Int} {v:β},(l.map (·.1)).Nodup->((ins l k v).map (·.1)).Nodup/\∀x,x∈(ins l k v).map (·.1)->x=k\/x∈l.map (·.1):=by
 intro l
 induction l with
 | nil=>intro k v _;exact⟨by simp[ins],fun x hx=>by simp[ins]at hx;exact .inl hx⟩
 | cons a l ih=>
  intro k v hn;obtain⟨a1,a2⟩:=a;simp only[a9,ba]at hn;unfold ins;by_cases q:a1=k
  .rw[if_pos q];exact⟨by simp only[a9,ba];exact hn,fun x hx=>.inr hx⟩
  .rw[if_neg q];obtain⟨h1,h2⟩:=ih (k:=k) (v:=v) hn.2;refine⟨?_,fun x hx=>?_⟩
   .simp only[a9,ba];exact⟨fun hm=>(h2 _ hm).elim q hn.1,h1⟩
   .simp only[a9,bl]at hx ⊢;rcases hx with hx|hx
    .exact .inr (.inl hx)
    .exact (h2 _ hx).elim .inl fun q=>.inr (.inr q)
theorem ZdG{β:Type}:∀(l:List (Int × β)) (k:Int) (u v:β),ins (ins l k u) k v=ins l k v:=by
 intro l
 induction l with
 | nil=>intro k u v;unfold ins;simp[ins]
 | cons a l ih=>
  intro k u v;obtain⟨a1,a2⟩:=a;have h1:∀(x:Int) (y z:β) (m:List (Int × β)),ins ((x,y) :: m) k z=if x=k then (x,z) :: m else (x,y) :: ins m k z:=fun _ _ _ _=>rfl
  rw[h1,h1];by_cases q:a1=k
  .rw[if_pos q,if_pos q,h1,if_pos q]
  .rw[if_neg q,if_neg q,h1,if_neg q,ih]
theorem Xx.zQ{o:Ow}{i:Nat}{h:Hp}{ra:RA}{r:Xw}(s:Xx o i h ra r)(d:Vx o h){k:Int}{b:Nat}{l l':List (Int × Unit)}(hl:Yg ra.sv k=O b)(hb:U6 o (.Pf i k) h b (Ht l)):
  Kp (fun t=>t=.Pf i k) o h o (h.setIfInBounds b (Jm (Ht l')))/\Xx o i (h.setIfInBounds b (Jm (Ht l'))) ra { r with YZ:=ins r.YZ k l' }:=by
 have kk:Kp (fun t=>t=.Pf i k) o h o (h.setIfInBounds b (Jm (Ht l'))):=(Kp.refl d (fun t=>t=.Pf i k)).set hb.1 rfl _;exact⟨kk,s.ZW.Ze kk Hy,s.ZF.Ze kk Hy,s.OI.Ze kk,s.ZT.Ze kk Hy,s.YZ.Ze kk Hy,WK.put kk ⟨hb.1,ZQ hb.2⟩ s.Rw s.keys hl,s.keys⟩
def rF(i:Nat)(t:Tg):Prop:=Wv i t\/JV i t
set_option maxHeartbeats 1000000 in
theorem IW(T:bc)(h:Hp)(o:Ow)(wb i nb:Nat)(YM:Nat->Nat)(a:NA)(n:Nd)(Xt:WA)(fl:List YF)(Yw:Nat->Int)(ZA:List PS)(l:YF)(w:am)(d:Vx o h)(N:Z5 o h wb i nb a n)(W:ZY o h wb YM Xt fl Yw ZA)(iv:TO o h w l.vs)(hk:n.Zh.length<=100000000000)(hl:n.Zw.length<=100000000000)(ht:(U ZA)<=100000000000)(hq:n.Zr.length<=1000000000000)(hw:n.Zi.length<=1000000000000)(hv:∀r s,n.Zg=O r->((Yg r.YZ s).getD []).length<=1000000):
  Zd aU T 84 #[Zx wb,Zx nb,ao (XN l w).toArray] h fun v' h'=>∃o' a' Jv,Kp (rF i) o h o' h'/\Z5 o' h' wb i nb a' (Ym n l).n/\ZY o' h' wb YM Jv fl Yw (ZA++(Ym n l).ts):=by
 obtain⟨pw,cw,rfl⟩:=iv.ZO;refine Zd.XT [_,_,_] Tryz.func84 ?_;unfold Zx XN;have TU:=Za N.ZW.2;have R:=ZP N.ZW.2 N.pt.store.len;obtain⟨h1,Xm⟩:=ZN (h.push (J (XN l (H pw (U l.vs) cw)).toArray 134):Hp);have k1:Kp WL o h o h1:=by rw[Xm];exact Yu d _
 have x5:Ya o h1 h.size (J (XN l (H pw (U l.vs) cw)).toArray 134):=⟨d _ (ae _),by rw[Xm];exact Zc⟩
 have e0:=Xm.symm;unfold XN at e0;have N1:=N.Zn k1;have W1:=W.Zn k1;have iv1:=iv.Ze k1;have R1:=ZP N1.ZW.2 N1.pt.store.len;have Q3:=Za N1.ZW.2;have m5:=Za x5.2;have q0:hc h1 ⟨h.size,0,aa⟩=O (Q D l.ZR):=Zl x5.2;have q1:hc h1 ⟨h.size,1,aa⟩=O (Q D l.Jp):=Zl x5.2;have q3:rd h1 ⟨h.size,3,aa⟩ 2=O (Qz l.b):=by rw[YJ x5.2 (by simp[XN])];rfl
 have q5:hc h1 ⟨h.size,5,aa⟩=O (Q D l.v.Zt):=Zl x5.2;have q6:rd h1 ⟨h.size,6,aa⟩ 2=O (Qz l.v.b):=by rw[YJ x5.2 (by simp[XN])];rfl
 have q13:hc h1 ⟨h.size,13,aa⟩=O (H pw (U l.vs) cw):=Zl x5.2;have uE:=N1.pt.Zg;have hR9:=R.Zg
 cases hr:n.Zg with
 | none=>
  cases har:a.Zg with
  | some ra=>rw[hr,har]at uE;exact uE.elim
  | none=>
   have eP:Ym n l=⟨n,[],[]⟩:=by unfold Ym;rw[hr]
   rw[har]at hR9;unfold Mv at hR9;rw[eP,ab];simp only[go_sem,hR9];rw[e0];exact⟨o,a,Xt,Z0 k1,N1,W1⟩
 | some r=>
  cases har:a.Zg with
  | none=>rw[hr,har]at uE;exact uE.elim
  | some ra=>
   rw[hr,har]at uE;have RG:Xx o i h1 ra r:=uE;rw[har]at hR9;unfold Mv Zx at hR9;have mrb:=Za RG.ZW.2;have rr0:rd h1 ⟨ra.rb,0,aa⟩ 2=O (Qz r.b):=by rw[YJ RG.ZW.2 (by simp[jx])];rfl
   have rr2:hc h1 ⟨ra.rb,2,aa⟩=O (.map (O ra.pb)):=Zl RG.ZW.2;have rr5:hc h1 ⟨ra.rb,5,aa⟩=O (.map (O ra.vb)):=Zl RG.ZW.2;by_cases c1:l.ZR=1
   .have c1b:=eq_true c1;simp only[go_sem,hR9,c1b];rw[e0];refine VS.q mixed uj ?_;simp only[go_sem,q3,rr0];by_cases c2:l.b=r.b
    .have eP:Ym n l=⟨Zdv n r l,[],[]⟩:=by unfold Ym;rw[hr];simp only;rw[if_pos c1,if_pos c2]
     rw[eP,ab];have c2b:=eq_true c2;simp only[go_sem,c2b];refine VS.z (h1.size) [8] (.p 0 (.p 1 (.p 2 (.q 3 (.p 4 (.q 5 (.p 6 (.q 7 (.w 8 .nil))))))))) mixed uj ?_;simp only[go_sem,rr2,q1,q13,mrb,m5];rw[Qa IP RG.ZF.2];simp only[go_sem];obtain⟨k2,R2⟩:=RG.mS k1.Yp (k:=l.Jp) iv1;refine⟨o,{ a with Zg:=O { ra with pv:=ins ra.pv l.Jp (H pw (U l.vs) cw) } },Xt,(Z0 k1).trans (k2.mono fun t q=>.inr (.inr (.inl q))),⟨?_,?_⟩,W1.Ze k2 (by rintro t rfl;simp[Tg.of])⟩
     .have:=N1.ZW.Ze k2 Hy;rw[<-IV (O { r with ZF:=ins r.ZF l.Jp l.vs }) har (ra':={ ra with pv:=ins ra.pv l.Jp (H pw (U l.vs) cw) }) rfl]at this;exact this
     .exact Yh.U7 N1.pt (k2.mono fun t q=>.inr (.inl q)) har rfl R2
    .have eP:Ym n l=⟨n,[],[]⟩:=by unfold Ym;rw[hr];simp only;rw[if_pos c1,if_neg c2]
     rw[eP,ab];simp only[go_sem,c2];exact⟨o,a,Xt,Z0 k1,N1,W1⟩
   .simp only[go_sem,hR9,c1];rw[e0];refine VS.q mixed uj ?_;simp only[go_sem,q6,rr0];by_cases c2:l.v.b=r.b
    case neg=>
     have eP:Ym n l=⟨n,[],[]⟩:=by unfold Ym;rw[hr];simp only;rw[if_neg c1,if_pos c2]
     rw[eP,ab];simp only[go_sem,c2];exact⟨o,a,Xt,Z0 k1,N1,W1⟩
    have eP:Ym n l=if 5<2*(QY r l).length then X8 (TD n r l) l.v.Zt l.v.cm else ⟨TD n r l,[],[]⟩:=by unfold Ym;rw[hr];simp only;rw[if_neg c1,if_neg (fun q=>q c2)]
    rw[eP];have hvr:=hv r l.v.Zt hr;have c2b:=eq_true c2;have lk:=fun (K:am->Hp->Prop)=>Y9 (K:=K) (n:=l.v.Zt) (c:=false) Fx DW RG.YZ.2;rw[Jl]at lk;obtain⟨S,hS⟩:=ZN ((Yg r.YZ l.v.Zt).getD []);have hlen:(U S)<=1000000:=by rw[hS];exact hvr
    have NA1:Z5 o h1 wb i nb { a with Zg:=O ra } { n with Zg:=O r }:=by
     have e1:({ a with Zg:=O ra }:NA)=a:=by rw[<-har]
     have e2:({ n with Zg:=O r }:Nd)=n:=by rw[<-hr]
     rw[e1,e2];exact N1
    have KG:Kp (rF i) o h o h1:=Z0 k1;have ZdI:=hR9;rcases RG.Rw.Yg l.v.Zt with⟨e1,e2⟩|⟨sb,S',e1,e2,hsb⟩
    .have hS0:S=[]:=by rw[hS,e2];rfl
     rw[e1]at lk;simp only[a7,a5,a3,if_false]at lk
     -- the new set
     obtain⟨h2,VZ⟩:=ZN (h1.push (Jm []):Hp);have eh2:h1.push (.map #[] 0)=h2:=VZ.symm;have k2a:Kp (JV i) o h1 (QS o h1.size (.Pf i l.v.Zt)) h2:=by
      rw[VZ];exact ((Kp.refl k1.Yp _).push _).Oh (ae _) uK (.inr (.inr (.inr (.inr ⟨_,rfl⟩))))
     have kx:Kp WL o h1 o h2:=by rw[VZ];exact Yu k1.Yp _
     have RGx:=RG.Ze kx (fun _ _ q=>q);have lo:∀b,b<h1.size->QS o h1.size (.Pf i l.v.Zt) b=o b:=fun b hb=>XY nT;obtain⟨o2,uw⟩:=ZN (QS o h1.size (.Pf i l.v.Zt));rw[<-uw]at k2a lo;have RGy:Xx o2 i h2 ra r:=by
      have lt:∀{b:Nat} {x:Obj},h1[b]? = O x->b<h1.size:=Za;refine⟨⟨(lo _ (Za RG.ZW.2)).trans RG.ZW.1,RGx.ZW.2⟩,⟨(lo _ (Za RG.ZF.2)).trans RG.ZF.1,RGx.ZF.2⟩,RG.OI.Ze k2a,⟨(lo _ (Za RG.ZT.2)).trans RG.ZT.1,RGx.ZT.2⟩,⟨(lo _ (Za RG.YZ.2)).trans RG.YZ.1,RGx.YZ.2⟩,?_,RG.keys⟩;have key:∀{sv:List (Int × Nat)} {vt:List (Int × List (Int × Unit))},WK o i h1 sv vt->WK o2 i h2 sv vt:=by
       intro sv vt s
       induction s with
       | nil=>exact .nil
       | cons x _ ih=>exact .cons ⟨x.1,⟨(lo _ (Za x.2.2)).trans x.2.1,(x.2.Ze kx id).2⟩⟩ ih
      exact key RG.Rw
     have ms:U6 o2 (.Pf i l.v.Zt) h2 h1.size (Ht []):=⟨by rw[uw];exact XR,by rw[VZ];exact Zc⟩
     have ZHG:ra.rb<h2.size:=by have:=kx.size;omega
     simp only[go_sem,hR9,c2b,q5,rr5,lk,mpV];rw[eh2,Qa Fx RGy.YZ.2];obtain⟨G,hG⟩:=ZN (h2.setIfInBounds ra.vb (Jm (ins (VC mpV ra.sv) l.v.Zt (.map (O h1.size)))));rw[<-hG];obtain⟨qS,ZhJ⟩:∃qS:RA,qS = { ra with sv:=ins ra.sv l.v.Zt h1.size }:=⟨_,rfl⟩
     have kk:Kp (fun t=>t=.YZ i) o2 h2 o2 G:=by rw[hG];exact (Kp.refl k2a.Yp (fun t=>t=.YZ i)).set RGy.YZ.1 rfl _
     have RGG:Xx o2 i G qS { r with YZ:=ins r.YZ l.v.Zt [] }:=by
      rw[ZhJ];refine⟨RGy.ZW.Ze kk Hy,RGy.ZF.Ze kk Hy,RGy.OI.Ze kk,RGy.ZT.Ze kk Hy,⟨RGy.YZ.1,?_⟩,(WK.add ms RGy.Rw e1).Ze kk (fun _ e=>by cases e),(cX RG.keys).1⟩;show G[ra.vb]? = O (Jm (VC mpV (ins ra.sv l.v.Zt h1.size)));rw[hG,ZQ RGy.YZ.2,Of];rfl
     have k2b:Kp (JV i) o h1 o2 G:=k2a.trans (kk.mono fun t q=>.inr (.inr (.inr (.inl q))));have cY:qS.rb=ra.rb:=by rw[ZhJ]
     have NG:Z5 o2 G wb i nb { a with Zg:=O qS } { n with Zg:=O { r with YZ:=ins r.YZ l.v.Zt [] } }:=by
      refine⟨?_,Yh.U7 NA1.pt k2b rfl cY RGG⟩;have:=NA1.ZW.Ze k2b (by rintro (q|q|q|q|⟨_,q⟩)<;>cases q);rw[show X9 { n with Zg:=O { r with YZ:=ins r.YZ l.v.Zt [] } } { a with Zg:=O qS } = X9 { n with Zg:=O r } { a with Zg:=O ra } from by unfold X9 VL Mv;simp only[cY]];exact this
     have WG:=W1.Ze k2b (by intro t q;rw[KL q];simp);have XG:=x5.Ze k2b;have KG2:Kp (rF i) o h o2 G:=(Z0 k1).trans (k2b.mono fun t q=>.inr q);have LKS:Yg qS.sv l.v.Zt=O h1.size:=by rw[ZhJ];simp[Xb]
     have SB:U6 o2 (.Pf i l.v.Zt) G h1.size (Ht S):=by rw[hS0];exact ms.Ze kk Hy
     have Q5:hc G ⟨h.size,5,aa⟩=O (Q D l.v.Zt):=Zl XG.2;have Q1:hc G ⟨h.size,1,aa⟩=O (Q D l.Jp):=Zl XG.2;have RR5:hc G ⟨ra.rb,5,aa⟩=O (.map (O qS.vb)):=by rw[<-cY];exact Zl RGG.ZW.2
     have MRB:ra.rb<G.size:=by rw[<-cY];exact Za RGG.ZW.2
     have M5:=Za XG.2;have LK:=fun (K:am->Hp->Prop)=>Y9 (K:=K) (n:=l.v.Zt) (c:=false) Fx DW RGG.YZ.2;rw[Jl]at LK;simp only[LKS,a0,aw,a3,if_false,mpV]at LK;simp only[go_sem];refine VS.z (G.size) [9] (.p 0 (.p 1 (.p 2 (.q 3 (.p 4 (.p 6 (.q 7 (.p 8 (.s 5 (.w 9 .nil)))))))))) mixed uj ?_;simp only[go_sem,ZdI,c2b,Q5,Q1,RR5,LK,MRB,M5];rw[Qa DU SB.2];obtain⟨k2,RG2⟩:=RGG.zQ KG2.Yp (l':=ins S l.Jp ()) LKS SB;rw[show Jm (ins (Ht S) l.Jp (ao #[]))=Jm (Ht (ins S l.Jp ())) from by unfold Ht;rw[Of]];obtain⟨g2,WB⟩:=ZN (G.setIfInBounds h1.size (Jm (Ht (ins S l.Jp ()))));rw[<-WB]at k2 RG2 ⊢;have eV:({ r with YZ:=ins r.YZ l.v.Zt (QY r l) }:Xw) = { ({ r with YZ:=ins r.YZ l.v.Zt [] }:Xw) with YZ:=ins (ins r.YZ l.v.Zt []) l.v.Zt (ins S l.Jp ()) }:=by unfold QY;rw[hS,ZdG]
     have K2:Kp (rF i) o2 G o2 g2:=k2.mono fun t q=>.inr (.inr (.inr (.inr (.inr ⟨_,q⟩))));have N2:Z5 o2 g2 wb i nb { a with Zg:=O qS } (TD n r l):=by
      refine⟨?_,?_⟩
      .have:=NG.ZW.Ze k2 Hy;exact this
      .have:=Yh.U7 NG.pt (k2.mono fun t q=>.inr (.inr (.inr (.inr ⟨_,q⟩)))) rfl rfl RG2;unfold TD;rw[eV];exact this
     have W2:=WG.Ze k2 (by rintro t rfl;simp[Tg.of]);have x2:=XG.Ze k2;have p0:rd g2 ⟨h.size,8,aa⟩ 5=O l.v.cm.C:=by rw[YJ x2.2 (by simp[XN])];rfl
     have p5:hc g2 ⟨qS.rb,5,aa⟩=O (.map (O qS.vb)):=Zl RG2.ZW.2;rw[cY]at p5;have p6:=fun (K:am->Hp->Prop)=>Y9 (K:=K) (n:=l.v.Zt) (c:=false) Fx DW RG2.YZ.2;rw[Jl]at p6;simp only[LKS,a0,aw,a3,if_false]at p6;have SB2:U6 o2 (.Pf i l.v.Zt) g2 h1.size (Ht (ins S l.Jp ())):=⟨SB.1,by rw[WB];exact ZQ SB.2⟩
     have p7:=fun (K:am->Hp->Prop) (cs:Array Bool) (ty:bh)=>RS (T:=T) (K:=K) (ty:=ty) (cs:=cs) DU SB2.2;have p8:(Ht (ins S l.Jp ())).length=(QY r l).length:=by unfold Ht QY;rw[Iu,hS]
     rw[p8]at p7;simp only[go_sem,ZdI,c2b,p5,p6,p7,mpV];refine (H6 T g2 (QY r l).length (by unfold QY;rw[<-hS,Mh];split<;>omega)).use ?_;rintro _ _ ⟨rfl,rfl⟩;by_cases c3:5<2*(QY r l).length
     .rw[if_pos c3];simp only[go_sem,c3,p0];refine (FC T _ o2 wb i nb YM _ _ Xt fl Yw ZA l.v.Zt l.v.cm k2.Yp N2 W2 hk hl ht hq hw).use ?_;rintro v' h' ⟨o',a',Jv,kl,N',W'⟩;simp only[go_sem];exact⟨o',a',Jv,(KG2.trans K2).trans (kl.mono fun t q=>.inl q),N',W'⟩
     .rw[if_neg c3,ab];simp only[go_sem,c3];exact⟨o2,_,Xt,KG2.trans K2,N2,W2⟩
    .have hS0:S=S':=by rw[hS,e2];rfl
     subst hS0;rw[e1]at lk;simp only[a0,aw,a3,if_false]at lk;simp only[go_sem,c2b,q5,rr5,lk,mpV,hR9];have SV:=fun (K:am->Hp->Prop)=>Y9 (K:=K) (n:=l.v.Zt) (c:=false) Fx DW RG.YZ.2;rw[Jl]at SV;simp only[e1,a0,aw,a3,if_false,mpV]at SV;refine VS.z (h1.size) [9] (.p 0 (.p 1 (.p 2 (.q 3 (.p 4 (.p 6 (.q 7 (.p 8 (.s 5 (.w 9 .nil)))))))))) mixed uj ?_;simp only[go_sem,ZdI,c2b,q5,q1,rr5,SV,mrb,m5];rw[Qa DU hsb.2];obtain⟨k2,RG2⟩:=RG.zQ KG.Yp (l':=ins S l.Jp ()) e1 hsb;rw[show Jm (ins (Ht S) l.Jp (ao #[]))=Jm (Ht (ins S l.Jp ())) from by unfold Ht;rw[Of]];obtain⟨g2,WB⟩:=ZN (h1.setIfInBounds sb (Jm (Ht (ins S l.Jp ()))));rw[<-WB]at k2 RG2 ⊢;have eV:({ r with YZ:=ins r.YZ l.v.Zt (QY r l) }:Xw) = { r with YZ:=ins r.YZ l.v.Zt (ins S l.Jp ()) }:=by unfold QY;rw[hS]
     have K2:Kp (rF i) o h1 o g2:=k2.mono fun t q=>.inr (.inr (.inr (.inr (.inr ⟨_,q⟩))));have N2:Z5 o g2 wb i nb { a with Zg:=O ra } (TD n r l):=by
      refine⟨?_,?_⟩
      .have:=NA1.ZW.Ze k2 Hy;exact this
      .have:=Yh.U7 NA1.pt (k2.mono fun t q=>.inr (.inr (.inr (.inr ⟨_,q⟩)))) rfl rfl RG2;unfold TD;rw[eV];exact this
     have W2:=W1.Ze k2 (by rintro t rfl;simp[Tg.of]);have x2:=x5.Ze k2;have p0:rd g2 ⟨h.size,8,aa⟩ 5=O l.v.cm.C:=by rw[YJ x2.2 (by simp[XN])];rfl
     have p5:hc g2 ⟨ra.rb,5,aa⟩=O (.map (O ra.vb)):=Zl RG2.ZW.2;have p6:=fun (K:am->Hp->Prop)=>Y9 (K:=K) (n:=l.v.Zt) (c:=false) Fx DW RG2.YZ.2;rw[Jl]at p6;simp only[e1,a0,aw,a3,if_false]at p6;have SB2:U6 o (.Pf i l.v.Zt) g2 sb (Ht (ins S l.Jp ())):=⟨hsb.1,by rw[WB];exact ZQ hsb.2⟩
     have p7:=fun (K:am->Hp->Prop) (cs:Array Bool) (ty:bh)=>RS (T:=T) (K:=K) (ty:=ty) (cs:=cs) DU SB2.2;have p8:(Ht (ins S l.Jp ())).length=(QY r l).length:=by unfold Ht QY;rw[Iu,hS]
     rw[p8]at p7;simp only[go_sem,ZdI,c2b,p5,p6,p7,mpV];refine (H6 T g2 (QY r l).length (by unfold QY;rw[<-hS,Mh];split<;>omega)).use ?_;rintro _ _ ⟨rfl,rfl⟩;by_cases c3:5<2*(QY r l).length
     .rw[if_pos c3];simp only[go_sem,c3,p0];refine (FC T _ o wb i nb YM _ _ Xt fl Yw ZA l.v.Zt l.v.cm k2.Yp N2 W2 hk hl ht hq hw).use ?_;rintro v' h' ⟨o',a',Jv,kl,N',W'⟩;simp only[go_sem];exact⟨o',a',Jv,(KG.trans K2).trans (kl.mono fun t q=>.inl q),N',W'⟩
     .rw[if_neg c3,ab];simp only[go_sem,c3];exact⟨o,_,Xt,KG.trans K2,N2,W2⟩
def JR(i:Nat)(t:Tg):Prop:=t=.world\/t=.Zo\/t=.ZA\/t.of=O i
theorem FF{i:Nat}{t:Tg}(h:Wv i t):JR i t:=by
 rcases h with rfl|rfl|rfl|rfl|rfl|rfl|rfl<;>simp[JR,Tg.of]
theorem cZ{i:Nat}{t:Tg}(h:rF i t):JR i t:=h.elim FF fun q=>.inr (.inr (.inr (KL q)))
theorem da(T:bc)(h:Hp)(o:Ow)(wb i nb:Nat)(a:NA)(n:Nd)(l:YF)(w:am)(d:Vx o h)(N:Z5 o h wb i nb a n)(iv:TO o h w l.vs):
  Zd aU T 89 #[Zx wb,Zx nb,ao (XN l w).toArray] h fun v' h'=>Kp (fun t=>t=.ZV i) o h o h'/\Z5 o h' wb i nb a (Xk n l):=by
 obtain⟨pw,cw,rfl⟩:=iv.ZO;refine Zd.XT [_,_,_] Tryz.func89 ?_;unfold Zx XN;have e0:∃h1:Hp,h1=h.push (J (XN l (H pw (U l.vs) cw)).toArray 134):=⟨_,rfl⟩
 obtain⟨h1,Xm⟩:=e0;have k1:Kp WL o h o h1:=by rw[Xm];exact Yu d _
 have x5:Ya o h1 h.size (J (XN l (H pw (U l.vs) cw)).toArray 134):=⟨d _ (ae _),by rw[Xm];exact Zc⟩
 have e0:=Xm.symm;unfold XN at e0;have N1:=N.Zn k1;have R1:=ZP N1.ZW.2 N1.pt.store.len;have Q3:=Za N1.ZW.2;have m5:=Za x5.2;have q3:rd h1 ⟨h.size,3,aa⟩ 2=O (Qz l.b):=by rw[YJ x5.2 (by simp[XN])];rfl
 have r7:rd h1 ⟨nb,7,aa⟩ 2=O (Qz n.Z8):=R1.Z8;simp only[go_sem];rw[e0];refine VS.mono (N:=fun F' g'=>Zj h1.size h1 g'/\F' 1=Z (O ⟨nb,0,aa⟩)/\F' 5=Z (O ⟨h.size,0,aa⟩)/\F' 12=a8 (decide (ZE n.Z8 l.b))) ?_ ?_ (fun _ _ _ h=>h) (fun _ _ h=>h)
 .refine VS.z (h1.size) [6] (.p 0 (.q 1 (.p 2 (.p 3 (.p 4 (.q 5 (.w 6 .nil))))))) mixed uj ?_;simp only[go_sem,q3,r7,Q3,m5];refine (LQ T h1 l.b n.Z8).use ?_;rintro _ g ⟨rfl,b⟩;simp only[go_sem,b]
 .rintro F' g ⟨b,f1,f5,f12⟩;have kb:=ZX k1.Yp b;have N2:=N1.Zn kb;have K2:=k1.trans kb;by_cases c:ZE n.Z8 l.b
  .have e:Xk n l = { n with Z8:=l.b }:=by unfold Xk;rw[if_pos c]
   rw[e];obtain⟨g2,w2,N3,k3⟩:=Yh.write (n:={ n with Z8:=l.b }) (a:=a) { N2.pt with } K2.Yp N2.ZW ((XH N2.ZW.2 N2.pt.store.len).Z8 l.b.r l.b.n);have p3:rd g ⟨h.size,3,aa⟩ 2=O [Q D l.b.r,Q D l.b.n]:=by rw[YJ (x5.Ze kb).2 (by simp[XN])];rfl
   have Ug:=Za N2.ZW.2;simp only[go_sem,f1,f5,f12,c,p3,w2,Ug];exact⟨(Z0 K2).trans k3,N3⟩
  .have e:Xk n l=n:=by unfold Xk;rw[if_neg c]
   rw[e];simp only[go_sem,f12,c];exact⟨Z0 K2,N2⟩
theorem rG(T:bc)(h:Hp)(o:Ow)(wb i nb:Nat)(YM:Nat->Nat)(a:NA)(n:Nd)(Xt:WA)(fl:List YF)(Yw:Nat->Int)(ZA:List PS)(l:YF)(w:am)(d:Vx o h)(N:Z5 o h wb i nb a n)(W:ZY o h wb YM Xt fl Yw ZA)(iv:TO o h w l.vs)(hk:n.Zh.length<=100000000000)(hl:n.Zw.length<=100000000000)(ht:(U ZA)<=100000000000)(hq:n.Zr.length<=1000000000000)(hw:n.Zi.length<=1000000000000):
  Zd aU T 88 #[Zx wb,Zx nb,ao (XN l w).toArray] h fun v' h'=>∃o' a' Jv,Kp (Wv i) o h o' h'/\Z5 o' h' wb i nb a' (X8 n l.v.Zt l.v.cm).n/\ZY o' h' wb YM Jv fl Yw (ZA++(X8 n l.v.Zt l.v.cm).ts):=by
 obtain⟨pw,cw,rfl⟩:=iv.ZO;refine Zd.XT [_,_,_] Tryz.func88 ?_;unfold Zx XN;obtain⟨h1,Xm⟩:=ZN (h.push (J (XN l (H pw (U l.vs) cw)).toArray 134):Hp);have k1:Kp WL o h o h1:=by rw[Xm];exact Yu d _
 have e0:=Xm.symm;unfold XN at e0;simp only[go_sem];rw[e0];refine (FC T h1 o wb i nb YM a n Xt fl Yw ZA l.v.Zt l.v.cm k1.Yp (N.Zn k1) (W.Zn k1) hk hl ht hq hw).use ?_;rintro v' h' ⟨o',a',Jv,k,N',W'⟩;simp only[go_sem];exact⟨o',a',Jv,(Z0 k1).trans k,N',W'⟩
theorem zR(T:bc)(h:Hp)(o:Ow)(wb i nb:Nat)(a:NA)(n:Nd)(l:YF)(w:am)(d:Vx o h)(N:Z5 o h wb i nb a n)(iv:TO o h w l.vs)(hq:n.Zr.length<=1000000000000)(hl:n.Zw.length<=1000000000000):
  Zd aU T 86 #[Zx wb,Zx nb,ao (XN l w).toArray] h fun v' h'=>∃o' a',Kp (ZhE i) o h o' h'/\Z5 o' h' wb i nb a' (add n l.v.cm):=by
 obtain⟨pw,cw,rfl⟩:=iv.ZO;refine Zd.XT [_,_,_] Tryz.func86 ?_;unfold Zx XN;obtain⟨h1,Xm⟩:=ZN (h.push (J (XN l (H pw (U l.vs) cw)).toArray 134):Hp);have k1:Kp WL o h o h1:=by rw[Xm];exact Yu d _
 have e0:=Xm.symm;unfold XN at e0;simp only[go_sem];rw[e0];refine (zI T h1 o wb i nb a n l.v.cm k1.Yp (N.Zn k1) hq hl).use ?_;rintro v' h' ⟨o',a',k,N'⟩;simp only[go_sem];exact⟨o',a',(Z0 k1).trans k,N'⟩
theorem zS(T:bc)(h:Hp)(o:Ow)(wb i nb:Nat)(YM:Nat->Nat)(a:NA)(n:Nd)(Xt:WA)(fl:List YF)(Yw:Nat->Int)(ZA:List PS)(l:YF)(w:am)(d:Vx o h)(N:Z5 o h wb i nb a n)(W:ZY o h wb YM Xt fl Yw ZA)(iv:TO o h w l.vs)(Y5:(U fl)<=1000000000000):
  Zd aU T 87 #[Zx wb,Zx nb,ao (XN l w).toArray] h fun v' h'=>∃o' a' Jv,Kp (fun t=>t=.world\/t=.Zo\/t=.ZV i) o h o' h'/\Z5 o' h' wb i nb a' (Qd n l).n/\ZY o' h' wb YM Jv (fl++(Qd n l).ls) Yw ZA:=by
 obtain⟨pw,cw,rfl⟩:=iv.ZO;refine Zd.XT [_,_,_] Tryz.func87 ?_;unfold Zx XN;obtain⟨h1,Xm⟩:=ZN (h.push (J (XN l (H pw (U l.vs) cw)).toArray 134):Hp);have k1:Kp WL o h o h1:=by rw[Xm];exact Yu d _
 have x5:Ya o h1 h.size (J (XN l (H pw (U l.vs) cw)).toArray 134):=⟨d _ (ae _),by rw[Xm];exact Zc⟩
 have e0:=Xm.symm;have cc:=da T h1 o wb i nb a n l (H pw (U l.vs) cw) k1.Yp (N.Zn k1) (iv.Ze k1);unfold XN at e0;unfold XN Zx at cc;simp only[go_sem];rw[e0];refine cc.use ?_;rintro _ g ⟨k2,N2⟩;have W2:=(W.Zn k1).Ze k2 (by rintro t rfl;simp[Tg.of]);have y5:=x5.Ze k2;have R2:=ZP N2.ZW.2 N2.pt.store.len;have Ug:=Za N2.ZW.2;have m5:=Za y5.2;have q5:hc g ⟨h.size,5,aa⟩=O (Q D l.v.Zt):=Zl y5.2;have ek:(Xk n l).Zh=n.Zh:=by unfold Xk;split<;>rfl
 have eme:(Xk n l).me=n.me:=by unfold Xk;split<;>rfl
 have lk:=fun (K:am->Hp->Prop)=>Y9 (K:=K) (n:=l.v.Zt) (c:=true) Rv LJ N2.pt.Zh.2;have SV:=fun (K:am->Hp->Prop) (x:Obj)=>Y9 (h:=g.push x) (K:=K) (n:=l.v.Zt) (c:=true) Rv LJ ((ZI (Za N2.pt.Zh.2)).trans N2.pt.Zh.2);rw[Jl,ek]at lk;simp only[Jl,ek]at SV;have gp:∀x:Obj,(g.push x)[g.size]? = O x:=fun x=>Zc;simp only[go_sem]
 cases hx:Yg n.Zh l.v.Zt with
 | none=>
  have eP:Qd n l=⟨Xk n l,[],[]⟩:=by unfold Qd;rw[hx]
  rw[eP,ab];rw[hx]at lk;simp only[hx,a7,a5,aq,↓reduceIte]at lk SV;refine VS.mono (N:=fun F' g'=>Zj g.size g g'/\F' 7=a8 false) ?_ ?_ (fun _ _ _ h=>h) (fun _ _ h=>h)
  .refine VS.z (g.size) [7,12] (.p 0 (.p 1 (.p 2 (.q 3 (.p 4 (.p 5 (.q 6 (.or 7 (.p 8 (.p 9 (.p 10 (.s 11 (.w 12 (.p 13 .nil)))))) (.s 11 (.w 7 (.p 8 (.p 9 (.p 10 (.w 12 (.p 13 .nil))))))))))))))) mixed uj ?_;simp only[go_sem,R2.Zh,q5,Ug,m5,lk,SV]
   repeat' (first|exact Zj.refl _ _|exact Zj.push (ae _) _|refine bd ?_ ?_)
  .rintro F' g' ⟨b,f7⟩;simp only[go_sem,f7];exact⟨o,a,Xt,((Z0 k1).trans (k2.mono fun t q=>.inr (.inr q))).Yz b,N2.Zn (ZX k2.Yp b),W2.Zn (ZX k2.Yp b)⟩
 | some y=>
  have eP:Qd n l=⟨Xk n l,[⟨6,n.me,l.Jp,Jg,QC l.v.Zt Jg y,[]⟩],[]⟩:=by unfold Qd;rw[hx]
  rw[eP];rw[hx]at lk;simp only[hx,a0,aw,a4,↓reduceIte]at lk SV;refine VS.mono (N:=fun F' g'=>Zj g.size g g'/\F' 0=Z (O ⟨wb,0,aa⟩)/\F' 1=Z (O ⟨nb,0,aa⟩)/\F' 5=Z (O ⟨h.size,0,aa⟩)/\F' 7=a8 true/\F' 6=Z (O ⟨g.size,0,aa⟩)/\g'[g.size]? = O (J y.C.toArray 24)) ?_ ?_ (fun _ _ _ h=>h) (fun _ _ h=>h)
  .refine VS.z (g.size) [7,12] (.p 0 (.p 1 (.p 2 (.q 3 (.p 4 (.p 5 (.q 6 (.or 7 (.p 8 (.p 9 (.p 10 (.s 11 (.w 12 (.p 13 .nil)))))) (.s 11 (.w 7 (.p 8 (.p 9 (.p 10 (.w 12 (.p 13 .nil))))))))))))))) mixed uj ?_;simp only[go_sem,R2.Zh,q5,Ug,m5,lk,SV,Sv]
   repeat' (first|exact Zj.refl _ _|exact Zj.push (ae _) _|exact gp _|refine bd ?_ ?_)
  .rintro F' g' ⟨b,f0,f1,f5,f7,f6,yy⟩;have kb:=ZX k2.Yp b;have N3:=N2.Zn kb;have W3:=W2.Zn kb;have z5:=y5.Ze kb;have R3:=ZP N3.ZW.2 N3.pt.store.len;have p1:hc g' ⟨h.size,1,aa⟩=O (Q D l.Jp):=Zl z5.2;have p5:hc g' ⟨h.size,5,aa⟩=O (Q D l.v.Zt):=Zl z5.2;have p6:rd g' ⟨g.size,0,aa⟩ 5=O [Q D y.k,Q D y.c,Q D y.s,Q D y.n,Q D y.v]:=Zz yy rfl;simp only[go_sem,f0,f1,f5,f7,f6,p1,p5,p6];refine (V0 T g' o wb nb YM n.me Xt fl Yw ZA l.Jp ⟨6,0,0,Jg,QC l.v.Zt Jg y,[]⟩ (H aa 0 0) kb.Yp W3 (by rw[<-eme];exact R3.me) (Za N3.ZW.2) (Im.nil _ _ _ _) Y5).use ?_;rintro v' h' ⟨o',Jv,k,_,W'⟩;simp only[go_sem];exact⟨o',a,Jv,(((Z0 k1).trans (k2.mono fun t q=>.inr (.inr q))).trans (Z0 kb)).trans (k.mono fun t q=>q.elim .inl fun q=>.inr (.inl q)),N3.Ze k (by rintro t (rfl|rfl)<;>simp[Tg.of]),W'⟩
section
variable {K:am->Hp->Prop} {X:Hp}
theorem D5{t e:bh}(ht:lQ aU t=O e){b:Nat}(hb:b=X.size){l:List (Int × am)}{n:Int}{x:am}:
  Iv aU t (.map (O b)) (Q D n) x K (X.push (Jm l))=K undef (X.push (Jm (ins l n x))):=by
 subst hb;rw[Qa ht Zc]
 congr 1
 apply Array.ext_getElem?;intro j;rw[Array.getElem?_setIfInBounds,bg,bg];by_cases hj:X.size=j
 .subst hj;simp
 .rw[if_neg hj,if_neg (fun e=>hj e.symm),if_neg (fun e=>hj e.symm)]
theorem jz{t e:bh}(ht:lQ aU t=O e){b:Nat}(hb:b=X.size){n:Int}{x:am}:
  Iv aU t (.map (O b)) (Q D n) x K (X.push (.map #[] 0))=K undef (X.push (Jm [(n,x)])):=D5 (l:=[]) ht hb
theorem jA{t e:bh}{z:am}(ht:lQ aU t=O e)(hz:tzv aU e=O z){b:Nat}(hb:b=X.size){l:List (Int × am)}{n:Int}{x:am}(hx:Yg l n=O x):
  It aU t (.map (O b)) (Q D n) false K (X.push (Jm l))=K x (X.push (Jm l)):=by
 subst hb;rw[Y9 ht hz Zc,hx];rfl
end
theorem db(n:Nd)(l:YF):(YA n l).ts=[]:=by
 unfold YA
 repeat' split
 all_goals rfl
theorem zT(n:Nd)(l:YF):(asked n l).ts=[]:=by
 unfold asked
 repeat' split
 all_goals rfl
theorem zU(n:Nd)(l:YF):(Qd n l).ts=[]:=by
 unfold Qd;split<;>rfl
theorem zW(n:Nd)(s:Int)(x:Cm):(X8 n s x).ls=[]:=rfl
theorem IX(n:Nd)(l:YF):(Ym n l).ls=[]:=by
 unfold Ym
 repeat' split
 all_goals rfl
set_option maxHeartbeats 1000000 in
theorem rH(T:bc)(h:Hp)(o:Ow)(wb i nb:Nat)(YM:Nat->Nat)(a:NA)(n:Nd)(Xt:WA)(fl:List YF)(Yw:Nat->Int)(ZA:List PS)(l:YF)(w:am)(d:Vx o h)(N:Z5 o h wb i nb a n)(W:ZY o h wb YM Xt fl Yw ZA)(iv:TO o h w l.vs)(tb:fK o h)(ZAI:0<=l.ZR/\l.ZR<=7)(Y5:(U fl)<=1000000000000)(zf:n.Zm.l.length<=1000000)(uy:(U n.data)<=1000000)(hk:n.Zh.length<=100000000000)(hl:n.Zw.length<=100000000000)(ht:(U ZA)<=100000000000)(hq:n.Zr.length<=1000000000000)(hw:n.Zi.length<=1000000000000)(hv:∀r s,n.Zg=O r->((Yg r.YZ s).getD []).length<=1000000):
  Zd aU T 69 #[Zx wb,Zx nb,ao (XN l w).toArray] h fun v' h'=>∃o' a' Jv,Kp (JR i) o h o' h'/\Z5 o' h' wb i nb a' (Zu n l).n/\ZY o' h' wb YM Jv (fl++(Zu n l).ls) Yw (ZA++(Zu n l).ts):=by
 obtain⟨pw,cw,rfl⟩:=iv.ZO;refine Zd.XT [_,_,_] Tryz.func69 ?_;obtain⟨h1,Xm⟩:=ZN (h.push (J (XN l (H pw (U l.vs) cw)).toArray 134):Hp);have k1:Kp WL o h o h1:=by rw[Xm];exact Yu d _
 have x5:Ya o h1 h.size (J (XN l (H pw (U l.vs) cw)).toArray 134):=⟨d _ (ae _),by rw[Xm];exact Zc⟩
 have e0:=Xm.symm;have s1:h1.size=h.size+1:=by rw[Xm];simp
 obtain⟨M,hM⟩:∃M:List (Int × am),M=[(0,.func (.func 83) #[] #[]),(1,.func (.func 84) #[] #[]),(2,.func (.func 85) #[] #[]),(3,.func (.func 84) #[] #[]),(4,.func (.func 86) #[] #[]),(5,.func (.func 87) #[] #[]),(6,.func (.func 88) #[] #[]),(7,.func (.func 89) #[] #[])]:=⟨_,rfl⟩
 have k2:Kp WL o h o (h1.push (Jm M)):=k1.push _;have N2:=N.Zn k2;have W2:=W.Zn k2;have uA:=iv.Ze k2;have io:=tb.Ze k2;have x2:Ya o (h1.push (Jm M)) h.size (J (XN l (H pw (U l.vs) cw)).toArray 134):=x5.Ze (Yu k1.Yp _);have d2:Vx o (h1.push (Jm M)):=k2.Yp;have q0:hc (h1.push (Jm M)) ⟨h.size,0,aa⟩=O (Q D l.ZR):=Zl x2.2;have q14:rd (h1.push (Jm M)) ⟨h.size,0,aa⟩ 14=O (XN l (H pw (U l.vs) cw)):=Zz x2.2 rfl;have eM:ins (ins (ins (ins (ins (ins (ins [((0:Int),Value.func (.func 83) #[] #[])] 1 (.func (.func 84) #[] #[])) 2 (.func (.func 85) #[] #[])) 3 (.func (.func 84) #[] #[])) 4 (.func (.func 86) #[] #[])) 5 (.func (.func 87) #[] #[])) 6 (.func (.func 88) #[] #[])) 7 (.func (.func 89) #[] #[])=M:=by rw[hM];rfl
 have u0:=fun (K:am->Hp->Prop) (n:Int) (x:am)=>jz (K:=K) (X:=h1) zv (b:=h1.size) rfl (n:=n) (x:=x);have u1:=fun (K:am->Hp->Prop) (l:List (Int × am)) (n:Int) (x:am)=>D5 (K:=K) (X:=h1) zv (b:=h1.size) rfl (l:=l) (n:=n) (x:=x);have lk:=fun (K:am->Hp->Prop) (x:am) (hx:Yg M l.ZR=O x)=>jA (K:=K) (X:=h1) zv Zmy (b:=h1.size) rfl hx;unfold Zx XN;unfold XN at e0 q14;have zX:l.ZR=0\/l.ZR=1\/l.ZR=2\/l.ZR=3\/l.ZR=4\/l.ZR=5\/l.ZR=6\/l.ZR=7:=nT;rcases zX with KC|KC|KC|KC|KC|KC|KC|KC
 .have hf:Zu n l=YA n l:=by unfold Zu;simp[KC]
  rw[hf];have jB:=fun (K:am->Hp->Prop)=>lk K (.func (.func 83) #[] #[]) (by rw[KC,hM];rfl);have cc:=cV T _ o wb i nb YM a n Xt fl Yw ZA l _ d2 N2 W2 uA Y5 zf uy io;unfold XN Zx at cc;simp only[go_sem,e0,u0,u1,eM,q0,q14,jB];refine cc.use ?_;rintro v' h' ⟨o',a',Jv,k,N',W'⟩;simp only[go_sem];exact⟨o',a',Jv,(Z0 k2).trans (k.mono fun t q=>by rcases q with rfl|rfl|rfl<;>simp[JR,Tg.of]),N',by rw[db,ab];exact W'⟩
 .have hf:Zu n l=Ym n l:=by unfold Zu;simp[KC]
  rw[hf];have jB:=fun (K:am->Hp->Prop)=>lk K (.func (.func 84) #[] #[]) (by rw[KC,hM];rfl);have cc:=IW T _ o wb i nb YM a n Xt fl Yw ZA l _ d2 N2 W2 uA hk hl ht hq hw hv;unfold XN Zx at cc;simp only[go_sem,e0,u0,u1,eM,q0,q14,jB];refine cc.use ?_;rintro v' h' ⟨o',a',Jv,k,N',W'⟩;simp only[go_sem];exact⟨o',a',Jv,(Z0 k2).trans (k.mono fun t q=>cZ q),N',by rw[IX,ab];exact W'⟩
 .have hf:Zu n l=asked n l:=by unfold Zu;simp[KC]
  rw[hf];have jB:=fun (K:am->Hp->Prop)=>lk K (.func (.func 85) #[] #[]) (by rw[KC,hM];rfl);have cc:=zO T _ o wb i nb YM a n Xt fl Yw ZA l _ d2 N2 W2 uA Y5 zf uy io;unfold XN Zx at cc;simp only[go_sem,e0,u0,u1,eM,q0,q14,jB];refine cc.use ?_;rintro v' h' ⟨o',a',Jv,k,N',W'⟩;simp only[go_sem];exact⟨o',a',Jv,(Z0 k2).trans (k.mono fun t q=>by rcases q with rfl|rfl|rfl<;>simp[JR,Tg.of]),N',by rw[zT,ab];exact W'⟩
 .have hf:Zu n l=Ym n l:=by unfold Zu;simp[KC]
  rw[hf];have jB:=fun (K:am->Hp->Prop)=>lk K (.func (.func 84) #[] #[]) (by rw[KC,hM];rfl);have cc:=IW T _ o wb i nb YM a n Xt fl Yw ZA l _ d2 N2 W2 uA hk hl ht hq hw hv;unfold XN Zx at cc;simp only[go_sem,e0,u0,u1,eM,q0,q14,jB];refine cc.use ?_;rintro v' h' ⟨o',a',Jv,k,N',W'⟩;simp only[go_sem];exact⟨o',a',Jv,(Z0 k2).trans (k.mono fun t q=>cZ q),N',by rw[IX,ab];exact W'⟩
 .have hf:Zu n l=⟨add n l.v.cm,[],[]⟩:=by unfold Zu;simp[KC]
  rw[hf];have jB:=fun (K:am->Hp->Prop)=>lk K (.func (.func 86) #[] #[]) (by rw[KC,hM];rfl);have cc:=zR T _ o wb i nb a n l _ d2 N2 uA hq nT;unfold XN Zx at cc;simp only[go_sem,e0,u0,u1,eM,q0,q14,jB];refine cc.use ?_;rintro v' h' ⟨o',a',k,N'⟩;simp only[go_sem];exact⟨o',a',Xt,(Z0 k2).trans (k.mono fun t q=>by rcases q with rfl|rfl<;>simp[JR,Tg.of]),N',by rw[ab,ab];exact W2.Ze k (by rintro t (rfl|rfl)<;>simp[Tg.of])⟩
 .have hf:Zu n l=Qd n l:=by unfold Zu;simp[KC]
  rw[hf];have jB:=fun (K:am->Hp->Prop)=>lk K (.func (.func 87) #[] #[]) (by rw[KC,hM];rfl);have cc:=zS T _ o wb i nb YM a n Xt fl Yw ZA l _ d2 N2 W2 uA Y5;unfold XN Zx at cc;simp only[go_sem,e0,u0,u1,eM,q0,q14,jB];refine cc.use ?_;rintro v' h' ⟨o',a',Jv,k,N',W'⟩;simp only[go_sem];exact⟨o',a',Jv,(Z0 k2).trans (k.mono fun t q=>by rcases q with rfl|rfl|rfl<;>simp[JR,Tg.of]),N',by rw[zU,ab];exact W'⟩
 .have hf:Zu n l=X8 n l.v.Zt l.v.cm:=by unfold Zu;simp[KC]
  rw[hf];have jB:=fun (K:am->Hp->Prop)=>lk K (.func (.func 88) #[] #[]) (by rw[KC,hM];rfl);have cc:=rG T _ o wb i nb YM a n Xt fl Yw ZA l _ d2 N2 W2 uA hk hl ht hq hw;unfold XN Zx at cc;simp only[go_sem,e0,u0,u1,eM,q0,q14,jB];refine cc.use ?_;rintro v' h' ⟨o',a',Jv,k,N',W'⟩;simp only[go_sem];exact⟨o',a',Jv,(Z0 k2).trans (k.mono fun t q=>FF q),N',by rw[zW,ab];exact W'⟩
 .have hf:Zu n l=⟨Xk n l,[],[]⟩:=by unfold Zu;simp[KC]
  rw[hf];have jB:=fun (K:am->Hp->Prop)=>lk K (.func (.func 89) #[] #[]) (by rw[KC,hM];rfl);have cc:=da T _ o wb i nb a n l _ d2 N2 uA;unfold XN Zx at cc;simp only[go_sem,e0,u0,u1,eM,q0,q14,jB];refine cc.use ?_;rintro v' h' ⟨k,N'⟩;simp only[go_sem];exact⟨o,a,Xt,(Z0 k2).trans (k.mono fun t q=>by rw[q];simp[JR,Tg.of]),N',by rw[ab,ab];exact W2.Ze k (by rintro t rfl;simp[Tg.of])⟩
@[go_sem] theorem Zvy(x:Cm):List.take 5 x.C=x.C:=rfl
def VM(n:Nd)(r:Xw)(x:Cm):Int:=match free n r x with|some s=>(s:Int)|none=>0
theorem Xx.rr{o:Ow}{i:Nat}{h:Hp}{ra:RA}{r:Xw}(s:Xx o i h ra r):rd h ⟨ra.rb,0,aa⟩ 2=O (Qz r.b)/\hc h ⟨ra.rb,2,aa⟩=O (.map (O ra.pb))/\hc h ⟨ra.rb,3,aa⟩=O (a8 r.Xg)/\hc h ⟨ra.rb,4,aa⟩=O (.map (O ra.qb))/\hc h ⟨ra.rb,5,aa⟩=O (.map (O ra.vb)):=
 ⟨by rw[YJ s.ZW.2 (by simp[jx])];rfl,Zl s.ZW.2,Zl s.ZW.2,Zl s.ZW.2,Zl s.ZW.2⟩
set_option maxHeartbeats 1000000 in
theorem ZdN(T:bc)(h:Hp)(o:Ow)(wb i nb:Nat)(a:NA)(n:Nd)(ra:RA)(r:Xw)(x:Cm)(d:Vx o h)(N:Z5 o h wb i nb a n)(R:Xx o i h ra r)(hl:n.Zw.length<=1000000000000):
  Zd aU T 115 #[Zx nb,Zx ra.rb,Sv x] h fun v' h'=>v'=.tuple #[Q D (VM n r x),a8 (free n r x).isSome]/\Zj h.size h h':=by
 have TU:=Za N.ZW.2;have LN:=Za R.ZW.2;refine Zd.Ld [_,_,_] Tryz.func115 ?_;unfold Zx Sv;obtain⟨h1,Xm⟩:=ZN (h.push (J x.C.toArray 24):Hp);have k1:Kp WL o h o h1:=by rw[Xm];exact Yu d _
 have b1:Zj h.size h h1:=by rw[Xm];exact Zj.push (ae _) _
 have x1:Ya o h1 h.size (J x.C.toArray 24):=⟨d _ (ae _),by rw[Xm];exact Zc⟩
 have e0:=Xm.symm;have N1:=N.Zn k1;have R1:=R.Ze k1 (fun _ _ q=>q);have P1:=ZP N1.ZW.2 N1.pt.store.len;have P0:=ZP N.ZW.2 N.pt.store.len;obtain⟨lp,lc,KN,hlc⟩:=XC.ZO N1.pt.Zw;have P11:=P1.Zw;rw[KN]at P11;have Q3:=Za N1.ZW.2;have e3:((n.Zw.length:Nat):Int)=(n.Zw.length:Int):=rfl;simp -implicitDefEqProofs only[go_sem,e0,P11];refine VS.Yk (fun F g=>Zj h1.size h1 g/\F 0=Z (O ⟨nb,0,aa⟩)/\F 1=Z (O ⟨ra.rb,0,aa⟩)/\F 5=Z (O ⟨h.size,0,aa⟩)/\∃s:Nat,F 8=Q D s/\n.Zw.length<=s/\Qe n r x (40-n.Zw.length) n.Zw.length=Qe n r x (40-s) s)
  (fun F _=>40-(vi (F 8)).toNat) rfl ⟨Zj.refl _ _,rfl,rfl,rfl,n.Zw.length,rfl,ae _,rfl⟩ ?_
 rintro F g ⟨hg,f0,f1,f5,s,f8,hs,he⟩;have kg:=ZX k1.Yp hg;have N2:=N1.Zn kg;have R2:=R1.Ze kg (fun _ _ q=>q);have y1:=x1.Ze kg;have P2:=ZP N2.ZW.2 N2.pt.store.len;obtain⟨_,_,_,q4,_⟩:=R2.rr;have gs:=hg.size;have Ug:=Za N2.ZW.2;have cY:=Za R2.ZW.2;have bb:Zj h.size h g:=b1.trans (hg.mono b1.size);have eF:free n r x=Qe n r x (40-s) s:=he;by_cases ZS:s<40
 .have Z7:(s:Int)<40:=nT;obtain⟨f,hf⟩:∃f,40-s=f+1:=⟨39-s,nT⟩
  have ef:f=40-(s+1):=nT;rw[hf]at eF he;have D6:=fun (K:am->Hp->Prop)=>Y9 (K:=K) (n:=(s:Int)) (c:=true) Rv LJ R2.ZT.2;rw[Jl]at D6;have SV:=fun (K:am->Hp->Prop) (z:Obj)=>Y9 (h:=g.push z) (K:=K) (n:=(s:Int)) (c:=true) Rv LJ ((ZI (Za N2.pt.Zh.2)).trans N2.pt.Zh.2);simp only[Jl]at SV;have fz:∀c:Cm,rd g ⟨h.size,0,aa⟩ 5=O x.C:=fun _=>Zz y1.2 rfl;have fx:rd g ⟨h.size,0,aa⟩ 5=O x.C:=Zz y1.2 rfl;have hx5:=Za y1.2;have n1:¬h.size=g.size:=nT;have n2:¬h.size=g.size+1:=nT;have n3:¬nb=g.size:=nT;unfold Qe at eF
  cases c1:Yg r.ZT (s:Int) with
  | none=>
   simp only[c1,a7,a5,aq,↓reduceIte]at D6
   cases c2:Yg n.Zh (s:Int) with
   | none=>
    simp only[c2,a7,a5,aq,↓reduceIte]at SV;have e4:free n r x=O s:=by rw[eF,if_neg (by rw[c1,c2];simp),if_pos ⟨c1,c2⟩]
    have e5:VM n r x=s:=by unfold VM;rw[e4]
    rw[e5,e4];simp -implicitDefEqProofs only[go_sem,f0,f1,f5,f8,Z7,q4,D6,SV,P2.Zh,n1,n2,n3,fx,Sv,a4];exact (bb.YU nT _).YU Ig _
   | some z=>
    simp only[c2,a0,aw,a4,↓reduceIte]at SV;by_cases qz:z=x
    .have e4:free n r x=aa:=by rw[eF,if_pos (.inr (by rw[c2,qz]))]
     have e5:VM n r x=0:=by unfold VM;rw[e4]
     rw[e5,e4];simp -implicitDefEqProofs only[go_sem,f0,f1,f5,f8,Z7,q4,D6,SV,P2.Zh,n1,n2,n3,fx,Sv,qz,aq];exact (bb.YU nT _).YU Ig _
    .have qz':¬O z=O x:=fun e=>qz (Option.some.inj e);simp -implicitDefEqProofs only[go_sem,f0,f1,f5,f8,Z7,q4,D6,SV,P2.Zh,n1,n2,n3,fx,Sv,qz];unfold XU;refine⟨⟨(hg.YU nT _).YU Ig _,f0,f1,f5,s+1,rfl,nT,?_⟩,?_⟩
     .rw[he,<-ef,Qe,if_neg (by rw[c1,c2];simp[qz]),if_neg (by rw[c2];simp)]
     .simp only[vi,Zq,↓reduceIte,f8];omega
  | some y=>
   simp only[c1,a0,aw,a4,↓reduceIte]at D6;by_cases qy:y=x
   .have e4:free n r x=aa:=by rw[eF,if_pos (.inl (by rw[c1,qy]))]
    have e5:VM n r x=0:=by unfold VM;rw[e4]
    rw[e5,e4]
    cases c2:Yg n.Zh (s:Int) with
    | none=>
     simp only[c2,a7,a5,aq,↓reduceIte]at SV;simp -implicitDefEqProofs only[go_sem,f0,f1,f5,f8,Z7,q4,D6,SV,P2.Zh,n1,n2,n3,fx,Sv,qy,aq];exact (bb.YU nT _).YU Ig _
    | some z=>
     simp only[c2,a0,aw,a4,↓reduceIte]at SV;simp -implicitDefEqProofs only[go_sem,f0,f1,f5,f8,Z7,q4,D6,SV,P2.Zh,n1,n2,n3,fx,Sv,qy,aq];exact (bb.YU nT _).YU Ig _
   .cases c2:Yg n.Zh (s:Int) with
    | none=>
     simp only[c2,a7,a5,aq,↓reduceIte]at SV;simp -implicitDefEqProofs only[go_sem,f0,f1,f5,f8,Z7,q4,D6,SV,P2.Zh,n1,n2,n3,fx,Sv,qy];unfold XU;refine⟨⟨(hg.YU nT _).YU Ig _,f0,f1,f5,s+1,rfl,nT,?_⟩,?_⟩
     .rw[he,<-ef,Qe,if_neg (by rw[c1,c2];simp[qy]),if_neg (by rw[c1];simp)]
     .simp only[vi,Zq,↓reduceIte,f8];omega
    | some z=>
     simp only[c2,a0,aw,a4,↓reduceIte]at SV;by_cases qz:z=x
     .have e4:free n r x=aa:=by rw[eF,if_pos (.inr (by rw[c2,qz]))]
      have e5:VM n r x=0:=by unfold VM;rw[e4]
      rw[e5,e4];simp -implicitDefEqProofs only[go_sem,f0,f1,f5,f8,Z7,q4,D6,SV,P2.Zh,n1,n2,n3,fx,Sv,qy,qz,aq];exact (bb.YU nT _).YU Ig _
     ·
      simp -implicitDefEqProofs only[go_sem,f0,f1,f5,f8,Z7,q4,D6,SV,P2.Zh,n1,n2,n3,fx,Sv,qy,qz];unfold XU;refine⟨⟨(hg.YU nT _).YU Ig _,f0,f1,f5,s+1,rfl,nT,?_⟩,?_⟩
      .rw[he,<-ef,Qe,if_neg (by rw[c1,c2];simp[qy,qz]),if_neg (by rw[c1];simp)]
      .simp only[vi,Zq,↓reduceIte,f8];omega
 .have Xv:¬(s:Int)<40:=nT;have e4:free n r x=aa:=by rw[eF,show 40-s=0 by omega];rfl
  have e5:VM n r x=0:=by unfold VM;rw[e4]
  rw[e5,e4];simp -implicitDefEqProofs only[go_sem,f8,Xv,bb,aq]
def ZhK(B:Nat)(o:Ow)(h0 h:Hp)(u:am)(LL:List (List Vt)):Prop:=
 ∃ws:List am,UK B 102 1 h u (U LL) ws/\az (fun w l=>TO o h0 w l/\(U l)<=1000000) ws LL
def jC(o:Ow)(h:Hp)(u:am)(LL:List (List Vt)):Prop:=∃p c,u=H p (U LL) c/\(LL≠[]->∃b off,p=O ⟨b,off,aa⟩/\b<h.size/\o b=aa/\∀i (hi:i<(U LL)),∃w,hc h ⟨b,off+i,aa⟩=O w/\TO o h w LL[i]/\LL[i].length<=1000000)
theorem jC.vss{o:Ow}{h:Hp}{u:am}{LL:List (List Vt)}(s:jC o h u LL):Vss h u LL:=by
 obtain⟨p,c,hv,hh⟩:=s;refine⟨p,c,hv,fun Y4=>?_⟩;obtain⟨b,off,h1,h2,h3,h4⟩:=hh Y4;refine⟨b,off,h1,h2,fun i hi=>?_⟩;obtain⟨w,g1,g2,g3⟩:=h4 i hi;exact⟨w,g1,g2.ts,nT⟩
theorem jC.Ze{S:Tg->Prop}{o o':Ow}{h h':Hp}{u:am}{LL:List (List Vt)}(s:jC o h u LL)(k:Kp S o h o' h'):jC o' h' u LL:=by
 obtain⟨p,c,hv,hh⟩:=s;refine⟨p,c,hv,fun Y4=>?_⟩;obtain⟨b,off,h1,h2,h3,h4⟩:=hh Y4;obtain⟨q1,q2⟩:=k.Ze b h2 fun t ht=>by rw[h3]at ht;cases ht
 refine⟨b,off,h1,Nat.lt_of_lt_of_le h2 k.size,q2.trans h3,fun i hi=>?_⟩;obtain⟨w,g1,g2,g3⟩:=h4 i hi;refine⟨w,?_,g2.Ze k,g3⟩;unfold hc at g1 ⊢;rw[q1];exact g1
theorem ZhK.Zvz{o:Ow}{h0 h:Hp}{u:am}{LL:List (List Vt)}(s:ZhK h0.size o h0 h u LL)(d:Vx o h0)(hb:Zj h0.size h0 h):jC o h u LL:=by
 obtain⟨ws,Zm,al⟩:=s;have ZdO:(U ws)=(U LL):=by
  clear Zm
  induction al with
  | nil=>rfl
  | cons _ _ ih=>simp[ih]
 have ZvA:∀i (hi:i<(U LL)),∃w,ws[i]? = O w/\TO o h0 w LL[i]/\LL[i].length<=1000000:=by
  clear Zm ZdO
  induction al with
  | nil=>intro i hi;simp at hi
  | cons CT _ ih=>
   intro i hi
   cases i with
   | zero=>exact⟨_,rfl,CT⟩
   | succ i=>exact ih i (by simpa using hi)
 obtain⟨p,c,hv,hl,XI⟩:=Zm.sl;refine⟨p,c,hv,fun Y4=>?_⟩;have Gm:0<(U LL):=List.length_pos_iff.2 Y4;obtain⟨b,off,rfl,Es⟩:=XI (by intro e;rw[e]at ZdO;simp at ZdO;omega);have hbB:h0.size<=b:=by
  refine Zm.ZW b ?_;rcases Zm with⟨⟨q,h1⟩,h2,h3⟩|⟨b',cap,sp,_,h1,_,_,_,hm⟩
  .subst h3;simp at ZdO;omega
  .rw[hv]at h1;simp only[Value.slice.injEq,Option.some.injEq,Addr.mk.injEq]at h1;obtain⟨⟨rfl,_,_⟩,h12,h13⟩:=h1;rw[hv];have:c≠0:=nT;simp[Yf,this]
 refine⟨b,off,rfl,Vj (Es 0 nT),d b hbB,fun i hi=>?_⟩;obtain⟨w,h1,h2,h3⟩:=ZvA i hi;have HN:i<(U ws):=nT;rw[List.getElem?_eq_getElem HN]at h1;exact⟨w,by rw[Es i HN,Option.some.inj h1],h2.Ze (ZX d hb),h3⟩
theorem dd{α β:Type}{R:α->β->Prop}{l:List α}{k:List β}(s:az R l k){a:α}{b:β}(h:R a b):az R (l++[a]) (k++[b]):=by
 induction s with
 | nil=>exact .cons h .nil
 | cons x _ ih=>exact .cons x ih
theorem rI(l:List Vt)(v:Vt):Pd (l++[v])=if Pd l<v.Zt then v.Zt else Pd l:=by
 unfold Pd;rw[bk];rfl
theorem Xx.mV{o:Ow}{i:Nat}{h:Hp}{ra:RA}{r:Xw}(s:Xx o i h ra r)(d:Vx o h){k:Int}{x:Cm}:
  Kp (fun t=>t=.ZT i) o h o (h.setIfInBounds ra.qb (Jm (ins (VC Sv r.ZT) k (ao x.C.toArray))))/\Xx o i (h.setIfInBounds ra.qb (Jm (ins (VC Sv r.ZT) k (ao x.C.toArray)))) ra { r with ZT:=ins r.ZT k x }:=by
 have kk:Kp (fun t=>t=.ZT i) o h o (h.setIfInBounds ra.qb (Jm (ins (VC Sv r.ZT) k (ao x.C.toArray)))):=(Kp.refl d (fun t=>t=.ZT i)).set s.ZT.1 rfl _;exact⟨kk,s.ZW.Ze kk Hy,s.ZF.Ze kk Hy,s.OI.Ze kk,⟨s.ZT.1,by rw[ZQ s.ZT.2,Of];rfl⟩,s.YZ.Ze kk Hy,s.Rw.Ze kk (fun _ e=>by cases e),s.keys⟩
theorem Pg(r:Xw):(Yq r).length=5:=rfl
theorem D7(r:Xw)(m:Nat)(hm:m<(Yq r).length):(Yq r)[m]=(Yg r.ZF (m:Int)).getD []:=by
 simp only[Yq,List.getElem_map,List.getElem_range]
theorem Xx.list{o:Ow}{i:Nat}{h:Hp}{ra:RA}{r:Xw}(s:Xx o i h ra r)(hp:∀x∈r.ZF,x.2.length<=1000000)(m:Int):∃p c vs,(Yg ra.pv m).getD (H aa 0 0)=H p (U vs) c/\(Yg r.ZF m).getD []=vs/\TO o h (H p (U vs) c) vs/\(U vs)<=1000000:=by
 rcases s.OI.Yg m with⟨h1,h2⟩|⟨w,vs,h1,h2,iv⟩
 .exact⟨aa,0,[],by rw[h1];rfl,by rw[h2];rfl,Im.nil _ _ _ _,uK⟩
 .obtain⟨p,c,rfl⟩:=iv.ZO;exact⟨p,c,vs,by rw[h1];rfl,by rw[h2];rfl,iv,hp _ (RQ h2)⟩
set_option maxHeartbeats 1000000 in
theorem zY(T:bc)(h:Hp)(o:Ow)(wb i nb:Nat)(a:NA)(n:Nd)(ra:RA)(r:Xw)(d:Vx o h)(N:Z5 o h wb i nb { a with Zg:=O ra } { n with Zg:=O r })(hp:∀x∈r.ZF,x.2.length<=1000000)(hs:∀x∈r.ZF,∀v∈x.2,v.Zt<=1000000)(hl:n.Zw.length<=1000000000000):
  Zd aU T 114 #[Zx nb,Zx ra.rb] h fun v' h'=>∃ra',ra'.rb=ra.rb/\Kp (JV i) o h o h'/\Z5 o h' wb i nb { a with Zg:=O ra' } { n with Zg:=O (Wq n r) }:=by
 have TU:=Za N.ZW.2;have R:Xx o i h ra r:=N.pt.Zg;have LN:=Za R.ZW.2;refine Zd.XT [_,_] Tryz.func114 ?_;unfold Zx;simp only[go_sem];refine VS.Yk (fun F g=>Zj h.size h g/\F 0=Z (O ⟨nb,0,aa⟩)/\F 1=Z (O ⟨ra.rb,0,aa⟩)/\∃m:Nat,m<=5/\F 12=Q D m/\ZhK h.size o h g (F 4) ((Yq r).take m)/\F 5=Q D (Pd ((Yq r).take m).flatten))
  (fun F _=>5-(vi (F 12)).toNat) rfl ⟨Zj.refl _ _,rfl,rfl,0,nT,rfl,⟨[],UK.nil _ _ _ _,.nil⟩,rfl⟩ ?_
 rintro F g ⟨hg,f0,f1,m,hm,f12,hG,f5⟩;have kg:=ZX d hg;have N1:=N.Zn kg;have R1:=R.Ze kg (fun _ _ q=>q);obtain⟨_,q2,q3,q4,_⟩:=R1.rr;have gs:=hg.size;by_cases ZS:m<5
 .have Z7:(m:Int)<5:=nT;obtain⟨pm,cm,vs,e1,e2,iv,zf⟩:=R1.list hp (m:Int);have hm5:m<(Yq r).length:=by rw[Pg];exact ZS
  have e3:(Yq r)[m]=vs:=by rw[D7,e2]
  have e4:(Yq r).take (m+1)=(Yq r).take m++[vs]:=by rw[Y1 _ m hm5,e3]
  have lk:=fun (G:Hp) (hG:Zj g.size g G) (K:am->Hp->Prop)=>Y9 (h:=G) (K:=K) (n:=(m:Int)) (c:=false) IP zw (hG.get (Za R1.ZF.2) R1.ZF.2);simp only[e1,a3,if_false]at lk;have lk0:=lk g (Zj.refl _ _);obtain⟨ws,Zm,al⟩:=hG;obtain⟨p4,c4,hF4⟩:∃p c,F 4=H p ((Yq r).take m).length c:=by
   obtain⟨p,c,h1,_⟩:=Zm.sl;exact⟨p,c,h1⟩
  have ml:((Yq r).take m).length=m:=by rw[List.length_take,Pg];omega
  rw[ml]at hF4 Zm;rw[hF4]at Zm;simp only[go_sem,f0,f1,f5,f12,hF4,Z7,q2,lk0];have src:Sl 1 (g.push (J [H pm (U vs) cm].toArray 102)) (H (O ⟨g.size,0,aa⟩) 1 1) 1 [H pm (U vs) cm]:=Sl.made uK 1;refine Is (E:=102) (n:=1) (B:=h.size) (bytes:=24) (m:=m) (k:=1) (cs:=ws) Zgz Tryz.underlying227 ZkX ZkZ rfl ZkY (Zm.push _) Ig src rfl nT nT ?_;intro u3 g3 ZmS ZvC _;have hg3:Zj h.size h g3:=(hg.YU nT _).trans (ZvC.Yz Ig (Zm.push (J [H pm (U vs) cm].toArray 102)).ZW);have kg3:=ZX d hg3;have R3:=R.Ze kg3 (fun _ _ q=>q);obtain⟨_,q23,_,_,_⟩:=R3.rr;have lk3:=fun (K:am->Hp->Prop)=>Y9 (K:=K) (n:=(m:Int)) (c:=false) IP zw R3.ZF.2;simp only[e1,a3,if_false]at lk3;obtain⟨p5,c5,rfl⟩:∃p c,u3=H p (m+1) c:=by obtain⟨p,c,h1,_⟩:=ZmS.sl;exact⟨p,c,h1⟩
  have iv0:TO o h (H pm (U vs) cm) vs:=by
   obtain⟨pm',cm',vs',x1,x2,iv',_⟩:=R.list hp (m:Int);rw[e1]at x1;rw[e2]at x2;subst x2;rw[<-x1]at iv';exact iv'
  have al3:az (fun w l=>TO o h w l/\(U l)<=1000000) (ws++[H pm (U vs) cm]) ((Yq r).take m++[vs]):=by
   exact dd al ⟨iv0,zf⟩
  simp only[go_sem,f0,f1,f5,f12,Z7,q23,lk3];obtain⟨LL,hLL⟩:=ZN (((Yq r).take m).flatten);have fF:((Yq r).take (m+1)).flatten=LL++vs:=by rw[e4,List.flatten_append,<-hLL];simp
  rw[<-hLL]at f5;have ivo:=fun g' (hb:Zj h.size h g')=>FA (iv0.Ze (ZX d hb)).ts;refine VS.Yk (fun F' g'=>Zj h.size h g'/\F' 0=Z (O ⟨nb,0,aa⟩)/\F' 1=Z (O ⟨ra.rb,0,aa⟩)/\F' 12=Q D m/\F' 29=H pm (U vs) cm/\F' 30=Q D (U vs)/\F' 4=H p5 (m+1) c5/\UK h.size 102 1 g' (H p5 (m+1) c5) (m+1) (ws++[H pm (U vs) cm])/\∃j:Nat,j<=(U vs)/\F' 31=Q D j/\F' 5=Q D (Pd (LL++vs.take j)))
   (fun F' _=>(U vs)-(vi (F' 31)).toNat) rfl ⟨hg3,f0,f1,f12,rfl,rfl,rfl,ZmS,0,nT,rfl,by rw[List.take_zero,ab];exact f5⟩ ?_
  rintro F2 g4 ⟨Hw,f0,f1,f12,f29,f30,f4,ZmU,j,hj,f31,f5⟩;by_cases fS:j<(U vs)
  .have ZvD:(j:Int)<(U vs):=nT;obtain⟨pp,cc,FG,bP⟩:=ivo g4 Hw;obtain⟨bb,oo,hpp,T5,PH⟩:=bP (by intro e;rw[e]at fS;simp at fS);simp only[Value.slice.injEq]at FG;obtain⟨rfl,_,rfl⟩:=FG;subst hpp;have r1:=PH j fS;unfold Zv at r1;simp only[go_sem,f0,f1,f12,f29,f30,f4,f31,f5,ZvD,r1];unfold XU;refine⟨⟨Hw.YU Hw.size _,f0,f1,f12,f29,f30,f4,ZmU.push _,j+1,fS,rfl,?_⟩,?_⟩
   .show Value.int D _=_;rw[Y1 vs j fS,<-List.append_assoc,rI]
   .simp only[vi,Zq,↓reduceIte,f31];omega
  .have Xv:¬(j:Int)<(U vs):=nT;obtain rfl:j=(U vs):=nT;rw[List.take_length]at f5;simp only[go_sem,f30,f31,Xv,f12];unfold XU;refine⟨⟨Hw,f0,f1,m+1,ZS,rfl,⟨_,?_,by rw[e4];exact al3⟩,by rw[fF];exact f5⟩,?_⟩
   .show UK _ _ _ _ (F2 4) _ _;rw[f4,e4,List.length_append,ml];exact ZmU
   .simp only[vi,Zq,↓reduceIte,f12];omega
 .have Xv:¬(m:Int)<5:=nT;obtain rfl:m=5:=nT;have ht5:(Yq r).take 5=Yq r:=by rw[List.take_of_length_le];exact Nat.le_of_eq (Pg r)
  rw[ht5]at hG f5;have P1:=ZP N1.ZW.2 N1.pt.store.len;have Q3:=Za N1.ZW.2;obtain⟨lp,lc,KN,_⟩:=XC.ZO N1.pt.Zw;have P11:=P1.Zw;rw[KN]at P11;have rK:=hG.Zvz d hg;obtain⟨u,hu⟩:=ZN (F 4);rw[<-hu]at rK hG;obtain⟨Z1,Lx⟩:=ZN (Pd (Yq r).flatten);rw[<-Lx]at f5;have htl:Z1<=1000000:=by
   rw[Lx];have key:∀(l:List Vt) (t:Int),t<=1000000->(∀v∈l,v.Zt<=1000000)->l.foldl (fun t v=>if t<v.Zt then v.Zt else t) t<=1000000:=by
    intro l
    induction l with
    | nil=>intro t ht _;exact ht
    | cons x l ih=>
     intro t ht hh;refine ih _ ?_ (fun v hv=>hh v (List.mem_cons_of_mem _ hv));show (if t<x.Zt then x.Zt else t)<=1000000;split
     .exact hh x List.mem_cons_self
     .exact ht
   refine key _ _ nT ?_;intro v hv;simp only[List.mem_flatten]at hv;obtain⟨l,xM,Hd⟩:=hv;obtain⟨k,hk,rfl⟩:=List.getElem_of_mem xM;rw[D7]at Hd
   cases hx:Yg r.ZF (k:Int) with
   | none=>rw[hx]at Hd;cases Hd
   | some y=>rw[hx]at Hd;exact hs _ (RQ hx) v Hd
  clear hG;obtain⟨LL,hLL⟩:=ZN (Yq r);rw[<-hLL]at rK Lx;obtain⟨C,hC⟩:=ZN ((Z1+1).toNat-n.Zw.length);have iY:Wq n r = { r with ZT:=(bf n.Zw.length C).foldl (J2 n LL) r.ZT,Xg:=true }:=by
   unfold Wq;rw[hC,Lx,hLL]
  rw[iY];have hu':=hu.symm;simp only[go_sem,f0,f1,f5,f12,Xv,P11];refine VS.Yk (fun F' g'=>Kp (JV i) o h o g'/\F' 0=Z (O ⟨nb,0,aa⟩)/\F' 1=Z (O ⟨ra.rb,0,aa⟩)/\F' 4=u/\F' 5=Q D Z1/\jC o g' u LL/\∃k:Nat,k<=C/\F' 9=Q D ((n.Zw.length+k:Nat):Int)/\Z5 o g' wb i nb { a with Zg:=O ra } { n with Zg:=O { r with ZT:=(bf n.Zw.length k).foldl (J2 n LL) r.ZT } })
   (fun F' _=>n.Zw.length+C-(vi (F' 9)).toNat) rfl ⟨Z0 kg,f0,f1,hu',f5,rK,0,nT,rfl,N1⟩ ?_
  rintro F2 g2 ⟨K2,f0,f1,f4,f5,rK,k,hk,f9,N2⟩;obtain⟨pk,hpk⟩:=ZN ((bf n.Zw.length k).foldl (J2 n LL) r.ZT);rw[<-hpk]at N2;have R2:Xx o i g2 ra { r with ZT:=pk }:=N2.pt.Zg;obtain⟨_,_,_,q4,_⟩:=R2.rr;have P2:=ZP N2.ZW.2 N2.pt.store.len;have Ug:=Za N2.ZW.2;have cY:=Za R2.ZW.2;by_cases hkc:k<C
  .have hle:(((n.Zw.length+k:Nat):Int))<=Z1:=nT;have lk:=fun (K:am->Hp->Prop)=>Y9 (K:=K) (n:=((n.Zw.length+k:Nat):Int)) (c:=true) Rv LJ N2.pt.Zh.2;rw[Jl]at lk;have XE:(bf n.Zw.length (k+1)).foldl (J2 n LL) r.ZT=J2 n LL pk (n.Zw.length+k):=by
    rw[List.range'_concat,bk,<-hpk];simp
   cases hx:Yg n.Zh ((n.Zw.length+k:Nat):Int) with
   | some y=>
    have e6:J2 n LL pk (n.Zw.length+k)=pk:=by unfold J2;rw[if_neg (by rw[hx];simp)]
    simp only[show ({ n with Zg:=O { r with ZT:=pk } }:Nd).Zh=n.Zh from rfl,hx,a0,aw,a4,↓reduceIte]at lk;simp only[go_sem,f0,f1,f4,f5,f9,hle,P2.Zh,lk,Sv];have kx:=Yu K2.Yp (J y.C.toArray 24);unfold XU;refine⟨⟨K2.push _,f0,f1,f4,f5,rK.Ze kx,k+1,hkc,?_,by rw[XE,e6];exact N2.Zn kx⟩,?_⟩
    .show Value.int D _=Value.int D _
     congr 1
    .simp only[vi,Zq,↓reduceIte,f9];omega
   | none=>
    have e6:J2 n LL pk (n.Zw.length+k)=ins pk ((n.Zw.length+k:Nat):Int) (OH LL ((n.Zw.length+k:Nat):Int)):=by unfold J2;rw[if_pos hx]
    simp only[show ({ n with Zg:=O { r with ZT:=pk } }:Nd).Zh=n.Zh from rfl,hx,a7,a5,aq,↓reduceIte]at lk;simp only[go_sem,f0,f1,f4,f5,f9,hle,P2.Zh,lk];obtain⟨g3,hg3⟩:=ZN (g2.push (J Nv.C.toArray 24):Hp);have kx:Kp WL o g2 o g3:=by rw[hg3];exact Yu K2.Yp _
    rw[<-hg3];have N3:=N2.Zn kx;have R3:Xx o i g3 ra { r with ZT:=pk }:=N3.pt.Zg;obtain⟨_,_,_,q43,_⟩:=R3.rr;have ZvE:=Za R3.ZW.2;have hv3:=rK.Ze kx;have LLl:(U LL)<=4611686018427387904:=by rw[hLL,Pg];omega
    refine VS.z (g3.size) [12] (.p 0 (.p 1 (.p 2 (.q 3 (.p 4 (.p 5 (.p 6 (.s 7 (.p 8 (.p 9 (.p 10 (.p 11 (.w 12 .nil))))))))))))) mixed uj ?_;simp only[go_sem,f0,f1,f4,f5,f9,q43,ZvE];refine (ZcX T g3 u LL ((n.Zw.length+k:Nat):Int) hv3.vss LLl).use ?_;rintro _ g4 ⟨Zda,b4⟩;unfold By at Zda;subst Zda;have k4:=ZX kx.Yp b4;have N4:=N3.Zn k4;have R4:Xx o i g4 ra { r with ZT:=pk }:=N4.pt.Zg;have eC:Bx (if Sr ((n.Zw.length+k:Nat):Int) LL.flatten=0 then WR ((n.Zw.length+k:Nat):Int) LL.flatten else SM)=(OH LL ((n.Zw.length+k:Nat):Int)).C:=by
     unfold OH;split<;>rfl
    rw[eC];simp only[go_sem,b4,f0,f1,f4,f5,f9];rw[Qa Rv R4.ZT.2];obtain⟨k5,R5⟩:=R4.mV k4.Yp (k:=((n.Zw.length+k:Nat):Int)) (x:=OH LL ((n.Zw.length+k:Nat):Int));have k5':Kp (JV i) o g4 o _:=k5.mono fun t q=>.inr (.inr (.inl q));simp only[go_sem,f9];unfold XU;refine⟨⟨(K2.trans ((Z0 kx).trans (Z0 k4))).trans k5',f0,f1,f4,f5,(hv3.Ze k4).Ze k5',k+1,hkc,?_,?_⟩,?_⟩
    .show Value.int D _=Value.int D _
     congr 1
    .rw[XE,e6];exact⟨N4.ZW.Ze k5 Hy,Yh.U7 N4.pt k5' rfl rfl R5⟩
    .simp only[vi,Zq,↓reduceIte,f9];omega
  .have hgt:¬(((n.Zw.length+k:Nat):Int))<=Z1:=nT;obtain rfl:k=C:=nT;obtain⟨g4,w4,h4⟩:∃g4,QQ g2 ⟨ra.rb,3,aa⟩ (a8 true)=O g4/\g4=g2.setIfInBounds ra.rb (J (jx { r with ZT:=pk,Xg:=true } ra).toArray 155):=by
    refine⟨_,?_,rfl⟩;rw[Xh R2.ZW.2,if_pos ⟨by simp[jx],rfl⟩];rfl
   simp only[go_sem,f0,f1,f4,f5,f9,hgt,cY,w4];have kk:Kp (fun t=>t=.Zg i) o g2 o g4:=by rw[h4];exact (Kp.refl K2.Yp (fun t=>t=.Zg i)).set R2.ZW.1 rfl _
   have R4:Xx o i g4 ra { r with ZT:=pk,Xg:=true }:=⟨⟨R2.ZW.1,by rw[h4];exact ZQ R2.ZW.2⟩,R2.ZF.Ze kk Hy,R2.OI.Ze kk,R2.ZT.Ze kk Hy,R2.YZ.Ze kk Hy,R2.Rw.Ze kk (fun _ e=>by cases e),R2.keys⟩
   rw[<-hpk];refine⟨ra,rfl,K2.trans (kk.mono fun t q=>.inl q),N2.ZW.Ze kk Hy,Yh.U7 N2.pt (kk.mono fun t q=>.inl q) rfl rfl R4⟩
