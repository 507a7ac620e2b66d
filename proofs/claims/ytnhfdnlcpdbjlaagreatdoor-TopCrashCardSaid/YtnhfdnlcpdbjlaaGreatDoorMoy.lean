/- Part Moy. -/
import Derived.Test.YtnhfdnlcpdbjlaaGreatDoorMop
import Derived.Test.YtnhfdnlcpdbjlaaGreatDoorOpn
open Go.Value renaming slice→H,int→Q,pointer→Z,agg→au,bool→a5
open Go.IntKind renaming i64→D
open Go.Obj renaming cells→J
open Go.Proofs.Tryz renaming prog→aI
open List renaming length→U,append_nil→ak,map_cons→a6,nodup_cons→a7,map→ba,range'→bc,foldl_append→bg,mem_cons→bh
open Nat renaming le_refl→am
open Option renaming isSome_none→aw,getD_some→aF,map_some→aK,isSome_some→aX,getD_none→a0,map_none→a4,some→O,none→aa
open Array renaming size_push→a3,getElem?_push→bd
open Bool renaming false_eq_true→aU
open And renaming intro→a9
open Go renaming Value→an,World→a8,TypeId→bf
namespace Go.Proofs.YtnhfdnlcpdbjlaaGreatDoor
open Go Go.V
set_option linter.all false
set_option maxRecDepth 100000
theorem qf(G:Hp)(X Y:Obj):((G.push X).push Y)[G.size]? = O X:=by rw[ZF sW,Zd]
theorem gs2(G:Hp)(k:Nat)(X Y:Obj):((G.setIfInBounds k X).push Y)[G.size]? = O Y:=by
 have:=Zd (h:=G.setIfInBounds k X) (o:=Y);rwa [Array.size_setIfInBounds]at this
theorem tE(G:Hp)(X Y:Obj):((G.push X).push Y)[G.size+1]? = O Y:=by
 have:=Zd (h:=G.push X) (o:=Y);rwa [a3]at this
def lD(B:Nat)(g':Hp)(A C:an)(p:Yg)(l:List Vt)(b:Yg):Prop:=
 ∃ka kc w1 w2,A=Zz ka/\C=Zz kc/\B<=ka/\B<=kc/\g'[ka]? = O (J (XC (if YF p l b=0 then b else ⟨0,0⟩) w1).toArray 66)/\g'[kc]? = O (J [w2].toArray 64) /\
  Qw B 97 Zv 8 g' w1 (if YF p l b=0 then l else [])/\Qw B 97 Zv 8 g' w2 (if YF p l b=0 then l else [])
def Dx(B:Nat)(g':Hp)(A:an)(l:List Nat)(n:Int)(E:Int)(add:List Nat):Prop:=
 ∃ka w,A=Z (O ⟨ka,0,aa⟩)/\B<=ka/\g'[ka]? = O (J [w,Q D (if E=0 then n else 0)].toArray 61)/\YB B 5 g' w (if E=0 then l++add else [])
set_option maxHeartbeats 1000000 in
theorem bB(T:a8)(h:Hp)(o:Ow)(wb i nb:Nat)(YK:Nat->Nat)(a:NA)(n:Nd)(Xu:WA)(fl:List Yn)(YA:Nat->Int)(ZG:List OS)(l:Yn)(w:an)(d:WY o h)(N:Z6 o h wb i nb a n)(W:Z0 o h wb YK Xu fl YA ZG)(iv:Tw o h w l.vs)(Xa:(U fl)<=1000000000000)(yi:n.Zr.l.length<=1000000)(td:(U n.data)<=1000000)(tb:dS o h):
  Zg aI T 67 #[Zz wb,Zz nb,au (XN l w).toArray] h fun v' h'=>∃o' a' Js,Kp (fun t=>t=.world\/t=.Zm\/t=.ZX i) o h o' h'/\Z6 o' h' wb i nb a' (Y3 n l).n/\Z0 o' h' wb YK Js (fl++(Y3 n l).ls) YA ZG:=by
 obtain⟨pw,cw,rfl⟩:=iv.ZN;refine Zg.XK [_,_,_] Tryz.func67 ?_;unfold Zz XN;simp only[go_sem];obtain⟨h1,Xp⟩:=ZP (((h.push (J [Zz wb].toArray 52)).push (J [Zz nb].toArray 59)).push (J (XN l (H pw (U l.vs) cw)).toArray 99):Hp);have k1:Kp UN o h o h1:=by rw[Xp];exact ((Kp.refl d _).push _ |>.push _).push _
 have s1:h1.size=h.size+3:=by rw[Xp];simp
 have d1:∀b,h.size<=b->o b=aa:=d;have x3:Z9 o h1 h.size (J [Zz wb].toArray 52):=⟨d _ mD,by rw[Xp,ZF vI,qf]⟩
 have x4:Z9 o h1 (h.size+1) (J [Zz nb].toArray 59):=⟨d _ mD,by rw[Xp,ZF sW,tE]⟩
 have x5:Z9 o h1 (h.size+2) (J (XN l (H pw (U l.vs) cw)).toArray 99):=⟨d _ mD,by
  have:=Zd (h:=(h.push (J [Zz wb].toArray 52)).push (J [Zz nb].toArray 59)) (o:=J (XN l (H pw (U l.vs) cw)).toArray 99);rw[Xp];simpa using this⟩
 have e0:((h.push (J [Zz wb].toArray 52)).push (J [Zz nb].toArray 59)).push (J (XN l (H pw (U l.vs) cw)).toArray 99)=h1:=Xp.symm;unfold Zz XN at e0;rw[e0];clear e0 Xp;have N1:=N.Zo k1;have W1:=W.Zo k1;have iv1:=iv.keep k1;have R1:=ZS N1.ZZ.2 N1.pt.store.len;have QV:=Za N1.ZZ.2;have l3:=Za x3.2;have l4:=Za x4.2;have l5:=Za x5.2;have r3:hc h1 ⟨h.size,0,aa⟩=O (Zz wb):=Zn x3.2;have r4:hc h1 ⟨h.size+1,0,aa⟩=O (Zz nb):=Zn x4.2;have r53:rd h1 ⟨h.size+2,3,aa⟩ 2=O [Q D l.b.r,Q D l.b.n]:=by rw[YI x5.2 (by simp[XN])];rfl
 have r51:hc h1 ⟨h.size+2,1,aa⟩=O (Q D l.JA):=Zn x5.2;unfold Zz at r3 r4;have GY:=R1.Zr;obtain⟨pv,cv,tF⟩:=N1.pt.XO.ZN;rw[tF]at GY;have call:∀G,Zk h1.size h1 G->Zg aI T 78 #[au #[Q D n.Zr.p.r,Q D n.Zr.p.n,H pv n.Zr.l.length cv],au #[Q D l.b.r,Q D l.b.n]] G fun v' h'=>AZ G.size h' v' n.Zr.p n.Zr.l l.b/\Zk G.size G h':=fun G hG=>
  RF T G n.Zr.p _ n.Zr.l l.b (by rw[<-tF];exact N1.pt.XO.ts.YJ hG) mD
 obtain⟨E,hE⟩:=ZP (YF n.Zr.p n.Zr.l l.b);have wA:∀(G:Hp) (k:Nat) (r m:Int) (p:Option Addr) (L c:Nat),G[k]? = O (J [Q D 0,Q D 0,H aa 0 0].toArray 66)->wr G ⟨k,0,aa⟩ [Q D r,Q D m,H p L c]=O (G.setIfInBounds k (J [Q D r,Q D m,H p L c].toArray 66)):=fun G k r m p L c hx=>by
  rw[Yh hx 0 _];rfl
 have wB:∀(G:Hp) (k:Nat) (p:Option Addr) (L c:Nat),G[k]? = O (J [H aa 0 0].toArray 64)->QF G ⟨k,0,aa⟩ (H p L c)=O (G.setIfInBounds k (J [H p L c].toArray 64)):=fun G k p L c hx=>by
  rw[Xk hx 0 _];rfl
 refine VS.mono (N:=fun F' g'=>Zk h1.size h1 g'/\F' 3=Z (O ⟨h.size,0,aa⟩)/\F' 4=Z (O ⟨h.size+1,0,aa⟩)/\F' 5=Z (O ⟨h.size+2,0,aa⟩)/\F' 8=Q D E/\lD h1.size g' (F' 6) (F' 7) n.Zr.p n.Zr.l l.b) ?_ ?_ (fun _ _ _ h=>h) (fun _ _ h=>h)
 .refine VS.z (h1.size) [6,13,14] (.q 0 (.p 1 (.p 2 (.q 3 (.p 4 (.q 5 (.or 6 (.p 7 (.p 8 (.p 9 (.p 10 (.or 11 (.s 12 (.w 13 (.w 14 (.p 15 .nil)))) (.s 12 (.s 11 (.w 13 (.w 14 (.p 15 .nil)))))))))) (.or 11 (.or 6 (.p 7 (.p 8 (.p 9 (.p 10 (.s 12 (.w 13 (.w 14 (.p 15 .nil)))))))) (.s 12 (.w 6 (.p 7 (.p 8 (.p 9 (.p 10 (.w 13 (.w 14 (.p 15 .nil)))))))))) (.s 12 (.or 6 (.p 7 (.p 8 (.p 9 (.p 10 (.s 11 (.w 13 (.w 14 (.p 15 .nil)))))))) (.s 11 (.w 6 (.p 7 (.p 8 (.p 9 (.p 10 (.w 13 (.w 14 (.p 15 .nil))))))))))))))))))) mixed sV ?_;simp only[go_sem,r4,GY,r53,QV,l4,l5];unfold lD Zz XC
  repeat' (first|with_reducible exact Zk.refl _ _|with_reducible exact Zk.push mD _|with_reducible refine a9 ?_ ?_)
  all_goals first
   | (refine (call h1 (Zk.refl _ _)).use ?_
      rintro _ g5 ⟨⟨w1,w2,rfl,o1,o2⟩,b5⟩;obtain⟨p1,c1,rfl,_⟩:=o1.open;obtain⟨p2,c2,rfl,_⟩:=o2.open;rw[<-hE]at *;have s5:=b5.size;unfold XC;simp only[go_sem,b5];refine⟨⟨_,_,_,_,rfl,rfl,s5,mD,qf _ _ _,tE _ _ _,(o1.push _).push _,(o2.push _).push _⟩,⟨_,_,_,_,rfl,rfl,mD,s5,tE _ _ _,qf _ _ _,(o1.push _).push _,(o2.push _).push _⟩⟩)
   | (refine (call (h1.push (J _ 66)) (Zk.push (am _) _)).use ?_
      rintro _ g5 ⟨⟨w1,w2,rfl,o1,o2⟩,b5⟩;obtain⟨p1,c1,rfl,_⟩:=o1.open;obtain⟨p2,c2,rfl,_⟩:=o2.open;rw[<-hE]at *;have s5:=b5.size;rw[a3]at s5;have B5:Zk h1.size h1 g5:=(Zk.push (am _) _).trans (b5.mono sW);have xA:=b5.get (k:=h1.size) sW Zd;have Pc:=wA _ _ (if E=0 then l.b else ⟨0,0⟩).r (if E=0 then l.b else ⟨0,0⟩).n p1 (if E=0 then n.Zr.l else []).length c1 xA;have zA:=Za xA;unfold XC;simp only[go_sem,B5,Pc,zA];exact⟨_,_,_,_,rfl,rfl,am _,mD,by rw[ZF (by simpa using zA)];exact ZQ xA,gs2 _ _ _ _,((o1.Yi sW _).push _).mono sW,((o2.Yi sW _).push _).mono sW⟩)
   | (refine (call (h1.push (J _ 64)) (Zk.push (am _) _)).use ?_
      rintro _ g5 ⟨⟨w1,w2,rfl,o1,o2⟩,b5⟩;obtain⟨p1,c1,rfl,_⟩:=o1.open;obtain⟨p2,c2,rfl,_⟩:=o2.open;rw[<-hE]at *;have s5:=b5.size;rw[a3]at s5;have B5:Zk h1.size h1 g5:=(Zk.push (am _) _).trans (b5.mono sW);have xB:=b5.get (k:=h1.size) sW Zd;have GX:=wB _ _ p2 (if E=0 then n.Zr.l else []).length c2 xB;have zB:=Za xB;unfold XC;simp only[go_sem,B5,GX,zB];exact⟨_,_,_,_,rfl,rfl,mD,am _,gs2 _ _ _ _,by rw[ZF (by simpa using zB)];exact ZQ xB,((o1.Yi sW _).push _).mono sW,((o2.Yi sW _).push _).mono sW⟩)
   | (refine (call ((h1.push (J _ 66)).push (J _ 64)) ((Zk.push (am _) _).Y1 sW _)).use ?_
      rintro _ g5 ⟨⟨w1,w2,rfl,o1,o2⟩,b5⟩;obtain⟨p1,c1,rfl,_⟩:=o1.open;obtain⟨p2,c2,rfl,_⟩:=o2.open;rw[<-hE]at *;have s5:=b5.size;rw[a3,a3]at s5;have B5:Zk h1.size h1 g5:=((Zk.push (am _) _).Y1 sW _).trans (b5.mono vI);have xA:=b5.get (k:=h1.size) vI (qf _ _ _);have xB:=b5.get (k:=h1.size+1) sW (tE _ _ _);have Pc:=wA _ _ (if E=0 then l.b else ⟨0,0⟩).r (if E=0 then l.b else ⟨0,0⟩).n p1 (if E=0 then n.Zr.l else []).length c1 xA;have zA:=Za xA;have Kl:=fun o:Obj=>(Y2 (o:=o) (show h1.size≠h1.size+1 by omega)).trans xB;have GX:=fun o:Obj=>wB _ _ p2 (if E=0 then n.Zr.l else []).length c2 (Kl o);have zB:h1.size+1<g5.size:=Za xB;unfold XC;simp only[go_sem,B5,Pc,zA,GX,zB];exact⟨_,_,_,_,rfl,rfl,mD,mD,(Y2 mD).trans (ZQ xA),ZQ (Kl _),((o1.Yi vI _).Yi sW _).mono vI,((o2.Yi vI _).Yi sW _).mono vI⟩)
   | (refine (call ((h1.push (J _ 64)).push (J _ 66)) ((Zk.push (am _) _).Y1 sW _)).use ?_
      rintro _ g5 ⟨⟨w1,w2,rfl,o1,o2⟩,b5⟩;obtain⟨p1,c1,rfl,_⟩:=o1.open;obtain⟨p2,c2,rfl,_⟩:=o2.open;rw[<-hE]at *;have s5:=b5.size;rw[a3,a3]at s5;have B5:Zk h1.size h1 g5:=((Zk.push (am _) _).Y1 sW _).trans (b5.mono vI);have xB:=b5.get (k:=h1.size) vI (qf _ _ _);have xA:=b5.get (k:=h1.size+1) sW (tE _ _ _);have Pc:=wA _ _ (if E=0 then l.b else ⟨0,0⟩).r (if E=0 then l.b else ⟨0,0⟩).n p1 (if E=0 then n.Zr.l else []).length c1 xA;have zA:=Za xA;have Kl:=fun o:Obj=>(Y2 (o:=o) (show h1.size+1≠h1.size by omega)).trans xB;have GX:=fun o:Obj=>wB _ _ p2 (if E=0 then n.Zr.l else []).length c2 (Kl o);have zB:h1.size<g5.size:=Za xB;unfold XC;simp only[go_sem,B5,Pc,zA,GX,zB];exact⟨_,_,_,_,rfl,rfl,mD,mD,(Y2 mD).trans (ZQ xA),ZQ (Kl _),((o1.Yi sW _).Yi vI _).mono vI,((o2.Yi sW _).Yi vI _).mono vI⟩)
 .rintro F1 g1 ⟨b1,f3,f4,f5,f8,ka,kc,w1,w2,fA,fC,ge1,ge2,yA,yC,o1,o2⟩;rw[<-hE]at yA o1 o2;have kb:=ZU k1.Yt b1;have N2:=N1.Zo kb;have W2:=W1.Zo kb;have K2:Kp UN o h o g1:=k1.YJ b1;have y3:=x3.keep kb;have y4:=x4.keep kb;have y5:=x5.keep kb;have tC:=iv1.keep kb;have AG:=(tb.keep k1).keep kb;have R2:=ZS N2.ZZ.2 N2.pt.store.len;have m3:=Za y3.2;have m4:=Za y4.2;have m5:=Za y5.2;have Q3:=Za N2.ZZ.2;have q3:hc g1 ⟨h.size,0,aa⟩=O (Zz wb):=Zn y3.2;have q4:hc g1 ⟨h.size+1,0,aa⟩=O (Zz nb):=Zn y4.2;have lF:rd g1 ⟨h.size+2,3,aa⟩ 2=O [Q D l.b.r,Q D l.b.n]:=by rw[YI y5.2 (by simp[XN])];rfl
  have q51:hc g1 ⟨h.size+2,1,aa⟩=O (Q D l.JA):=Zn y5.2;unfold Zz at q3 q4;have R2p:=R2.bj;by_cases e:E=0
  case neg=>
   have eP:Y3 n l=⟨n,[⟨7,n.me,l.JA,n.Zr.p,SC,[]⟩],[]⟩:=by unfold Y3;rw[<-hE,if_pos e]
   rw[eP];simp only[go_sem,f8,e];refine VS.z (g1.size) [10] (.q 0 (.q 1 (.p 2 (.q 3 (.q 4 (.p 5 (.p 6 (.p 7 (.q 8 (.p 9 (.w 10 .nil))))))))))) mixed sV ?_;simp only[go_sem,f3,f4,f5,q3,q4,q51,R2p,m3,m4,m5,Q3];refine (VE T g1 o wb nb YK n.me Xu fl YA ZG l.JA ⟨7,0,0,n.Zr.p,SC,[]⟩ (H aa 0 0) K2.Yt W2 R2.me Q3 (Im.nil _ _ _ _) Xa).use ?_;rintro v' h' ⟨o',Js,k,_,W'⟩;simp only[go_sem];exact⟨o',a,Js,(ZY K2).trans (k.mono fun t q=>q.elim .inl fun q=>.inr (.inl q)),N2.keep k (by rintro t (rfl|rfl)<;>simp[Tg.of]),W'⟩
  rw[if_pos e]at yA o1 o2;have iv7:Tw o g1 w2 n.Zr.l:=Im.Ws o2.Zr (fun b hb=>k1.Yt b hb);have iv6:Tw o g1 w1 n.Zr.l:=Im.Ws o1.Zr (fun b hb=>k1.Yt b hb);unfold Zz at fA fC;simp only[go_sem,f8,e,f3,f4,f5,fC];obtain⟨g2,U1⟩:=ZP (g1.push (J [TH 90 [h.size,h.size+1,h.size+2,kc]].toArray 1):Hp);have k2:=Yv K2.Yt (J [TH 90 [h.size,h.size+1,h.size+2,kc]].toArray 1);rw[<-U1]at k2;have K3:Kp UN o h o g2:=K2.trans k2;have x9:Z9 o g2 g1.size (J [TH 90 [h.size,h.size+1,h.size+2,kc]].toArray 1):=⟨K2.Yt _ (am _),by rw[U1];exact Zd⟩
  have e2:g1.push (J [TH 90 [h.size,h.size+1,h.size+2,kc]].toArray 1)=g2:=U1.symm;unfold TH at e2;simp only[ba]at e2;unfold Zz at e2;rw[e2];clear e2 U1;have N3:=N2.Zo k2;have W3:=W2.Zo k2;have z3:=y3.keep k2;have z4:=y4.keep k2;have z5:=y5.keep k2;have z6:=(show Z9 o g1 ka _ from⟨k1.Yt ka ge1,yA⟩).keep k2;have z7:=(show Z9 o g1 kc _ from⟨k1.Yt kc ge2,yC⟩).keep k2;have iw7:=iv7.keep k2;have iw6:=iv6.keep k2;have tb3:=AG.keep k2;clear R2 R2p m3 m4 m5 Q3 q3 q4 lF q51 R1 GY QV l3 l4 l5 r3 r4 r53 r51;have R3:=ZS N3.ZZ.2 N3.pt.store.len;have m3:=Za z3.2;have m4:=Za z4.2;have m5:=Za z5.2;have m9:=Za x9.2;have Mf:=Za N3.ZZ.2;have q4:hc g2 ⟨h.size+1,0,aa⟩=O (Zz nb):=Zn z4.2;have lF:rd g2 ⟨h.size+2,3,aa⟩ 2=O (Qu l.b):=by rw[YI z5.2 (by simp[XN])];rfl
  have q9:hc g2 ⟨g1.size,0,aa⟩=O (TH 90 [h.size,h.size+1,h.size+2,kc]):=Zn x9.2;have R3p:rd g2 ⟨nb,4,aa⟩ 2=O (Qu n.Zr.p):=R3.bj;unfold Zz at q4;refine VS.q mixed sV ?_;simp only[go_sem,f4,f5,q4,lF,R3p];by_cases ep:n.Zr.p=l.b
  .have eP:Y3 n l=⟨n,[⟨1,n.me,l.JA,l.b,SC,n.Zr.l⟩],[]⟩:=by unfold Y3;rw[<-hE,if_neg mD,if_pos ep]
   rw[eP];unfold TH at q9;simp only[ba]at q9;unfold Zz at q9;simp only[go_sem,ep,q9];refine (lq T g2 o wb nb YK n.me Xu fl YA ZG h.size (h.size+1) (h.size+2) kc l _ w2 n.Zr.l K3.Yt W3 R3.me Mf Xa z3 z4 z5 z7 iw7).use ?_;rintro v' h' ⟨o',Js,k,W'⟩;simp only[go_sem];exact⟨o',a,Js,(ZY K3).trans (k.mono fun t q=>q.elim .inl fun q=>.inr (.inl q)),N3.keep k (by rintro t (rfl|rfl)<;>simp[Tg.of]),W'⟩
  simp only[go_sem,ep];have yP:=R3.tape;obtain⟨pd,cd,Pv⟩:=N3.pt.data.1.ZN;rw[Pv]at yP;obtain⟨E2,qg⟩:=ZP (Jn n.data n.Y5 l.b);have call2:∀G,Zk g2.size g2 G->Zg aI T 91 #[au #[H pd (U n.data) cd,Q D n.Y5],au #[Q D l.b.r,Q D l.b.n]] G fun v' h'=>RK G.size h' v' n.data n.Y5 E2 (YS (JF l.b))/\Zk G.size G h':=fun G hG=>by
   rw[qg];exact Ii T G _ n.Y5 n.data l.b (by rw[<-Pv];exact N3.pt.data.bs.YJ hG) mD (tb3.tk.QH hG)
  have wT:∀(G:Hp) (k:Nat) (m:Int) (p:Option Addr) (L c:Nat),G[k]? = O (J [H aa 0 0,Q D 0].toArray 61)->wr G ⟨k,0,aa⟩ [H p L c,Q D m]=O (G.setIfInBounds k (J [H p L c,Q D m].toArray 61)):=fun G k m p L c hx=>by
   rw[Yh hx 0 _];rfl
  unfold Qu at lF;refine VS.mono (N:=fun F' g'=>Zk g2.size g2 g'/\F' 3=Z (O ⟨h.size,0,aa⟩)/\F' 4=Z (O ⟨h.size+1,0,aa⟩)/\F' 5=Z (O ⟨h.size+2,0,aa⟩)/\F' 6=Z (O ⟨ka,0,aa⟩)/\F' 9=Z (O ⟨g1.size,0,aa⟩)/\F' 8=Q D E2/\Dx g2.size g' (F' 10) n.data n.Y5 E2 (YS (JF l.b))) ?_ ?_ (fun _ _ _ h=>h) (fun _ _ h=>h)
  .refine VS.z (g2.size) [6,11] (.q 0 (.p 1 (.p 2 (.q 3 (.p 4 (.q 5 (.or 6 (.p 7 (.p 8 (.p 9 (.s 10 (.w 11 (.p 12 .nil)))))) (.s 10 (.w 6 (.p 7 (.p 8 (.p 9 (.w 11 (.p 12 .nil)))))))))))))) mixed sV ?_;simp only[go_sem,f3,f4,f5,fA,q4,yP,lF,m4,m5,Mf];unfold Dx
   repeat' (first|with_reducible exact Zk.refl _ _|with_reducible exact Zk.push mD _|with_reducible refine a9 ?_ ?_)
   all_goals first
    | (refine (call2 g2 (Zk.refl _ _)).use ?_
       rintro _ g5 ⟨⟨w,rfl,o1⟩,b5⟩;obtain⟨p1,c1,rfl,_⟩:=o1.bs.open;have s5:=b5.size;simp only[go_sem,b5];exact⟨f3,f4,f5,fA,_,_,rfl,s5,Zd,o1.push _⟩)
    | (refine (call2 (g2.push (J _ 61)) (Zk.push (am _) _)).use ?_
       rintro _ g5 ⟨⟨w,rfl,o1⟩,b5⟩;obtain⟨p1,c1,rfl,_⟩:=o1.bs.open;have B5:Zk g2.size g2 g5:=(Zk.push (am _) _).trans (b5.mono sW);have xA:=b5.get (k:=g2.size) sW Zd;have Pc:=wT _ _ (if E2=0 then n.Y5 else 0) p1 (if E2=0 then n.data++YS (JF l.b) else []).length c1 xA;have zA:=Za xA;simp only[go_sem,B5,Pc,zA];exact⟨f3,f4,f5,fA,_,_,rfl,am _,ZQ xA,(o1.Yi sW _).mono sW⟩)
  .rintro F2 g3 ⟨b3,f3,f4,f5,f6,f9,f8,kt,wt,fT,ge3,yT,oT⟩;have Tx:=ZU K3.Yt b3;have N4:=N3.Zo Tx;have W4:=W3.Zo Tx;have K4:Kp UN o h o g3:=K3.YJ b3;by_cases e2:E2=0
   case neg=>
    have eP:Y3 n l=⟨n,[],[]⟩:=by unfold Y3;rw[<-hE,if_neg mD,if_neg ep,<-qg,if_pos e2]
    rw[eP,ak];simp only[go_sem,f8,e2];exact⟨o,a,Xu,ZY K4,N4,W4⟩
   rw[if_pos e2]at yT oT;have u3:=z3.keep Tx;have u4:=z4.keep Tx;have u5:=z5.keep Tx;have u6:=z6.keep Tx;have u7:=z7.keep Tx;have u9:=x9.keep Tx;have iu6:=iw6.keep Tx;have iu7:=iw7.keep Tx;have iT:S9 o g3 wt (n.data++YS (JF l.b)):=⟨Im.Ws oT.Zr (fun b hb=>K3.Yt b hb),oT.byte⟩
   have eP:Y3 n l=⟨{ n with data:=n.data++YS (JF l.b),Zp:=O (.Q8 ⟨l.b,n.Zr.l⟩ l.JA l.b n.Zr.l) },[],[]⟩:=by unfold Y3;rw[<-hE,if_neg mD,if_neg ep,<-qg,if_neg mD]
   rw[eP,ak];clear R3 m3 m4 m5 m9 Mf q4 lF q9 R3p yP;obtain⟨pt,ct,rfl,_⟩:=oT.bs.open;have q4:hc g3 ⟨h.size+1,0,aa⟩=O (Zz nb):=Zn u4.2;have qT:rd g3 ⟨kt,0,aa⟩ 2=O [H pt (n.data++YS (JF l.b)).length ct,Q D n.Y5]:=ZA yT rfl;have IW:=Za N4.ZZ.2;obtain⟨g4,w4,N5,k5⟩:=Ym.write (a:={ a with data:=H pt (n.data++YS (JF l.b)).length ct }) (n:={ n with data:=n.data++YS (JF l.b) }) { N4.pt with data:=iT } K4.Yt N4.ZZ ((XF N4.ZZ.2 N4.pt.store.len).tape (H pt (n.data++YS (JF l.b)).length ct) n.Y5 rfl);have v4:=u4.keep k5;have q4':hc g4 ⟨h.size+1,0,aa⟩=O (Zz nb):=Zn v4.2;have Mg:=Za N5.ZZ.2;have pn:WQ o g4 wb i nb a.Zh (TH 92 [ka,h.size+1,g1.size]) (O (.Q8 ⟨l.b,n.Zr.l⟩ l.JA l.b n.Zr.l)):=
    ⟨ka,h.size+1,g1.size,_,rfl,⟨_,u6.keep k5,iu6.keep k5⟩,v4,u9.keep k5,h.size,h.size+1,h.size+2,kc,l,_,w2,rfl,u3.keep k5,v4,u5.keep k5,rfl,rfl,u7.keep k5,iu7.keep k5⟩
   obtain⟨g6,w6,N6,k6⟩:=Ym.write (a:={ a with data:=H pt (n.data++YS (JF l.b)).length ct,Zp:=TH 92 [ka,h.size+1,g1.size] }) (n:={ n with data:=n.data++YS (JF l.b),Zp:=O (.Q8 ⟨l.b,n.Zr.l⟩ l.JA l.b n.Zr.l) }) { N5.pt with Zp:=pn } k5.Yt N5.ZZ ((XF N5.ZZ.2 N5.pt.store.len).Zp (TH 92 [ka,h.size+1,g1.size]) rfl);unfold TH at w6;simp only[ba]at w6;unfold Zz at q4 q4' w6;simp only[go_sem,f8,e2,f4,f6,f9,fT,q4,qT,w4,IW,q4',w6,Mg];have K6:Kp (fun t=>t=.world\/t=.Zm\/t=.ZX i) o h o g6:=((ZY K4).trans (k5.mono fun t q=>.inr (.inr q))).trans (k6.mono fun t q=>.inr (.inr q));exact⟨o,_,Xu,K6,N6,(W4.keep k5 (by rintro t rfl;simp[Tg.of])).keep k6 (by rintro t rfl;simp[Tg.of])⟩
def Ze0(B:Nat)(g':Hp)(A:an)(p:Yg)(l:List Vt)(x:Vt):Prop:=
 ∃ka w,A=Z (O ⟨ka,0,aa⟩)/\B<=ka/\g'[ka]? = O (J (XC (if Xc p l x=0 then x.b else ⟨0,0⟩) w).toArray 66)/\Qw B 97 Zv 8 g' w (if Xc p l x=0 then Jh l x else [])
set_option maxHeartbeats 1000000 in
theorem yQ(T:a8)(h:Hp)(o:Ow)(wb i nb:Nat)(YK:Nat->Nat)(a:NA)(n:Nd)(Xu:WA)(fl:List Yn)(YA:Nat->Int)(ZG:List OS)(l:Yn)(w:an)(d:WY o h)(N:Z6 o h wb i nb a n)(W:Z0 o h wb YK Xu fl YA ZG)(iv:Tw o h w l.vs)(Xa:(U fl)<=1000000000000)(yi:n.Zr.l.length<=1000000)(td:(U n.data)<=1000000)(tb:dS o h):
  Zg aI T 69 #[Zz wb,Zz nb,au (XN l w).toArray] h fun v' h'=>∃o' a' Js,Kp (fun t=>t=.world\/t=.Zm\/t=.ZX i) o h o' h'/\Z6 o' h' wb i nb a' (asked n l).n/\Z0 o' h' wb YK Js (fl++(asked n l).ls) YA ZG:=by
 obtain⟨pw,cw,rfl⟩:=iv.ZN;refine Zg.XK [_,_,_] Tryz.func69 ?_;unfold Zz XN;simp only[go_sem];obtain⟨h1,Xp⟩:=ZP (((h.push (J [Zz wb].toArray 52)).push (J [Zz nb].toArray 59)).push (J (XN l (H pw (U l.vs) cw)).toArray 99):Hp);have k1:Kp UN o h o h1:=by rw[Xp];exact ((Kp.refl d _).push _ |>.push _).push _
 have s1:h1.size=h.size+3:=by rw[Xp];simp
 have d1:∀b,h.size<=b->o b=aa:=d;have x3:Z9 o h1 h.size (J [Zz wb].toArray 52):=⟨d _ mD,by rw[Xp,ZF vI,qf]⟩
 have x4:Z9 o h1 (h.size+1) (J [Zz nb].toArray 59):=⟨d _ mD,by rw[Xp,ZF sW,tE]⟩
 have x5:Z9 o h1 (h.size+2) (J (XN l (H pw (U l.vs) cw)).toArray 99):=⟨d _ mD,by
  have:=Zd (h:=(h.push (J [Zz wb].toArray 52)).push (J [Zz nb].toArray 59)) (o:=J (XN l (H pw (U l.vs) cw)).toArray 99);rw[Xp];simpa using this⟩
 have e0:((h.push (J [Zz wb].toArray 52)).push (J [Zz nb].toArray 59)).push (J (XN l (H pw (U l.vs) cw)).toArray 99)=h1:=Xp.symm;unfold Zz XN at e0;rw[e0];clear e0 Xp;have N1:=N.Zo k1;have W1:=W.Zo k1;have iv1:=iv.keep k1;have R1:=ZS N1.ZZ.2 N1.pt.store.len;have QV:=Za N1.ZZ.2;have l3:=Za x3.2;have l4:=Za x4.2;have l5:=Za x5.2;have r3:hc h1 ⟨h.size,0,aa⟩=O (Zz wb):=Zn x3.2;have r4:hc h1 ⟨h.size+1,0,aa⟩=O (Zz nb):=Zn x4.2;have r53:rd h1 ⟨h.size+2,5,aa⟩ 8=O (Zv l.v):=by rw[YI x5.2 (by simp[XN])];rfl
 have r51:hc h1 ⟨h.size+2,1,aa⟩=O (Q D l.JA):=Zn x5.2;unfold Zz at r3 r4;have GY:=R1.Zr;obtain⟨pv,cv,tF⟩:=N1.pt.XO.ZN;rw[tF]at GY;unfold Zv at r53;have call:∀G,Zk h1.size h1 G->Zg aI T 80 #[au #[Q D n.Zr.p.r,Q D n.Zr.p.n,H pv n.Zr.l.length cv],au (Zv l.v).toArray] G fun v' h'=>kU G.size h' v' n.Zr.p n.Zr.l l.v/\Zk G.size G h':=fun G hG=>
  Ki T G n.Zr.p _ n.Zr.l l.v (by rw[<-tF];exact N1.pt.XO.ts.YJ hG) mD
 unfold Zv at call;obtain⟨E,hE⟩:=ZP (Xc n.Zr.p n.Zr.l l.v);have wA:∀(G:Hp) (k:Nat) (r m:Int) (p:Option Addr) (L c:Nat),G[k]? = O (J [Q D 0,Q D 0,H aa 0 0].toArray 66)->wr G ⟨k,0,aa⟩ [Q D r,Q D m,H p L c]=O (G.setIfInBounds k (J [Q D r,Q D m,H p L c].toArray 66)):=fun G k r m p L c hx=>by
  rw[Yh hx 0 _];rfl
 refine VS.mono (N:=fun F' g'=>Zk h1.size h1 g'/\F' 3=Z (O ⟨h.size,0,aa⟩)/\F' 4=Z (O ⟨h.size+1,0,aa⟩)/\F' 5=Z (O ⟨h.size+2,0,aa⟩)/\F' 7=Q D E/\Ze0 h1.size g' (F' 6) n.Zr.p n.Zr.l l.v) ?_ ?_ (fun _ _ _ h=>h) (fun _ _ h=>h)
 .refine VS.z (h1.size) [6,11] (.q 0 (.p 1 (.p 2 (.q 3 (.p 4 (.q 5 (.or 6 (.p 7 (.p 8 (.p 9 (.s 10 (.w 11 (.p 12 .nil)))))) (.s 10 (.w 6 (.p 7 (.p 8 (.p 9 (.w 11 (.p 12 .nil)))))))))))))) mixed sV ?_;simp only[go_sem,r4,GY,r53,QV,l4,l5];unfold Ze0 XC
  repeat' (first|with_reducible exact Zk.refl _ _|with_reducible exact Zk.push mD _|with_reducible refine a9 ?_ ?_)
  all_goals first
   | (refine (call h1 (Zk.refl _ _)).use ?_
      rintro _ g5 ⟨⟨w1,rfl,o1⟩,b5⟩;obtain⟨p1,c1,rfl,_⟩:=o1.open;rw[<-hE]at *;have s5:=b5.size;unfold XC;simp only[go_sem,b5];exact⟨_,_,rfl,s5,Zd,o1.push _⟩)
   | (refine (call (h1.push (J _ 66)) (Zk.push (am _) _)).use ?_
      rintro _ g5 ⟨⟨w1,rfl,o1⟩,b5⟩;obtain⟨p1,c1,rfl,_⟩:=o1.open;rw[<-hE]at *;have B5:Zk h1.size h1 g5:=(Zk.push (am _) _).trans (b5.mono sW);have xA:=b5.get (k:=h1.size) sW Zd;have Pc:=wA _ _ (if E=0 then l.v.b else ⟨0,0⟩).r (if E=0 then l.v.b else ⟨0,0⟩).n p1 (if E=0 then Jh n.Zr.l l.v else []).length c1 xA;have zA:=Za xA;unfold XC;simp only[go_sem,B5,Pc,zA];exact⟨_,_,rfl,am _,ZQ xA,(o1.Yi sW _).mono sW⟩)
 .rintro F1 g1 ⟨b1,f3,f4,f5,f8,ka,w1,fA,ge1,yA,o1⟩;rw[<-hE]at yA o1;have kb:=ZU k1.Yt b1;have N2:=N1.Zo kb;have W2:=W1.Zo kb;have K2:Kp UN o h o g1:=k1.YJ b1;have y3:=x3.keep kb;have y4:=x4.keep kb;have y5:=x5.keep kb;have tC:=iv1.keep kb;have AG:=(tb.keep k1).keep kb;have R2:=ZS N2.ZZ.2 N2.pt.store.len;have m3:=Za y3.2;have m4:=Za y4.2;have m5:=Za y5.2;have Q3:=Za N2.ZZ.2;have q3:hc g1 ⟨h.size,0,aa⟩=O (Zz wb):=Zn y3.2;have q4:hc g1 ⟨h.size+1,0,aa⟩=O (Zz nb):=Zn y4.2;have q51:hc g1 ⟨h.size+2,1,aa⟩=O (Q D l.JA):=Zn y5.2;unfold Zz at q3 q4;have R2p:=R2.bj;by_cases e:E=0
  case neg=>
   have eP:asked n l=⟨n,[⟨7,n.me,l.JA,n.Zr.p,SC,[]⟩],[]⟩:=by unfold asked;rw[<-hE,if_pos e]
   rw[eP];simp only[go_sem,f8,e];refine VS.z (g1.size) [10] (.q 0 (.q 1 (.p 2 (.q 3 (.q 4 (.p 5 (.p 6 (.p 7 (.q 8 (.p 9 (.w 10 .nil))))))))))) mixed sV ?_;simp only[go_sem,f3,f4,f5,q3,q4,q51,R2p,m3,m4,m5,Q3];refine (VE T g1 o wb nb YK n.me Xu fl YA ZG l.JA ⟨7,0,0,n.Zr.p,SC,[]⟩ (H aa 0 0) K2.Yt W2 R2.me Q3 (Im.nil _ _ _ _) Xa).use ?_;rintro v' h' ⟨o',Js,k,_,W'⟩;simp only[go_sem];exact⟨o',a,Js,(ZY K2).trans (k.mono fun t q=>q.elim .inl fun q=>.inr (.inl q)),N2.keep k (by rintro t (rfl|rfl)<;>simp[Tg.of]),W'⟩
  rw[if_pos e]at yA o1;have iv6:Tw o g1 w1 (Jh n.Zr.l l.v):=Im.Ws o1.Zr (fun b hb=>k1.Yt b hb);simp only[go_sem,f8,e,f3,f4,f5];obtain⟨g2,U1⟩:=ZP (g1.push (J [TH 95 [h.size,h.size+1,h.size+2]].toArray 1):Hp);have k2:=Yv K2.Yt (J [TH 95 [h.size,h.size+1,h.size+2]].toArray 1);rw[<-U1]at k2;have K3:Kp UN o h o g2:=K2.trans k2;have x9:Z9 o g2 g1.size (J [TH 95 [h.size,h.size+1,h.size+2]].toArray 1):=⟨K2.Yt _ (am _),by rw[U1];exact Zd⟩
  have e2:g1.push (J [TH 95 [h.size,h.size+1,h.size+2]].toArray 1)=g2:=U1.symm;unfold TH at e2;simp only[ba]at e2;unfold Zz at e2;rw[e2];clear e2 U1;have N3:=N2.Zo k2;have W3:=W2.Zo k2;have z3:=y3.keep k2;have z4:=y4.keep k2;have z5:=y5.keep k2;have z6:=(show Z9 o g1 ka _ from⟨k1.Yt ka ge1,yA⟩).keep k2;have iw6:=iv6.keep k2;have tb3:=AG.keep k2;clear R2 R2p m3 m4 m5 Q3 q3 q4 q51 R1 GY QV l3 l4 l5 r3 r4 r53 r51;have R3:=ZS N3.ZZ.2 N3.pt.store.len;have m3:=Za z3.2;have m4:=Za z4.2;have m5:=Za z5.2;have m9:=Za x9.2;have Mf:=Za N3.ZZ.2;have q4:hc g2 ⟨h.size+1,0,aa⟩=O (Zz nb):=Zn z4.2;have lF:rd g2 ⟨h.size+2,5,aa⟩ 8=O (Zv l.v):=by rw[YI z5.2 (by simp[XN])];rfl
  have q9:hc g2 ⟨g1.size,0,aa⟩=O (TH 95 [h.size,h.size+1,h.size+2]):=Zn x9.2;have R3v:=R3.XO;have N3v:=N3.pt.XO;unfold Zz at q4;unfold Zv at lF;refine VS.mono (N:=fun F' g'=>Zk g2.size g2 g'/\F' 3=Z (O ⟨h.size,0,aa⟩)/\F' 4=Z (O ⟨h.size+1,0,aa⟩)/\F' 5=Z (O ⟨h.size+2,0,aa⟩)/\F' 6=Z (O ⟨ka,0,aa⟩)/\F' 8=Z (O ⟨g1.size,0,aa⟩)/\F' 41=a5 (decide (l.v∈n.Zr.l))) ?_ ?_ (fun _ _ _ h=>h) (fun _ _ h=>h)
  .refine VS.z (g2.size) [7] (.q 0 (.p 1 (.p 2 (.p 3 (.q 4 (.p 5 (.q 6 (.w 7 .nil)))))))) mixed sV ?_;simp only[go_sem,f3,f4,f5,fA,q4,lF,R3v,m4,m5,Mf];have cv:=Ew T g2 a.XO n.Zr.l l.v N3v.ts mD;unfold Zv at cv;refine cv.use ?_;rintro _ g5 ⟨rfl,b5⟩;simp only[go_sem,b5,f3,f4,f5,fA]
  rintro F1' iX ⟨nU,f3,f4,f5,fA,f9,f41⟩;have Ng:=ZU K3.Yt nU
  replace N3:=N3.Zo Ng
  replace W3:=W3.Zo Ng
  replace K3:=K3.trans Ng
  replace z3:=z3.keep Ng
  replace z4:=z4.keep Ng
  replace z5:=z5.keep Ng
  replace z6:=z6.keep Ng
  replace iw6:=iw6.keep Ng
  replace tb3:=tb3.keep Ng
  replace x9:=x9.keep Ng
  clear R3 m3 m4 m5 m9 Mf q4 lF q9 R3v N3v;have R3:=ZS N3.ZZ.2 N3.pt.store.len;have m3:=Za z3.2;have m4:=Za z4.2;have m5:=Za z5.2;have m9:=Za x9.2;have Mf:=Za N3.ZZ.2;have q4:hc iX ⟨h.size+1,0,aa⟩=O (Zz nb):=Zn z4.2;have lF:rd iX ⟨h.size+2,5,aa⟩ 8=O (Zv l.v):=by rw[YI z5.2 (by simp[XN])];rfl
  have q9:hc iX ⟨g1.size,0,aa⟩=O (TH 95 [h.size,h.size+1,h.size+2]):=Zn x9.2;unfold Zz at q4;by_cases ep:l.v∈n.Zr.l
  .have eP:asked n l=⟨n,[⟨3,n.me,l.JA,X2,l.v,[]⟩],[]⟩:=by unfold asked;rw[<-hE,if_neg mD,if_pos ep]
   rw[eP];unfold TH at q9;simp only[ba]at q9;unfold Zz at q9;simp only[go_sem,f41,ep,f9,q9];refine (lu T iX o wb nb YK n.me Xu fl YA ZG h.size (h.size+1) (h.size+2) l _ K3.Yt W3 R3.me Mf Xa z3 z4 z5).use ?_;rintro v' h' ⟨o',Js,k,W'⟩;simp only[go_sem];exact⟨o',a,Js,(ZY K3).trans (k.mono fun t q=>q.elim .inl fun q=>.inr (.inl q)),N3.keep k (by rintro t (rfl|rfl)<;>simp[Tg.of]),W'⟩
  simp only[go_sem,f41,ep];have yP:=R3.tape;obtain⟨pd,cd,Pv⟩:=N3.pt.data.1.ZN;rw[Pv]at yP;obtain⟨E2,qg⟩:=ZP (Qn n.data n.Y5 l.v);have call2:∀G,Zk iX.size iX G->Zg aI T 97 #[au #[H pd (U n.data) cd,Q D n.Y5],au (Zv l.v).toArray] G fun v' h'=>RK G.size h' v' n.data n.Y5 E2 (YS (Uc l.v))/\Zk G.size G h':=fun G hG=>by
   rw[qg];exact ym T G _ n.Y5 n.data l.v (by rw[<-Pv];exact N3.pt.data.bs.YJ hG) mD (tb3.tk.QH hG)
  have wT:∀(G:Hp) (k:Nat) (m:Int) (p:Option Addr) (L c:Nat),G[k]? = O (J [H aa 0 0,Q D 0].toArray 61)->wr G ⟨k,0,aa⟩ [H p L c,Q D m]=O (G.setIfInBounds k (J [H p L c,Q D m].toArray 61)):=fun G k m p L c hx=>by
   rw[Yh hx 0 _];rfl
  unfold Zv at lF call2;refine VS.mono (N:=fun F' g'=>Zk iX.size iX g'/\F' 3=Z (O ⟨h.size,0,aa⟩)/\F' 4=Z (O ⟨h.size+1,0,aa⟩)/\F' 5=Z (O ⟨h.size+2,0,aa⟩)/\F' 6=Z (O ⟨ka,0,aa⟩)/\F' 8=Z (O ⟨g1.size,0,aa⟩)/\F' 7=Q D E2/\Dx iX.size g' (F' 9) n.data n.Y5 E2 (YS (Uc l.v))) ?_ ?_ (fun _ _ _ h=>h) (fun _ _ h=>h)
  .refine VS.z (iX.size) [6,11] (.q 0 (.p 1 (.p 2 (.q 3 (.p 4 (.q 5 (.or 6 (.p 7 (.p 8 (.p 9 (.s 10 (.w 11 (.p 12 .nil)))))) (.s 10 (.w 6 (.p 7 (.p 8 (.p 9 (.w 11 (.p 12 .nil)))))))))))))) mixed sV ?_;simp only[go_sem,f3,f4,f5,fA,f9,q4,yP,lF,m4,m5,Mf];unfold Dx
   repeat' (first|with_reducible exact Zk.refl _ _|with_reducible exact Zk.push mD _|with_reducible refine a9 ?_ ?_)
   all_goals first
    | (refine (call2 iX (Zk.refl _ _)).use ?_
       rintro _ g5 ⟨⟨w,rfl,o1⟩,b5⟩;obtain⟨p1,c1,rfl,_⟩:=o1.bs.open;have s5:=b5.size;simp only[go_sem,b5];exact⟨f3,f4,f5,fA,f9,_,_,rfl,s5,Zd,o1.push _⟩)
    | (refine (call2 (iX.push (J _ 61)) (Zk.push (am _) _)).use ?_
       rintro _ g5 ⟨⟨w,rfl,o1⟩,b5⟩;obtain⟨p1,c1,rfl,_⟩:=o1.bs.open;have B5:Zk iX.size iX g5:=(Zk.push (am _) _).trans (b5.mono sW);have xA:=b5.get (k:=iX.size) sW Zd;have Pc:=wT _ _ (if E2=0 then n.Y5 else 0) p1 (if E2=0 then n.data++YS (Uc l.v) else []).length c1 xA;have zA:=Za xA;simp only[go_sem,B5,Pc,zA];exact⟨f3,f4,f5,fA,f9,_,_,rfl,am _,ZQ xA,(o1.Yi sW _).mono sW⟩)
  .rintro F2 g3 ⟨b3,f3,f4,f5,f6,f9,f8,kt,wt,fT,ge3,yT,oT⟩;have Tx:=ZU K3.Yt b3;have N4:=N3.Zo Tx;have W4:=W3.Zo Tx;have K4:Kp UN o h o g3:=K3.YJ b3;by_cases e2:E2=0
   case neg=>
    have eP:asked n l=⟨n,[],[]⟩:=by unfold asked;rw[<-hE,if_neg mD,if_neg ep,<-qg,if_pos e2]
    rw[eP,ak];simp only[go_sem,f8,e2];exact⟨o,a,Xu,ZY K4,N4,W4⟩
   rw[if_pos e2]at yT oT;have u3:=z3.keep Tx;have u4:=z4.keep Tx;have u5:=z5.keep Tx;have u6:=z6.keep Tx;have u9:=x9.keep Tx;have iu6:=iw6.keep Tx;have iT:S9 o g3 wt (n.data++YS (Uc l.v)):=⟨Im.Ws oT.Zr (fun b hb=>K3.Yt b hb),oT.byte⟩
   have eP:asked n l=⟨{ n with data:=n.data++YS (Uc l.v),Zp:=O (.Wo ⟨l.v.b,Jh n.Zr.l l.v⟩ l.JA l.v) },[],[]⟩:=by unfold asked;rw[<-hE,if_neg mD,if_neg ep,<-qg,if_neg mD]
   rw[eP,ak];clear R3 m3 m4 m5 m9 Mf q4 lF q9 yP;obtain⟨pt,ct,rfl,_⟩:=oT.bs.open;have q4:hc g3 ⟨h.size+1,0,aa⟩=O (Zz nb):=Zn u4.2;have qT:rd g3 ⟨kt,0,aa⟩ 2=O [H pt (n.data++YS (Uc l.v)).length ct,Q D n.Y5]:=ZA yT rfl;have IW:=Za N4.ZZ.2;obtain⟨g4,w4,N5,k5⟩:=Ym.write (a:={ a with data:=H pt (n.data++YS (Uc l.v)).length ct }) (n:={ n with data:=n.data++YS (Uc l.v) }) { N4.pt with data:=iT } K4.Yt N4.ZZ ((XF N4.ZZ.2 N4.pt.store.len).tape (H pt (n.data++YS (Uc l.v)).length ct) n.Y5 rfl);have v4:=u4.keep k5;have q4':hc g4 ⟨h.size+1,0,aa⟩=O (Zz nb):=Zn v4.2;have Mg:=Za N5.ZZ.2;have pn:WQ o g4 wb i nb a.Zh (TH 98 [ka,h.size+1,g1.size]) (O (.Wo ⟨l.v.b,Jh n.Zr.l l.v⟩ l.JA l.v)):=
    ⟨ka,h.size+1,g1.size,_,rfl,⟨_,u6.keep k5,iu6.keep k5⟩,v4,u9.keep k5,h.size,h.size+1,h.size+2,l,_,rfl,u3.keep k5,v4,u5.keep k5,rfl,rfl⟩
   obtain⟨g6,w6,N6,k6⟩:=Ym.write (a:={ a with data:=H pt (n.data++YS (Uc l.v)).length ct,Zp:=TH 98 [ka,h.size+1,g1.size] }) (n:={ n with data:=n.data++YS (Uc l.v),Zp:=O (.Wo ⟨l.v.b,Jh n.Zr.l l.v⟩ l.JA l.v) }) { N5.pt with Zp:=pn } k5.Yt N5.ZZ ((XF N5.ZZ.2 N5.pt.store.len).Zp (TH 98 [ka,h.size+1,g1.size]) rfl);unfold TH at w6;simp only[ba]at w6;unfold Zz at q4 q4' w6;simp only[go_sem,f8,e2,f4,f6,f9,fT,q4,qT,w4,IW,q4',w6,Mg];have K6:Kp (fun t=>t=.world\/t=.Zm\/t=.ZX i) o h o g6:=((ZY K4).trans (k5.mono fun t q=>.inr (.inr q))).trans (k6.mono fun t q=>.inr (.inr q));exact⟨o,_,Xu,K6,N6,(W4.keep k5 (by rintro t rfl;simp[Tg.of])).keep k6 (by rintro t rfl;simp[Tg.of])⟩
theorem Wg.Yl{o:Ow}{i:Nat}{h:Hp}{sv:List (Int × Nat)}{vt:List (Int × List (Int × Unit))}(s:Wg o i h sv vt)(k:Int):(Go.V.Yl sv k=aa/\Go.V.Yl vt k=aa)\/∃b l,Go.V.Yl sv k=O b/\Go.V.Yl vt k=O l/\UF o (.RN i k) h b (IV l):=by
 induction s with
 | nil=>exact .inl ⟨rfl,rfl⟩
 | @cons a b l m Cc _ ih=>
  obtain⟨a1,a2⟩:=a;obtain⟨b1,b2⟩:=b;obtain⟨rfl,h2⟩:=Cc;unfold Go.V.Yl;by_cases q:a1=k
  .rw[if_pos q,if_pos q];subst q;exact .inr ⟨_,_,rfl,rfl,h2⟩
  .rw[if_neg q,if_neg q];exact ih
theorem Wg.add{o:Ow}{i:Nat}{h:Hp}{k:Int}{b:Nat}{l:List (Int × Unit)}(hb:UF o (.RN i k) h b (IV l)):∀{sv:List (Int × Nat)} {vt:List (Int × List (Int × Unit))},Wg o i h sv vt->Go.V.Yl sv k=aa->Wg o i h (ins sv k b) (ins vt k l):=by
 intro sv vt s
 induction s with
 | nil=>intro _;exact .cons ⟨rfl,hb⟩ .nil
 | @cons a b l m Cc _ ih=>
  intro hn;obtain⟨a1,a2⟩:=a;obtain⟨b1,b2⟩:=b;obtain⟨rfl,h2⟩:=Cc;unfold Go.V.Yl at hn;split at hn
  .cases hn
  .rename_i q;unfold ins;rw[if_neg q,if_neg q];exact .cons ⟨rfl,h2⟩ (ih hn)
theorem Wg.put{o:Ow}{i:Nat}{h h':Hp}{k:Int}{b:Nat}{l':List (Int × Unit)}(kp:Kp (fun t=>t=.RN i k) o h o h')(hb:UF o (.RN i k) h' b (IV l')):∀{sv:List (Int × Nat)} {vt:List (Int × List (Int × Unit))},Wg o i h sv vt->(sv.map (·.1)).Nodup->Go.V.Yl sv k=O b->Wg o i h' sv (ins vt k l'):=by
 intro sv vt s
 induction s with
 | nil=>intro _ h;cases h
 | @cons a c l m Cc tl ih=>
  intro hn hl;obtain⟨a1,a2⟩:=a;obtain⟨b1,b2⟩:=c;obtain⟨h1,h2⟩:=Cc;simp only at h1 h2;subst h1;simp only[a6,a7]at hn;unfold Go.V.Yl at hl;unfold ins;by_cases q:a1=k
  .rw[if_pos q]at hl ⊢;subst q;obtain rfl:=Option.some.inj hl;refine .cons ⟨rfl,hb⟩ ?_;have key:∀{l:List (Int × Nat)} {m:List (Int × List (Int × Unit))},Wg o i h l m->a1 ∉ l.map (·.1)->Wg o i h' l m:=by
    intro l m s
    induction s with
    | nil=>intro _;exact .nil
    | @cons x y l m hxy _ ih2=>
     intro hn;simp only[a6,bh,not_or]at hn;exact .cons ⟨hxy.1,hxy.2.keep kp (by intro e;cases e;exact hn.1 hxy.1.symm)⟩ (ih2 hn.2)
   exact key tl hn.1
  .rw[if_neg q]at hl ⊢;exact .cons ⟨rfl,h2.keep kp (by intro e;cases e;exact q rfl)⟩ (ih hn.2 hl)
theorem bC{β:Type}:∀{l:List (Int × β)} {k:Int} {v:β},(l.map (·.1)).Nodup->((ins l k v).map (·.1)).Nodup/\∀x,x∈(ins l k v).map (·.1)->x=k\/x∈l.map (·.1):=by
 intro l
 induction l with
 | nil=>intro k v _;exact⟨by simp[ins],fun x hx=>by simp[ins]at hx;exact .inl hx⟩
 | cons a l ih=>
  intro k v hn;obtain⟨a1,a2⟩:=a;simp only[a6,a7]at hn;unfold ins;by_cases q:a1=k
  .rw[if_pos q];exact⟨by simp only[a6,a7];exact hn,fun x hx=>.inr hx⟩
  .rw[if_neg q];obtain⟨h1,h2⟩:=ih (k:=k) (v:=v) hn.2;refine⟨?_,fun x hx=>?_⟩
   .simp only[a6,a7];exact⟨fun hm=>(h2 _ hm).elim q hn.1,h1⟩
   .simp only[a6,bh]at hx ⊢;rcases hx with hx|hx
    .exact .inr (.inl hx)
    .exact (h2 _ hx).elim .inl fun q=>.inr (.inr q)
theorem Zc2{β:Type}:∀(l:List (Int × β)) (k:Int) (u v:β),ins (ins l k u) k v=ins l k v:=by
 intro l
 induction l with
 | nil=>intro k u v;unfold ins;simp[ins]
 | cons a l ih=>
  intro k u v;obtain⟨a1,a2⟩:=a;have h1:∀(x:Int) (y z:β) (m:List (Int × β)),ins ((x,y) :: m) k z=if x=k then (x,z) :: m else (x,y) :: ins m k z:=fun _ _ _ _=>rfl
  rw[h1,h1];by_cases q:a1=k
  .rw[if_pos q,if_pos q,h1,if_pos q]
  .rw[if_neg q,if_neg q,h1,if_neg q,ih]
theorem XA.yR{o:Ow}{i:Nat}{h:Hp}{ra:RA}{r:XM}(s:XA o i h ra r)(d:WY o h){k:Int}{b:Nat}{l l':List (Int × Unit)}(hl:Yl ra.sv k=O b)(hb:UF o (.RN i k) h b (IV l)):
  Kp (fun t=>t=.RN i k) o h o (h.setIfInBounds b (Jk (IV l')))/\XA o i (h.setIfInBounds b (Jk (IV l'))) ra { r with YY:=ins r.YY k l' }:=by
 have kk:Kp (fun t=>t=.RN i k) o h o (h.setIfInBounds b (Jk (IV l'))):=(Kp.refl d (fun t=>t=.RN i k)).set hb.1 rfl _;exact⟨kk,s.ZZ.keep kk tP,s.ZL.keep kk tP,s.Og.keep kk,s.Yj.keep kk tP,s.YY.keep kk tP,Wg.put kk ⟨hb.1,ZQ hb.2⟩ s.Su s.keys hl,s.keys⟩
def qh(i:Nat)(t:Tg):Prop:=UT i t\/JL i t
set_option maxHeartbeats 1000000 in
theorem Iv(T:a8)(h:Hp)(o:Ow)(wb i nb:Nat)(YK:Nat->Nat)(a:NA)(n:Nd)(Xu:WA)(fl:List Yn)(YA:Nat->Int)(ZG:List OS)(l:Yn)(w:an)(d:WY o h)(N:Z6 o h wb i nb a n)(W:Z0 o h wb YK Xu fl YA ZG)(iv:Tw o h w l.vs)(hk:n.Zi.length<=100000000000)(hl:n.ZI.length<=100000000000)(ht:(U ZG)<=100000000000)(hq:n.ZB.length<=1000000000000)(hw:n.Zq.length<=1000000000000)(hv:∀r s,n.Zh=O r->((Yl r.YY s).getD []).length<=1000000):
  Zg aI T 68 #[Zz wb,Zz nb,au (XN l w).toArray] h fun v' h'=>∃o' a' Js,Kp (qh i) o h o' h'/\Z6 o' h' wb i nb a' (Yx n l).n/\Z0 o' h' wb YK Js fl YA (ZG++(Yx n l).ts):=by
 obtain⟨pw,cw,rfl⟩:=iv.ZN;refine Zg.XK [_,_,_] Tryz.func68 ?_;unfold Zz XN;have Vg:=Za N.ZZ.2;have R:=ZS N.ZZ.2 N.pt.store.len;obtain⟨h1,Xp⟩:=ZP (h.push (J (XN l (H pw (U l.vs) cw)).toArray 99):Hp);have k1:Kp UN o h o h1:=by rw[Xp];exact Yv d _
 have x5:Z9 o h1 h.size (J (XN l (H pw (U l.vs) cw)).toArray 99):=⟨d _ (am _),by rw[Xp];exact Zd⟩
 have e0:=Xp.symm;unfold XN at e0;have N1:=N.Zo k1;have W1:=W.Zo k1;have iv1:=iv.keep k1;have R1:=ZS N1.ZZ.2 N1.pt.store.len;have QV:=Za N1.ZZ.2;have m5:=Za x5.2;have q0:hc h1 ⟨h.size,0,aa⟩=O (Q D l.ZH):=Zn x5.2;have q1:hc h1 ⟨h.size,1,aa⟩=O (Q D l.JA):=Zn x5.2;have q3:rd h1 ⟨h.size,3,aa⟩ 2=O (Qu l.b):=by rw[YI x5.2 (by simp[XN])];rfl
 have q5:hc h1 ⟨h.size,5,aa⟩=O (Q D l.v.Zs):=Zn x5.2;have q6:rd h1 ⟨h.size,6,aa⟩ 2=O (Qu l.v.b):=by rw[YI x5.2 (by simp[XN])];rfl
 have q13:hc h1 ⟨h.size,13,aa⟩=O (H pw (U l.vs) cw):=Zn x5.2;have tH:=N1.pt.Zh;have hR9:=R.Zh
 cases hr:n.Zh with
 | none=>
  cases har:a.Zh with
  | some ra=>rw[hr,har]at tH;exact tH.elim
  | none=>
   have eP:Yx n l=⟨n,[],[]⟩:=by unfold Yx;rw[hr]
   rw[har]at hR9;unfold Me at hR9;rw[eP,ak];simp only[go_sem,hR9];rw[e0];exact⟨o,a,Xu,ZY k1,N1,W1⟩
 | some r=>
  cases har:a.Zh with
  | none=>rw[hr,har]at tH;exact tH.elim
  | some ra=>
   rw[hr,har]at tH;have RG:XA o i h1 ra r:=tH;rw[har]at hR9;unfold Me Zz at hR9;have mrb:=Za RG.ZZ.2;have rr0:rd h1 ⟨ra.rb,0,aa⟩ 2=O (Qu r.b):=by rw[YI RG.ZZ.2 (by simp[iS])];rfl
   have rr2:hc h1 ⟨ra.rb,2,aa⟩=O (.map (O ra.pb)):=Zn RG.ZZ.2;have rr5:hc h1 ⟨ra.rb,5,aa⟩=O (.map (O ra.vb)):=Zn RG.ZZ.2;by_cases c1:l.ZH=1
   .have c1b:=eq_true c1;simp only[go_sem,hR9,c1b];rw[e0];refine VS.q mixed sV ?_;simp only[go_sem,q3,rr0];by_cases c2:l.b=r.b
    .have eP:Yx n l=⟨ZcR n r l,[],[]⟩:=by unfold Yx;rw[hr];simp only;rw[if_pos c1,if_pos c2]
     rw[eP,ak];have c2b:=eq_true c2;simp only[go_sem,c2b];refine VS.z (h1.size) [8] (.p 0 (.p 1 (.p 2 (.q 3 (.p 4 (.q 5 (.p 6 (.q 7 (.w 8 .nil))))))))) mixed sV ?_;simp only[go_sem,rr2,q1,q13,mrb,m5];rw[JV Io RG.ZL.2];simp only[go_sem];obtain⟨k2,R2⟩:=RG.lw k1.Yt (k:=l.JA) iv1;refine⟨o,{ a with Zh:=O { ra with pv:=ins ra.pv l.JA (H pw (U l.vs) cw) } },Xu,(ZY k1).trans (k2.mono fun t q=>.inr (.inr (.inl q))),⟨?_,?_⟩,W1.keep k2 (by rintro t rfl;simp[Tg.of])⟩
     .have:=N1.ZZ.keep k2 tP;rw[<-Iu (O { r with ZL:=ins r.ZL l.JA l.vs }) har (ra':={ ra with pv:=ins ra.pv l.JA (H pw (U l.vs) cw) }) rfl]at this;exact this
     .exact Ym.UG N1.pt (k2.mono fun t q=>.inr (.inl q)) har rfl R2
    .have eP:Yx n l=⟨n,[],[]⟩:=by unfold Yx;rw[hr];simp only;rw[if_pos c1,if_neg c2]
     rw[eP,ak];simp only[go_sem,c2];exact⟨o,a,Xu,ZY k1,N1,W1⟩
   .simp only[go_sem,hR9,c1];rw[e0];refine VS.q mixed sV ?_;simp only[go_sem,q6,rr0];by_cases c2:l.v.b=r.b
    case neg=>
     have eP:Yx n l=⟨n,[],[]⟩:=by unfold Yx;rw[hr];simp only;rw[if_neg c1,if_pos c2]
     rw[eP,ak];simp only[go_sem,c2];exact⟨o,a,Xu,ZY k1,N1,W1⟩
    have eP:Yx n l=if 5<2*(Qp r l).length then X9 (Ta n r l) l.v.Zs l.v.cm else ⟨Ta n r l,[],[]⟩:=by unfold Yx;rw[hr];simp only;rw[if_neg c1,if_neg (fun q=>q c2)]
    rw[eP];have hvr:=hv r l.v.Zs hr;have c2b:=eq_true c2;have lk:=fun (K:an->Hp->Prop)=>Xe (K:=K) (n:=l.v.Zs) (c:=false) GP Dr RG.YY.2;rw[Jj]at lk;obtain⟨S,hS⟩:=ZP ((Yl r.YY l.v.Zs).getD []);have hlen:(U S)<=1000000:=by rw[hS];exact hvr
    have NA1:Z6 o h1 wb i nb { a with Zh:=O ra } { n with Zh:=O r }:=by
     have e1:({ a with Zh:=O ra }:NA)=a:=by rw[<-har]
     have e2:({ n with Zh:=O r }:Nd)=n:=by rw[<-hr]
     rw[e1,e2];exact N1
    have KG:Kp (qh i) o h o h1:=ZY k1;have Zc4:=hR9;rcases RG.Su.Yl l.v.Zs with⟨e1,e2⟩|⟨sb,S',e1,e2,hsb⟩
    .have hS0:S=[]:=by rw[hS,e2];rfl
     rw[e1]at lk;simp only[a4,a0,aU,if_false]at lk
     -- iY new set
     obtain⟨h2,Tv⟩:=ZP (h1.push (Jk []):Hp);have eh2:h1.push (.map #[] 0)=h2:=Tv.symm;have k2a:Kp (JL i) o h1 (QI o h1.size (.RN i l.v.Zs)) h2:=by
      rw[Tv];exact ((Kp.refl k1.Yt _).push _).PI (am _) sW (.inr (.inr (.inr (.inr ⟨_,rfl⟩))))
     have kx:Kp UN o h1 o h2:=by rw[Tv];exact Yv k1.Yt _
     have RGx:=RG.keep kx (fun _ _ q=>q);have lo:∀b,b<h1.size->QI o h1.size (.RN i l.v.Zs) b=o b:=fun b hb=>XY mD;obtain⟨o2,ho2⟩:=ZP (QI o h1.size (.RN i l.v.Zs));rw[<-ho2]at k2a lo;have RGy:XA o2 i h2 ra r:=by
      have lt:∀{b:Nat} {x:Obj},h1[b]? = O x->b<h1.size:=Za;refine⟨⟨(lo _ (Za RG.ZZ.2)).trans RG.ZZ.1,RGx.ZZ.2⟩,⟨(lo _ (Za RG.ZL.2)).trans RG.ZL.1,RGx.ZL.2⟩,RG.Og.keep k2a,⟨(lo _ (Za RG.Yj.2)).trans RG.Yj.1,RGx.Yj.2⟩,⟨(lo _ (Za RG.YY.2)).trans RG.YY.1,RGx.YY.2⟩,?_,RG.keys⟩;have key:∀{sv:List (Int × Nat)} {vt:List (Int × List (Int × Unit))},Wg o i h1 sv vt->Wg o2 i h2 sv vt:=by
       intro sv vt s
       induction s with
       | nil=>exact .nil
       | cons x _ ih=>exact .cons ⟨x.1,⟨(lo _ (Za x.2.2)).trans x.2.1,(x.2.keep kx id).2⟩⟩ ih
      exact key RG.Su
     have ms:UF o2 (.RN i l.v.Zs) h2 h1.size (IV []):=⟨by rw[ho2];exact XR,by rw[Tv];exact Zd⟩
     have ZGG:ra.rb<h2.size:=by have:=kx.size;omega
     simp only[go_sem,hR9,c2b,q5,rr5,lk,mpV];rw[eh2,JV GP RGy.YY.2];obtain⟨G,hG⟩:=ZP (h2.setIfInBounds ra.vb (Jk (ins (Vh mpV ra.sv) l.v.Zs (.map (O h1.size)))));rw[<-hG];obtain⟨pS,Zg0⟩:∃pS:RA,pS = { ra with sv:=ins ra.sv l.v.Zs h1.size }:=⟨_,rfl⟩
     have kk:Kp (fun t=>t=.YY i) o2 h2 o2 G:=by rw[hG];exact (Kp.refl k2a.Yt (fun t=>t=.YY i)).set RGy.YY.1 rfl _
     have RGG:XA o2 i G pS { r with YY:=ins r.YY l.v.Zs [] }:=by
      rw[Zg0];refine⟨RGy.ZZ.keep kk tP,RGy.ZL.keep kk tP,RGy.Og.keep kk,RGy.Yj.keep kk tP,⟨RGy.YY.1,?_⟩,(Wg.add ms RGy.Su e1).keep kk (fun _ e=>by cases e),(bC RG.keys).1⟩;show G[ra.vb]? = O (Jk (Vh mpV (ins ra.sv l.v.Zs h1.size)));rw[hG,ZQ RGy.YY.2,PG];rfl
     have k2b:Kp (JL i) o h1 o2 G:=k2a.trans (kk.mono fun t q=>.inr (.inr (.inr (.inl q))));have bD:pS.rb=ra.rb:=by rw[Zg0]
     have NG:Z6 o2 G wb i nb { a with Zh:=O pS } { n with Zh:=O { r with YY:=ins r.YY l.v.Zs [] } }:=by
      refine⟨?_,Ym.UG NA1.pt k2b rfl bD RGG⟩;have:=NA1.ZZ.keep k2b (by rintro (q|q|q|q|⟨_,q⟩)<;>cases q);rw[show Ja { n with Zh:=O { r with YY:=ins r.YY l.v.Zs [] } } { a with Zh:=O pS } = Ja { n with Zh:=O r } { a with Zh:=O ra } from by unfold Ja Vo Me;simp only[bD]];exact this
     have WG:=W1.keep k2b (by intro t q;rw[Kj q];simp);have XG:=x5.keep k2b;have KG2:Kp (qh i) o h o2 G:=(ZY k1).trans (k2b.mono fun t q=>.inr q);have LKS:Yl pS.sv l.v.Zs=O h1.size:=by rw[Zg0];simp[Xl]
     have SB:UF o2 (.RN i l.v.Zs) G h1.size (IV S):=by rw[hS0];exact ms.keep kk tP
     have Q5:hc G ⟨h.size,5,aa⟩=O (Q D l.v.Zs):=Zn XG.2;have Q1:hc G ⟨h.size,1,aa⟩=O (Q D l.JA):=Zn XG.2;have RR5:hc G ⟨ra.rb,5,aa⟩=O (.map (O pS.vb)):=by rw[<-bD];exact Zn RGG.ZZ.2
     have MRB:ra.rb<G.size:=by rw[<-bD];exact Za RGG.ZZ.2
     have M5:=Za XG.2;have LK:=fun (K:an->Hp->Prop)=>Xe (K:=K) (n:=l.v.Zs) (c:=false) GP Dr RGG.YY.2;rw[Jj]at LK;simp only[LKS,aK,aF,aU,if_false,mpV]at LK;simp only[go_sem];refine VS.z (G.size) [9] (.p 0 (.p 1 (.p 2 (.q 3 (.p 4 (.p 6 (.q 7 (.p 8 (.s 5 (.w 9 .nil)))))))))) mixed sV ?_;simp only[go_sem,Zc4,c2b,Q5,Q1,RR5,LK,MRB,M5];rw[JV Dq SB.2];obtain⟨k2,RG2⟩:=RGG.yR KG2.Yt (l':=ins S l.JA ()) LKS SB;rw[show Jk (ins (IV S) l.JA (au #[]))=Jk (IV (ins S l.JA ())) from by unfold IV;rw[PG]];obtain⟨g2,U1⟩:=ZP (G.setIfInBounds h1.size (Jk (IV (ins S l.JA ()))));rw[<-U1]at k2 RG2 ⊢;have eV:({ r with YY:=ins r.YY l.v.Zs (Qp r l) }:XM) = { ({ r with YY:=ins r.YY l.v.Zs [] }:XM) with YY:=ins (ins r.YY l.v.Zs []) l.v.Zs (ins S l.JA ()) }:=by unfold Qp;rw[hS,Zc2]
     have K2:Kp (qh i) o2 G o2 g2:=k2.mono fun t q=>.inr (.inr (.inr (.inr (.inr ⟨_,q⟩))));have N2:Z6 o2 g2 wb i nb { a with Zh:=O pS } (Ta n r l):=by
      refine⟨?_,?_⟩
      .have:=NG.ZZ.keep k2 tP;exact this
      .have:=Ym.UG NG.pt (k2.mono fun t q=>.inr (.inr (.inr (.inr ⟨_,q⟩)))) rfl rfl RG2;unfold Ta;rw[eV];exact this
     have W2:=WG.keep k2 (by rintro t rfl;simp[Tg.of]);have x2:=XG.keep k2;have p0:rd g2 ⟨h.size,8,aa⟩ 5=O l.v.cm.C:=by rw[YI x2.2 (by simp[XN])];rfl
     have p5:hc g2 ⟨pS.rb,5,aa⟩=O (.map (O pS.vb)):=Zn RG2.ZZ.2;rw[bD]at p5;have p6:=fun (K:an->Hp->Prop)=>Xe (K:=K) (n:=l.v.Zs) (c:=false) GP Dr RG2.YY.2;rw[Jj]at p6;simp only[LKS,aK,aF,aU,if_false]at p6;have SB2:UF o2 (.RN i l.v.Zs) g2 h1.size (IV (ins S l.JA ())):=⟨SB.1,by rw[U1];exact ZQ SB.2⟩
     have p7:=fun (K:an->Hp->Prop) (cs:Array Bool) (ty:bf)=>Rw (T:=T) (K:=K) (ty:=ty) (cs:=cs) Dq SB2.2;have p8:(IV (ins S l.JA ())).length=(Qp r l).length:=by unfold IV Qp;rw[KM,hS]
     rw[p8]at p7;simp only[go_sem,Zc4,c2b,p5,p6,p7,mpV];refine (Hk T g2 (Qp r l).length (by unfold Qp;rw[<-hS,NU];split<;>omega)).use ?_;rintro _ _ ⟨rfl,rfl⟩;by_cases c3:5<2*(Qp r l).length
     .rw[if_pos c3];simp only[go_sem,c3,p0];refine (GW T _ o2 wb i nb YK _ _ Xu fl YA ZG l.v.Zs l.v.cm k2.Yt N2 W2 hk hl ht hq hw).use ?_;rintro v' h' ⟨o',a',Js,kl,N',W'⟩;simp only[go_sem];exact⟨o',a',Js,(KG2.trans K2).trans (kl.mono fun t q=>.inl q),N',W'⟩
     .rw[if_neg c3,ak];simp only[go_sem,c3];exact⟨o2,_,Xu,KG2.trans K2,N2,W2⟩
    .have hS0:S=S':=by rw[hS,e2];rfl
     subst hS0;rw[e1]at lk;simp only[aK,aF,aU,if_false]at lk;simp only[go_sem,c2b,q5,rr5,lk,mpV,hR9];have Sx:=fun (K:an->Hp->Prop)=>Xe (K:=K) (n:=l.v.Zs) (c:=false) GP Dr RG.YY.2;rw[Jj]at Sx;simp only[e1,aK,aF,aU,if_false,mpV]at Sx;refine VS.z (h1.size) [9] (.p 0 (.p 1 (.p 2 (.q 3 (.p 4 (.p 6 (.q 7 (.p 8 (.s 5 (.w 9 .nil)))))))))) mixed sV ?_;simp only[go_sem,Zc4,c2b,q5,q1,rr5,Sx,mrb,m5];rw[JV Dq hsb.2];obtain⟨k2,RG2⟩:=RG.yR KG.Yt (l':=ins S l.JA ()) e1 hsb;rw[show Jk (ins (IV S) l.JA (au #[]))=Jk (IV (ins S l.JA ())) from by unfold IV;rw[PG]];obtain⟨g2,U1⟩:=ZP (h1.setIfInBounds sb (Jk (IV (ins S l.JA ()))));rw[<-U1]at k2 RG2 ⊢;have eV:({ r with YY:=ins r.YY l.v.Zs (Qp r l) }:XM) = { r with YY:=ins r.YY l.v.Zs (ins S l.JA ()) }:=by unfold Qp;rw[hS]
     have K2:Kp (qh i) o h1 o g2:=k2.mono fun t q=>.inr (.inr (.inr (.inr (.inr ⟨_,q⟩))));have N2:Z6 o g2 wb i nb { a with Zh:=O ra } (Ta n r l):=by
      refine⟨?_,?_⟩
      .have:=NA1.ZZ.keep k2 tP;exact this
      .have:=Ym.UG NA1.pt (k2.mono fun t q=>.inr (.inr (.inr (.inr ⟨_,q⟩)))) rfl rfl RG2;unfold Ta;rw[eV];exact this
     have W2:=W1.keep k2 (by rintro t rfl;simp[Tg.of]);have x2:=x5.keep k2;have p0:rd g2 ⟨h.size,8,aa⟩ 5=O l.v.cm.C:=by rw[YI x2.2 (by simp[XN])];rfl
     have p5:hc g2 ⟨ra.rb,5,aa⟩=O (.map (O ra.vb)):=Zn RG2.ZZ.2;have p6:=fun (K:an->Hp->Prop)=>Xe (K:=K) (n:=l.v.Zs) (c:=false) GP Dr RG2.YY.2;rw[Jj]at p6;simp only[e1,aK,aF,aU,if_false]at p6;have SB2:UF o (.RN i l.v.Zs) g2 sb (IV (ins S l.JA ())):=⟨hsb.1,by rw[U1];exact ZQ hsb.2⟩
     have p7:=fun (K:an->Hp->Prop) (cs:Array Bool) (ty:bf)=>Rw (T:=T) (K:=K) (ty:=ty) (cs:=cs) Dq SB2.2;have p8:(IV (ins S l.JA ())).length=(Qp r l).length:=by unfold IV Qp;rw[KM,hS]
     rw[p8]at p7;simp only[go_sem,Zc4,c2b,p5,p6,p7,mpV];refine (Hk T g2 (Qp r l).length (by unfold Qp;rw[<-hS,NU];split<;>omega)).use ?_;rintro _ _ ⟨rfl,rfl⟩;by_cases c3:5<2*(Qp r l).length
     .rw[if_pos c3];simp only[go_sem,c3,p0];refine (GW T _ o wb i nb YK _ _ Xu fl YA ZG l.v.Zs l.v.cm k2.Yt N2 W2 hk hl ht hq hw).use ?_;rintro v' h' ⟨o',a',Js,kl,N',W'⟩;simp only[go_sem];exact⟨o',a',Js,(KG.trans K2).trans (kl.mono fun t q=>.inl q),N',W'⟩
     .rw[if_neg c3,ak];simp only[go_sem,c3];exact⟨o,_,Xu,KG.trans K2,N2,W2⟩
def JH(i:Nat)(t:Tg):Prop:=t=.world\/t=.Zm\/t=.ZG\/t.of=O i
theorem GZ{i:Nat}{t:Tg}(h:UT i t):JH i t:=by
 rcases h with rfl|rfl|rfl|rfl|rfl|rfl|rfl<;>simp[JH,Tg.of]
theorem bE{i:Nat}{t:Tg}(h:qh i t):JH i t:=h.elim GZ fun q=>.inr (.inr (.inr (Kj q)))
theorem bF(T:a8)(h:Hp)(o:Ow)(wb i nb:Nat)(a:NA)(n:Nd)(l:Yn)(w:an)(d:WY o h)(N:Z6 o h wb i nb a n)(iv:Tw o h w l.vs):
  Zg aI T 73 #[Zz wb,Zz nb,au (XN l w).toArray] h fun v' h'=>Kp (fun t=>t=.ZX i) o h o h'/\Z6 o h' wb i nb a (Xo n l):=by
 obtain⟨pw,cw,rfl⟩:=iv.ZN;refine Zg.XK [_,_,_] Tryz.func73 ?_;unfold Zz XN;have e0:∃h1:Hp,h1=h.push (J (XN l (H pw (U l.vs) cw)).toArray 99):=⟨_,rfl⟩
 obtain⟨h1,Xp⟩:=e0;have k1:Kp UN o h o h1:=by rw[Xp];exact Yv d _
 have x5:Z9 o h1 h.size (J (XN l (H pw (U l.vs) cw)).toArray 99):=⟨d _ (am _),by rw[Xp];exact Zd⟩
 have e0:=Xp.symm;unfold XN at e0;have N1:=N.Zo k1;have R1:=ZS N1.ZZ.2 N1.pt.store.len;have QV:=Za N1.ZZ.2;have m5:=Za x5.2;have q3:rd h1 ⟨h.size,3,aa⟩ 2=O (Qu l.b):=by rw[YI x5.2 (by simp[XN])];rfl
 have r7:rd h1 ⟨nb,7,aa⟩ 2=O (Qu n.Ye):=R1.Ye;simp only[go_sem];rw[e0];refine VS.mono (N:=fun F' g'=>Zk h1.size h1 g'/\F' 1=Z (O ⟨nb,0,aa⟩)/\F' 5=Z (O ⟨h.size,0,aa⟩)/\F' 12=a5 (decide (Zw n.Ye l.b))) ?_ ?_ (fun _ _ _ h=>h) (fun _ _ h=>h)
 .refine VS.z (h1.size) [6] (.p 0 (.q 1 (.p 2 (.p 3 (.p 4 (.q 5 (.w 6 .nil))))))) mixed sV ?_;simp only[go_sem,q3,r7,QV,m5];refine (Ls T h1 l.b n.Ye).use ?_;rintro _ g ⟨rfl,b⟩;simp only[go_sem,b]
 .rintro F' g ⟨b,f1,f5,f12⟩;have kb:=ZU k1.Yt b;have N2:=N1.Zo kb;have K2:=k1.trans kb;by_cases c:Zw n.Ye l.b
  .have e:Xo n l = { n with Ye:=l.b }:=by unfold Xo;rw[if_pos c]
   rw[e];obtain⟨g2,w2,N3,k3⟩:=Ym.write (n:={ n with Ye:=l.b }) (a:=a) { N2.pt with } K2.Yt N2.ZZ ((XF N2.ZZ.2 N2.pt.store.len).Ye l.b.r l.b.n);have p3:rd g ⟨h.size,3,aa⟩ 2=O [Q D l.b.r,Q D l.b.n]:=by rw[YI (x5.keep kb).2 (by simp[XN])];rfl
   have Q3:=Za N2.ZZ.2;simp only[go_sem,f1,f5,f12,c,p3,w2,Q3];exact⟨(ZY K2).trans k3,N3⟩
  .have e:Xo n l=n:=by unfold Xo;rw[if_neg c]
   rw[e];simp only[go_sem,f12,c];exact⟨ZY K2,N2⟩
theorem qi(T:a8)(h:Hp)(o:Ow)(wb i nb:Nat)(YK:Nat->Nat)(a:NA)(n:Nd)(Xu:WA)(fl:List Yn)(YA:Nat->Int)(ZG:List OS)(l:Yn)(w:an)(d:WY o h)(N:Z6 o h wb i nb a n)(W:Z0 o h wb YK Xu fl YA ZG)(iv:Tw o h w l.vs)(hk:n.Zi.length<=100000000000)(hl:n.ZI.length<=100000000000)(ht:(U ZG)<=100000000000)(hq:n.ZB.length<=1000000000000)(hw:n.Zq.length<=1000000000000):
  Zg aI T 72 #[Zz wb,Zz nb,au (XN l w).toArray] h fun v' h'=>∃o' a' Js,Kp (UT i) o h o' h'/\Z6 o' h' wb i nb a' (X9 n l.v.Zs l.v.cm).n/\Z0 o' h' wb YK Js fl YA (ZG++(X9 n l.v.Zs l.v.cm).ts):=by
 obtain⟨pw,cw,rfl⟩:=iv.ZN;refine Zg.XK [_,_,_] Tryz.func72 ?_;unfold Zz XN;obtain⟨h1,Xp⟩:=ZP (h.push (J (XN l (H pw (U l.vs) cw)).toArray 99):Hp);have k1:Kp UN o h o h1:=by rw[Xp];exact Yv d _
 have e0:=Xp.symm;unfold XN at e0;simp only[go_sem];rw[e0];refine (GW T h1 o wb i nb YK a n Xu fl YA ZG l.v.Zs l.v.cm k1.Yt (N.Zo k1) (W.Zo k1) hk hl ht hq hw).use ?_;rintro v' h' ⟨o',a',Js,k,N',W'⟩;simp only[go_sem];exact⟨o',a',Js,(ZY k1).trans k,N',W'⟩
theorem yS(T:a8)(h:Hp)(o:Ow)(wb i nb:Nat)(a:NA)(n:Nd)(l:Yn)(w:an)(d:WY o h)(N:Z6 o h wb i nb a n)(iv:Tw o h w l.vs)(hq:n.ZB.length<=1000000000000)(hl:n.ZI.length<=1000000000000):
  Zg aI T 70 #[Zz wb,Zz nb,au (XN l w).toArray] h fun v' h'=>∃o' a',Kp (ZgW i) o h o' h'/\Z6 o' h' wb i nb a' (add n l.v.cm):=by
 obtain⟨pw,cw,rfl⟩:=iv.ZN;refine Zg.XK [_,_,_] Tryz.func70 ?_;unfold Zz XN;obtain⟨h1,Xp⟩:=ZP (h.push (J (XN l (H pw (U l.vs) cw)).toArray 99):Hp);have k1:Kp UN o h o h1:=by rw[Xp];exact Yv d _
 have e0:=Xp.symm;unfold XN at e0;simp only[go_sem];rw[e0];refine (yL T h1 o wb i nb a n l.v.cm k1.Yt (N.Zo k1) hq hl).use ?_;rintro v' h' ⟨o',a',k,N'⟩;simp only[go_sem];exact⟨o',a',(ZY k1).trans k,N'⟩
theorem yU(T:a8)(h:Hp)(o:Ow)(wb i nb:Nat)(YK:Nat->Nat)(a:NA)(n:Nd)(Xu:WA)(fl:List Yn)(YA:Nat->Int)(ZG:List OS)(l:Yn)(w:an)(d:WY o h)(N:Z6 o h wb i nb a n)(W:Z0 o h wb YK Xu fl YA ZG)(iv:Tw o h w l.vs)(Xa:(U fl)<=1000000000000):
  Zg aI T 71 #[Zz wb,Zz nb,au (XN l w).toArray] h fun v' h'=>∃o' a' Js,Kp (fun t=>t=.world\/t=.Zm\/t=.ZX i) o h o' h'/\Z6 o' h' wb i nb a' (JY n l).n/\Z0 o' h' wb YK Js (fl++(JY n l).ls) YA ZG:=by
 obtain⟨pw,cw,rfl⟩:=iv.ZN;refine Zg.XK [_,_,_] Tryz.func71 ?_;unfold Zz XN;obtain⟨h1,Xp⟩:=ZP (h.push (J (XN l (H pw (U l.vs) cw)).toArray 99):Hp);have k1:Kp UN o h o h1:=by rw[Xp];exact Yv d _
 have x5:Z9 o h1 h.size (J (XN l (H pw (U l.vs) cw)).toArray 99):=⟨d _ (am _),by rw[Xp];exact Zd⟩
 have e0:=Xp.symm;have cc:=bF T h1 o wb i nb a n l (H pw (U l.vs) cw) k1.Yt (N.Zo k1) (iv.keep k1);unfold XN at e0;unfold XN Zz at cc;simp only[go_sem];rw[e0];refine cc.use ?_;rintro _ g ⟨k2,N2⟩;have W2:=(W.Zo k1).keep k2 (by rintro t rfl;simp[Tg.of]);have y5:=x5.keep k2;have R2:=ZS N2.ZZ.2 N2.pt.store.len;have Q3:=Za N2.ZZ.2;have m5:=Za y5.2;have q5:hc g ⟨h.size,5,aa⟩=O (Q D l.v.Zs):=Zn y5.2;have ek:(Xo n l).Zi=n.Zi:=by unfold Xo;split<;>rfl
 have eme:(Xo n l).me=n.me:=by unfold Xo;split<;>rfl
 have lk:=fun (K:an->Hp->Prop)=>Xe (K:=K) (n:=l.v.Zs) (c:=true) S8 Lo N2.pt.Zi.2;have Sx:=fun (K:an->Hp->Prop) (x:Obj)=>Xe (h:=g.push x) (K:=K) (n:=l.v.Zs) (c:=true) S8 Lo ((ZF (Za N2.pt.Zi.2)).trans N2.pt.Zi.2);rw[Jj,ek]at lk;simp only[Jj,ek]at Sx;have gp:∀x:Obj,(g.push x)[g.size]? = O x:=fun x=>Zd;simp only[go_sem]
 cases hx:Yl n.Zi l.v.Zs with
 | none=>
  have eP:JY n l=⟨Xo n l,[],[]⟩:=by unfold JY;rw[hx]
  rw[eP,ak];rw[hx]at lk;simp only[hx,a4,a0,aw,↓reduceIte]at lk Sx;refine VS.mono (N:=fun F' g'=>Zk g.size g g'/\F' 7=a5 false) ?_ ?_ (fun _ _ _ h=>h) (fun _ _ h=>h)
  .refine VS.z (g.size) [7,12] (.p 0 (.p 1 (.p 2 (.q 3 (.p 4 (.p 5 (.q 6 (.or 7 (.p 8 (.p 9 (.p 10 (.s 11 (.w 12 (.p 13 .nil)))))) (.s 11 (.w 7 (.p 8 (.p 9 (.p 10 (.w 12 (.p 13 .nil))))))))))))))) mixed sV ?_;simp only[go_sem,R2.Zi,q5,Q3,m5,lk,Sx]
   repeat' (first|exact Zk.refl _ _|exact Zk.push (am _) _|refine a9 ?_ ?_)
  .rintro F' g' ⟨b,f7⟩;simp only[go_sem,f7];exact⟨o,a,Xu,((ZY k1).trans (k2.mono fun t q=>.inr (.inr q))).YJ b,N2.Zo (ZU k2.Yt b),W2.Zo (ZU k2.Yt b)⟩
 | some y=>
  have eP:JY n l=⟨Xo n l,[⟨6,n.me,l.JA,X2,QJ l.v.Zs X2 y,[]⟩],[]⟩:=by unfold JY;rw[hx]
  rw[eP];rw[hx]at lk;simp only[hx,aK,aF,aX,↓reduceIte]at lk Sx;refine VS.mono (N:=fun F' g'=>Zk g.size g g'/\F' 0=Z (O ⟨wb,0,aa⟩)/\F' 1=Z (O ⟨nb,0,aa⟩)/\F' 5=Z (O ⟨h.size,0,aa⟩)/\F' 7=a5 true/\F' 6=Z (O ⟨g.size,0,aa⟩)/\g'[g.size]? = O (J y.C.toArray 49)) ?_ ?_ (fun _ _ _ h=>h) (fun _ _ h=>h)
  .refine VS.z (g.size) [7,12] (.p 0 (.p 1 (.p 2 (.q 3 (.p 4 (.p 5 (.q 6 (.or 7 (.p 8 (.p 9 (.p 10 (.s 11 (.w 12 (.p 13 .nil)))))) (.s 11 (.w 7 (.p 8 (.p 9 (.p 10 (.w 12 (.p 13 .nil))))))))))))))) mixed sV ?_;simp only[go_sem,R2.Zi,q5,Q3,m5,lk,Sx,Sc]
   repeat' (first|exact Zk.refl _ _|exact Zk.push (am _) _|exact gp _|refine a9 ?_ ?_)
  .rintro F' g' ⟨b,f0,f1,f5,f7,f6,yy⟩;have kb:=ZU k2.Yt b;have N3:=N2.Zo kb;have W3:=W2.Zo kb;have z5:=y5.keep kb;have R3:=ZS N3.ZZ.2 N3.pt.store.len;have p1:hc g' ⟨h.size,1,aa⟩=O (Q D l.JA):=Zn z5.2;have p5:hc g' ⟨h.size,5,aa⟩=O (Q D l.v.Zs):=Zn z5.2;have p6:rd g' ⟨g.size,0,aa⟩ 5=O [Q D y.k,Q D y.c,Q D y.s,Q D y.n,Q D y.v]:=ZA yy rfl;simp only[go_sem,f0,f1,f5,f7,f6,p1,p5,p6];refine (VE T g' o wb nb YK n.me Xu fl YA ZG l.JA ⟨6,0,0,X2,QJ l.v.Zs X2 y,[]⟩ (H aa 0 0) kb.Yt W3 (by rw[<-eme];exact R3.me) (Za N3.ZZ.2) (Im.nil _ _ _ _) Xa).use ?_;rintro v' h' ⟨o',Js,k,_,W'⟩;simp only[go_sem];exact⟨o',a,Js,(((ZY k1).trans (k2.mono fun t q=>.inr (.inr q))).trans (ZY kb)).trans (k.mono fun t q=>q.elim .inl fun q=>.inr (.inl q)),N3.keep k (by rintro t (rfl|rfl)<;>simp[Tg.of]),W'⟩
section
variable {K:an->Hp->Prop} {X:Hp}
theorem Dy{t e:bf}(ht:kj aI t=O e){b:Nat}(hb:b=X.size){l:List (Int × an)}{n:Int}{x:an}:
  KN aI t (.map (O b)) (Q D n) x K (X.push (Jk l))=K undef (X.push (Jk (ins l n x))):=by
 subst hb;rw[JV ht Zd]
 congr 1
 apply Array.ext_getElem?;intro j;rw[Array.getElem?_setIfInBounds,bd,bd];by_cases hj:X.size=j
 .subst hj;simp
 .rw[if_neg hj,if_neg (fun e=>hj e.symm),if_neg (fun e=>hj e.symm)]
theorem iZ{t e:bf}(ht:kj aI t=O e){b:Nat}(hb:b=X.size){n:Int}{x:an}:
  KN aI t (.map (O b)) (Q D n) x K (X.push (.map #[] 0))=K undef (X.push (Jk [(n,x)])):=Dy (l:=[]) ht hb
theorem i9{t e:bf}{z:an}(ht:kj aI t=O e)(hz:tzv aI e=O z){b:Nat}(hb:b=X.size){l:List (Int × an)}{n:Int}{x:an}(hx:Yl l n=O x):
  KL aI t (.map (O b)) (Q D n) false K (X.push (Jk l))=K x (X.push (Jk l)):=by
 subst hb;rw[Xe ht hz Zd,hx];rfl
end
theorem bH(n:Nd)(l:Yn):(Y3 n l).ts=[]:=by
 unfold Y3
 repeat' split
 all_goals rfl
theorem yV(n:Nd)(l:Yn):(asked n l).ts=[]:=by
 unfold asked
 repeat' split
 all_goals rfl
theorem yW(n:Nd)(l:Yn):(JY n l).ts=[]:=by
 unfold JY;split<;>rfl
theorem yX(n:Nd)(s:Int)(x:Cm):(X9 n s x).ls=[]:=rfl
theorem Iw(n:Nd)(l:Yn):(Yx n l).ls=[]:=by
 unfold Yx
 repeat' split
 all_goals rfl
set_option maxHeartbeats 1000000 in
theorem qj(T:a8)(h:Hp)(o:Ow)(wb i nb:Nat)(YK:Nat->Nat)(a:NA)(n:Nd)(Xu:WA)(fl:List Yn)(YA:Nat->Int)(ZG:List OS)(l:Yn)(w:an)(d:WY o h)(N:Z6 o h wb i nb a n)(W:Z0 o h wb YK Xu fl YA ZG)(iv:Tw o h w l.vs)(tb:dS o h)(Zz8:0<=l.ZH/\l.ZH<=7)(Xa:(U fl)<=1000000000000)(yi:n.Zr.l.length<=1000000)(td:(U n.data)<=1000000)(hk:n.Zi.length<=100000000000)(hl:n.ZI.length<=100000000000)(ht:(U ZG)<=100000000000)(hq:n.ZB.length<=1000000000000)(hw:n.Zq.length<=1000000000000)(hv:∀r s,n.Zh=O r->((Yl r.YY s).getD []).length<=1000000):
  Zg aI T 42 #[Zz wb,Zz nb,au (XN l w).toArray] h fun v' h'=>∃o' a' Js,Kp (JH i) o h o' h'/\Z6 o' h' wb i nb a' (Zx n l).n/\Z0 o' h' wb YK Js (fl++(Zx n l).ls) YA (ZG++(Zx n l).ts):=by
 obtain⟨pw,cw,rfl⟩:=iv.ZN;refine Zg.XK [_,_,_] Tryz.func42 ?_;obtain⟨h1,Xp⟩:=ZP (h.push (J (XN l (H pw (U l.vs) cw)).toArray 99):Hp);have k1:Kp UN o h o h1:=by rw[Xp];exact Yv d _
 have x5:Z9 o h1 h.size (J (XN l (H pw (U l.vs) cw)).toArray 99):=⟨d _ (am _),by rw[Xp];exact Zd⟩
 have e0:=Xp.symm;have s1:h1.size=h.size+1:=by rw[Xp];simp
 obtain⟨M,hM⟩:∃M:List (Int × an),M=[(0,.func (.func 67) #[] #[]),(1,.func (.func 68) #[] #[]),(2,.func (.func 69) #[] #[]),(3,.func (.func 68) #[] #[]),(4,.func (.func 70) #[] #[]),(5,.func (.func 71) #[] #[]),(6,.func (.func 72) #[] #[]),(7,.func (.func 73) #[] #[])]:=⟨_,rfl⟩
 have k2:Kp UN o h o (h1.push (Jk M)):=k1.push _;have N2:=N.Zo k2;have W2:=W.Zo k2;have tC:=iv.keep k2;have AG:=tb.keep k2;have x2:Z9 o (h1.push (Jk M)) h.size (J (XN l (H pw (U l.vs) cw)).toArray 99):=x5.keep (Yv k1.Yt _);have d2:WY o (h1.push (Jk M)):=k2.Yt;have q0:hc (h1.push (Jk M)) ⟨h.size,0,aa⟩=O (Q D l.ZH):=Zn x2.2;have q14:rd (h1.push (Jk M)) ⟨h.size,0,aa⟩ 14=O (XN l (H pw (U l.vs) cw)):=ZA x2.2 rfl;have eM:ins (ins (ins (ins (ins (ins (ins [((0:Int),Value.func (.func 67) #[] #[])] 1 (.func (.func 68) #[] #[])) 2 (.func (.func 69) #[] #[])) 3 (.func (.func 68) #[] #[])) 4 (.func (.func 70) #[] #[])) 5 (.func (.func 71) #[] #[])) 6 (.func (.func 72) #[] #[])) 7 (.func (.func 73) #[] #[])=M:=by rw[hM];rfl
 have u0:=fun (K:an->Hp->Prop) (n:Int) (x:an)=>iZ (K:=K) (X:=h1) yD (b:=h1.size) rfl (n:=n) (x:=x);have u1:=fun (K:an->Hp->Prop) (l:List (Int × an)) (n:Int) (x:an)=>Dy (K:=K) (X:=h1) yD (b:=h1.size) rfl (l:=l) (n:=n) (x:=x);have lk:=fun (K:an->Hp->Prop) (x:an) (hx:Yl M l.ZH=O x)=>i9 (K:=K) (X:=h1) yD Zlz (b:=h1.size) rfl hx;unfold Zz XN;unfold XN at e0 q14;have G6:l.ZH=0\/l.ZH=1\/l.ZH=2\/l.ZH=3\/l.ZH=4\/l.ZH=5\/l.ZH=6\/l.ZH=7:=mD;rcases G6 with Ll|Ll|Ll|Ll|Ll|Ll|Ll|Ll
 .have hf:Zx n l=Y3 n l:=by unfold Zx;simp[Ll]
  rw[hf];have ja:=fun (K:an->Hp->Prop)=>lk K (.func (.func 67) #[] #[]) (by rw[Ll,hM];rfl);have cc:=bB T _ o wb i nb YK a n Xu fl YA ZG l _ d2 N2 W2 tC Xa yi td AG;unfold XN Zz at cc;simp only[go_sem,e0,u0,u1,eM,q0,q14,ja];refine cc.use ?_;rintro v' h' ⟨o',a',Js,k,N',W'⟩;simp only[go_sem];exact⟨o',a',Js,(ZY k2).trans (k.mono fun t q=>by rcases q with rfl|rfl|rfl<;>simp[JH,Tg.of]),N',by rw[bH,ak];exact W'⟩
 .have hf:Zx n l=Yx n l:=by unfold Zx;simp[Ll]
  rw[hf];have ja:=fun (K:an->Hp->Prop)=>lk K (.func (.func 68) #[] #[]) (by rw[Ll,hM];rfl);have cc:=Iv T _ o wb i nb YK a n Xu fl YA ZG l _ d2 N2 W2 tC hk hl ht hq hw hv;unfold XN Zz at cc;simp only[go_sem,e0,u0,u1,eM,q0,q14,ja];refine cc.use ?_;rintro v' h' ⟨o',a',Js,k,N',W'⟩;simp only[go_sem];exact⟨o',a',Js,(ZY k2).trans (k.mono fun t q=>bE q),N',by rw[Iw,ak];exact W'⟩
 .have hf:Zx n l=asked n l:=by unfold Zx;simp[Ll]
  rw[hf];have ja:=fun (K:an->Hp->Prop)=>lk K (.func (.func 69) #[] #[]) (by rw[Ll,hM];rfl);have cc:=yQ T _ o wb i nb YK a n Xu fl YA ZG l _ d2 N2 W2 tC Xa yi td AG;unfold XN Zz at cc;simp only[go_sem,e0,u0,u1,eM,q0,q14,ja];refine cc.use ?_;rintro v' h' ⟨o',a',Js,k,N',W'⟩;simp only[go_sem];exact⟨o',a',Js,(ZY k2).trans (k.mono fun t q=>by rcases q with rfl|rfl|rfl<;>simp[JH,Tg.of]),N',by rw[yV,ak];exact W'⟩
 .have hf:Zx n l=Yx n l:=by unfold Zx;simp[Ll]
  rw[hf];have ja:=fun (K:an->Hp->Prop)=>lk K (.func (.func 68) #[] #[]) (by rw[Ll,hM];rfl);have cc:=Iv T _ o wb i nb YK a n Xu fl YA ZG l _ d2 N2 W2 tC hk hl ht hq hw hv;unfold XN Zz at cc;simp only[go_sem,e0,u0,u1,eM,q0,q14,ja];refine cc.use ?_;rintro v' h' ⟨o',a',Js,k,N',W'⟩;simp only[go_sem];exact⟨o',a',Js,(ZY k2).trans (k.mono fun t q=>bE q),N',by rw[Iw,ak];exact W'⟩
 .have hf:Zx n l=⟨add n l.v.cm,[],[]⟩:=by unfold Zx;simp[Ll]
  rw[hf];have ja:=fun (K:an->Hp->Prop)=>lk K (.func (.func 70) #[] #[]) (by rw[Ll,hM];rfl);have cc:=yS T _ o wb i nb a n l _ d2 N2 tC hq mD;unfold XN Zz at cc;simp only[go_sem,e0,u0,u1,eM,q0,q14,ja];refine cc.use ?_;rintro v' h' ⟨o',a',k,N'⟩;simp only[go_sem];exact⟨o',a',Xu,(ZY k2).trans (k.mono fun t q=>by rcases q with rfl|rfl<;>simp[JH,Tg.of]),N',by rw[ak,ak];exact W2.keep k (by rintro t (rfl|rfl)<;>simp[Tg.of])⟩
 .have hf:Zx n l=JY n l:=by unfold Zx;simp[Ll]
  rw[hf];have ja:=fun (K:an->Hp->Prop)=>lk K (.func (.func 71) #[] #[]) (by rw[Ll,hM];rfl);have cc:=yU T _ o wb i nb YK a n Xu fl YA ZG l _ d2 N2 W2 tC Xa;unfold XN Zz at cc;simp only[go_sem,e0,u0,u1,eM,q0,q14,ja];refine cc.use ?_;rintro v' h' ⟨o',a',Js,k,N',W'⟩;simp only[go_sem];exact⟨o',a',Js,(ZY k2).trans (k.mono fun t q=>by rcases q with rfl|rfl|rfl<;>simp[JH,Tg.of]),N',by rw[yW,ak];exact W'⟩
 .have hf:Zx n l=X9 n l.v.Zs l.v.cm:=by unfold Zx;simp[Ll]
  rw[hf];have ja:=fun (K:an->Hp->Prop)=>lk K (.func (.func 72) #[] #[]) (by rw[Ll,hM];rfl);have cc:=qi T _ o wb i nb YK a n Xu fl YA ZG l _ d2 N2 W2 tC hk hl ht hq hw;unfold XN Zz at cc;simp only[go_sem,e0,u0,u1,eM,q0,q14,ja];refine cc.use ?_;rintro v' h' ⟨o',a',Js,k,N',W'⟩;simp only[go_sem];exact⟨o',a',Js,(ZY k2).trans (k.mono fun t q=>GZ q),N',by rw[yX,ak];exact W'⟩
 .have hf:Zx n l=⟨Xo n l,[],[]⟩:=by unfold Zx;simp[Ll]
  rw[hf];have ja:=fun (K:an->Hp->Prop)=>lk K (.func (.func 73) #[] #[]) (by rw[Ll,hM];rfl);have cc:=bF T _ o wb i nb a n l _ d2 N2 tC;unfold XN Zz at cc;simp only[go_sem,e0,u0,u1,eM,q0,q14,ja];refine cc.use ?_;rintro v' h' ⟨k,N'⟩;simp only[go_sem];exact⟨o,a,Xu,(ZY k2).trans (k.mono fun t q=>by rw[q];simp[JH,Tg.of]),N',by rw[ak,ak];exact W2.keep k (by rintro t rfl;simp[Tg.of])⟩
@[go_sem] theorem ZuI(x:Cm):List.take 5 x.C=x.C:=rfl
def Vp(n:Nd)(r:XM)(x:Cm):Int:=match free n r x with|some s=>(s:Int)|none=>0
theorem XA.rr{o:Ow}{i:Nat}{h:Hp}{ra:RA}{r:XM}(s:XA o i h ra r):rd h ⟨ra.rb,0,aa⟩ 2=O (Qu r.b)/\hc h ⟨ra.rb,2,aa⟩=O (.map (O ra.pb))/\hc h ⟨ra.rb,3,aa⟩=O (a5 r.Xf)/\hc h ⟨ra.rb,4,aa⟩=O (.map (O ra.qb))/\hc h ⟨ra.rb,5,aa⟩=O (.map (O ra.vb)):=
 ⟨by rw[YI s.ZZ.2 (by simp[iS])];rfl,Zn s.ZZ.2,Zn s.ZZ.2,Zn s.ZZ.2,Zn s.ZZ.2⟩
set_option maxHeartbeats 1000000 in
theorem Zc8(T:a8)(h:Hp)(o:Ow)(wb i nb:Nat)(a:NA)(n:Nd)(ra:RA)(r:XM)(x:Cm)(d:WY o h)(N:Z6 o h wb i nb a n)(R:XA o i h ra r)(hl:n.ZI.length<=1000000000000):
  Zg aI T 101 #[Zz nb,Zz ra.rb,Sc x] h fun v' h'=>v'=.tuple #[Q D (Vp n r x),a5 (free n r x).isSome]/\Zk h.size h h':=by
 have Vg:=Za N.ZZ.2;have iU:=Za R.ZZ.2;refine Zg.LY [_,_,_] Tryz.func101 ?_;unfold Zz Sc;obtain⟨h1,Xp⟩:=ZP (h.push (J x.C.toArray 49):Hp);have k1:Kp UN o h o h1:=by rw[Xp];exact Yv d _
 have b1:Zk h.size h h1:=by rw[Xp];exact Zk.push (am _) _
 have x1:Z9 o h1 h.size (J x.C.toArray 49):=⟨d _ (am _),by rw[Xp];exact Zd⟩
 have e0:=Xp.symm;have N1:=N.Zo k1;have R1:=R.keep k1 (fun _ _ q=>q);have P1:=ZS N1.ZZ.2 N1.pt.store.len;have P0:=ZS N.ZZ.2 N.pt.store.len;obtain⟨lp,lc,Lt,hlc⟩:=Xm.ZN N1.pt.ZI;have P11:=P1.ZI;rw[Lt]at P11;have QV:=Za N1.ZZ.2;have e3:((n.ZI.length:Nat):Int)=(n.ZI.length:Int):=rfl;simp -implicitDefEqProofs only[go_sem,e0,P11];refine VS.Yq (fun F g=>Zk h1.size h1 g/\F 0=Z (O ⟨nb,0,aa⟩)/\F 1=Z (O ⟨ra.rb,0,aa⟩)/\F 5=Z (O ⟨h.size,0,aa⟩)/\∃s:Nat,F 8=Q D s/\n.ZI.length<=s/\JZ n r x (40-n.ZI.length) n.ZI.length=JZ n r x (40-s) s)
  (fun F _=>40-(vi (F 8)).toNat) rfl ⟨Zk.refl _ _,rfl,rfl,rfl,n.ZI.length,rfl,am _,rfl⟩ ?_
 rintro F g ⟨hg,f0,f1,f5,s,f8,hs,he⟩;have kg:=ZU k1.Yt hg;have N2:=N1.Zo kg;have R2:=R1.keep kg (fun _ _ q=>q);have y1:=x1.keep kg;have P2:=ZS N2.ZZ.2 N2.pt.store.len;obtain⟨_,_,_,q4,_⟩:=R2.rr;have gs:=hg.size;have Q3:=Za N2.ZZ.2;have bD:=Za R2.ZZ.2;have bb:Zk h.size h g:=b1.trans (hg.mono b1.size);have eF:free n r x=JZ n r x (40-s) s:=he;by_cases ZV:s<40
 .have Z4:(s:Int)<40:=mD;obtain⟨f,hf⟩:∃f,40-s=f+1:=⟨39-s,mD⟩
  have ef:f=40-(s+1):=mD;rw[hf]at eF he;have Dz:=fun (K:an->Hp->Prop)=>Xe (K:=K) (n:=(s:Int)) (c:=true) S8 Lo R2.Yj.2;rw[Jj]at Dz;have Sx:=fun (K:an->Hp->Prop) (z:Obj)=>Xe (h:=g.push z) (K:=K) (n:=(s:Int)) (c:=true) S8 Lo ((ZF (Za N2.pt.Zi.2)).trans N2.pt.Zi.2);simp only[Jj]at Sx;have fz:∀c:Cm,rd g ⟨h.size,0,aa⟩ 5=O x.C:=fun _=>ZA y1.2 rfl;have fx:rd g ⟨h.size,0,aa⟩ 5=O x.C:=ZA y1.2 rfl;have hx5:=Za y1.2;have n1:¬h.size=g.size:=mD;have n2:¬h.size=g.size+1:=mD;have n3:¬nb=g.size:=mD;unfold JZ at eF
  cases c1:Yl r.Yj (s:Int) with
  | none=>
   simp only[c1,a4,a0,aw,↓reduceIte]at Dz
   cases c2:Yl n.Zi (s:Int) with
   | none=>
    simp only[c2,a4,a0,aw,↓reduceIte]at Sx;have e4:free n r x=O s:=by rw[eF,if_neg (by rw[c1,c2];simp),if_pos ⟨c1,c2⟩]
    have e5:Vp n r x=s:=by unfold Vp;rw[e4]
    rw[e5,e4];simp -implicitDefEqProofs only[go_sem,f0,f1,f5,f8,Z4,q4,Dz,Sx,P2.Zi,n1,n2,n3,fx,Sc,aX];exact (bb.Y1 mD _).Y1 vI _
   | some z=>
    simp only[c2,aK,aF,aX,↓reduceIte]at Sx;by_cases qz:z=x
    .have e4:free n r x=aa:=by rw[eF,if_pos (.inr (by rw[c2,qz]))]
     have e5:Vp n r x=0:=by unfold Vp;rw[e4]
     rw[e5,e4];simp -implicitDefEqProofs only[go_sem,f0,f1,f5,f8,Z4,q4,Dz,Sx,P2.Zi,n1,n2,n3,fx,Sc,qz,aw];exact (bb.Y1 mD _).Y1 vI _
    .have qz':¬O z=O x:=fun e=>qz (Option.some.inj e);simp -implicitDefEqProofs only[go_sem,f0,f1,f5,f8,Z4,q4,Dz,Sx,P2.Zi,n1,n2,n3,fx,Sc,qz];unfold XI;refine⟨⟨(hg.Y1 mD _).Y1 vI _,f0,f1,f5,s+1,rfl,mD,?_⟩,?_⟩
     .rw[he,<-ef,JZ,if_neg (by rw[c1,c2];simp[qz]),if_neg (by rw[c2];simp)]
     .simp only[vi,Zt,↓reduceIte,f8];omega
  | some y=>
   simp only[c1,aK,aF,aX,↓reduceIte]at Dz;by_cases qy:y=x
   .have e4:free n r x=aa:=by rw[eF,if_pos (.inl (by rw[c1,qy]))]
    have e5:Vp n r x=0:=by unfold Vp;rw[e4]
    rw[e5,e4]
    cases c2:Yl n.Zi (s:Int) with
    | none=>
     simp only[c2,a4,a0,aw,↓reduceIte]at Sx;simp -implicitDefEqProofs only[go_sem,f0,f1,f5,f8,Z4,q4,Dz,Sx,P2.Zi,n1,n2,n3,fx,Sc,qy,aw];exact (bb.Y1 mD _).Y1 vI _
    | some z=>
     simp only[c2,aK,aF,aX,↓reduceIte]at Sx;simp -implicitDefEqProofs only[go_sem,f0,f1,f5,f8,Z4,q4,Dz,Sx,P2.Zi,n1,n2,n3,fx,Sc,qy,aw];exact (bb.Y1 mD _).Y1 vI _
   .cases c2:Yl n.Zi (s:Int) with
    | none=>
     simp only[c2,a4,a0,aw,↓reduceIte]at Sx;simp -implicitDefEqProofs only[go_sem,f0,f1,f5,f8,Z4,q4,Dz,Sx,P2.Zi,n1,n2,n3,fx,Sc,qy];unfold XI;refine⟨⟨(hg.Y1 mD _).Y1 vI _,f0,f1,f5,s+1,rfl,mD,?_⟩,?_⟩
     .rw[he,<-ef,JZ,if_neg (by rw[c1,c2];simp[qy]),if_neg (by rw[c1];simp)]
     .simp only[vi,Zt,↓reduceIte,f8];omega
    | some z=>
     simp only[c2,aK,aF,aX,↓reduceIte]at Sx;by_cases qz:z=x
     .have e4:free n r x=aa:=by rw[eF,if_pos (.inr (by rw[c2,qz]))]
      have e5:Vp n r x=0:=by unfold Vp;rw[e4]
      rw[e5,e4];simp -implicitDefEqProofs only[go_sem,f0,f1,f5,f8,Z4,q4,Dz,Sx,P2.Zi,n1,n2,n3,fx,Sc,qy,qz,aw];exact (bb.Y1 mD _).Y1 vI _
     ·
      simp -implicitDefEqProofs only[go_sem,f0,f1,f5,f8,Z4,q4,Dz,Sx,P2.Zi,n1,n2,n3,fx,Sc,qy,qz];unfold XI;refine⟨⟨(hg.Y1 mD _).Y1 vI _,f0,f1,f5,s+1,rfl,mD,?_⟩,?_⟩
      .rw[he,<-ef,JZ,if_neg (by rw[c1,c2];simp[qy,qz]),if_neg (by rw[c1];simp)]
      .simp only[vi,Zt,↓reduceIte,f8];omega
 .have Xw:¬(s:Int)<40:=mD;have e4:free n r x=aa:=by rw[eF,show 40-s=0 by omega];rfl
  have e5:Vp n r x=0:=by unfold Vp;rw[e4]
  rw[e5,e4];simp -implicitDefEqProofs only[go_sem,f8,Xw,bb,aw]
def Zg1(B:Nat)(o:Ow)(h0 h:Hp)(u:an)(LL:List (List Vt)):Prop:=
 ∃ws:List an,UK B 64 1 h u (U LL) ws/\AE (fun w l=>Tw o h0 w l/\(U l)<=1000000) ws LL
def jc(o:Ow)(h:Hp)(u:an)(LL:List (List Vt)):Prop:=∃p c,u=H p (U LL) c/\(LL≠[]->∃b off,p=O ⟨b,off,aa⟩/\b<h.size/\o b=aa/\∀i (hi:i<(U LL)),∃w,hc h ⟨b,off+i,aa⟩=O w/\Tw o h w LL[i]/\LL[i].length<=1000000)
theorem jc.vss{o:Ow}{h:Hp}{u:an}{LL:List (List Vt)}(s:jc o h u LL):Vss h u LL:=by
 obtain⟨p,c,hv,hh⟩:=s;refine⟨p,c,hv,fun Xb=>?_⟩;obtain⟨b,off,h1,h2,h3,h4⟩:=hh Xb;refine⟨b,off,h1,h2,fun i hi=>?_⟩;obtain⟨w,g1,g2,g3⟩:=h4 i hi;exact⟨w,g1,g2.ts,mD⟩
theorem jc.keep{S:Tg->Prop}{o o':Ow}{h h':Hp}{u:an}{LL:List (List Vt)}(s:jc o h u LL)(k:Kp S o h o' h'):jc o' h' u LL:=by
 obtain⟨p,c,hv,hh⟩:=s;refine⟨p,c,hv,fun Xb=>?_⟩;obtain⟨b,off,h1,h2,h3,h4⟩:=hh Xb;obtain⟨q1,q2⟩:=k.keep b h2 fun t ht=>by rw[h3]at ht;cases ht
 refine⟨b,off,h1,Nat.lt_of_lt_of_le h2 k.size,q2.trans h3,fun i hi=>?_⟩;obtain⟨w,g1,g2,g3⟩:=h4 i hi;refine⟨w,?_,g2.keep k,g3⟩;unfold hc at g1 ⊢;rw[q1];exact g1
theorem Zg1.ZuJ{o:Ow}{h0 h:Hp}{u:an}{LL:List (List Vt)}(s:Zg1 h0.size o h0 h u LL)(d:WY o h0)(hb:Zk h0.size h0 h):jc o h u LL:=by
 obtain⟨ws,Zr,al⟩:=s;have Zc9:(U ws)=(U LL):=by
  clear Zr
  induction al with
  | nil=>rfl
  | cons _ _ ih=>simp[ih]
 have ZuK:∀i (hi:i<(U LL)),∃w,ws[i]? = O w/\Tw o h0 w LL[i]/\LL[i].length<=1000000:=by
  clear Zr Zc9
  induction al with
  | nil=>intro i hi;simp at hi
  | cons Cc _ ih=>
   intro i hi
   cases i with
   | zero=>exact⟨_,rfl,Cc⟩
   | succ i=>exact ih i (by simpa using hi)
 obtain⟨p,c,hv,hl,XH⟩:=Zr.sl;refine⟨p,c,hv,fun Xb=>?_⟩;have HE:0<(U LL):=List.length_pos_iff.2 Xb;obtain⟨b,off,rfl,EO⟩:=XH (by intro e;rw[e]at Zc9;simp at Zc9;omega);have hbB:h0.size<=b:=by
  refine Zr.ZZ b ?_;rcases Zr with⟨⟨q,h1⟩,h2,h3⟩|⟨b',cap,sp,_,h1,_,_,_,hm⟩
  .subst h3;simp at Zc9;omega
  .rw[hv]at h1;simp only[Value.slice.injEq,Option.some.injEq,Addr.mk.injEq]at h1;obtain⟨⟨rfl,_,_⟩,h12,h13⟩:=h1;rw[hv];have:c≠0:=mD;simp[Ya,this]
 refine⟨b,off,rfl,WF (EO 0 mD),d b hbB,fun i hi=>?_⟩;obtain⟨w,h1,h2,h3⟩:=ZuK i hi;have ki:i<(U ws):=mD;rw[List.getElem?_eq_getElem ki]at h1;exact⟨w,by rw[EO i ki,Option.some.inj h1],h2.keep (ZU d hb),h3⟩
theorem bI{α β:Type}{R:α->β->Prop}{l:List α}{k:List β}(s:AE R l k){a:α}{b:β}(h:R a b):AE R (l++[a]) (k++[b]):=by
 induction s with
 | nil=>exact .cons h .nil
 | cons x _ ih=>exact .cons x ih
theorem qk(l:List Vt)(v:Vt):TF (l++[v])=if TF l<v.Zs then v.Zs else TF l:=by
 unfold TF;rw[bg];rfl
theorem XA.lG{o:Ow}{i:Nat}{h:Hp}{ra:RA}{r:XM}(s:XA o i h ra r)(d:WY o h){k:Int}{x:Cm}:
  Kp (fun t=>t=.Yj i) o h o (h.setIfInBounds ra.qb (Jk (ins (Vh Sc r.Yj) k (au x.C.toArray))))/\XA o i (h.setIfInBounds ra.qb (Jk (ins (Vh Sc r.Yj) k (au x.C.toArray)))) ra { r with Yj:=ins r.Yj k x }:=by
 have kk:Kp (fun t=>t=.Yj i) o h o (h.setIfInBounds ra.qb (Jk (ins (Vh Sc r.Yj) k (au x.C.toArray)))):=(Kp.refl d (fun t=>t=.Yj i)).set s.Yj.1 rfl _;exact⟨kk,s.ZZ.keep kk tP,s.ZL.keep kk tP,s.Og.keep kk,⟨s.Yj.1,by rw[ZQ s.Yj.2,PG];rfl⟩,s.YY.keep kk tP,s.Su.keep kk (fun _ e=>by cases e),s.keys⟩
theorem RO(r:XM):(Ys r).length=5:=rfl
theorem DA(r:XM)(m:Nat)(hm:m<(Ys r).length):(Ys r)[m]=(Yl r.ZL (m:Int)).getD []:=by
 simp only[Ys,List.getElem_map,List.getElem_range]
theorem XA.list{o:Ow}{i:Nat}{h:Hp}{ra:RA}{r:XM}(s:XA o i h ra r)(hp:∀x∈r.ZL,x.2.length<=1000000)(m:Int):∃p c vs,(Yl ra.pv m).getD (H aa 0 0)=H p (U vs) c/\(Yl r.ZL m).getD []=vs/\Tw o h (H p (U vs) c) vs/\(U vs)<=1000000:=by
 rcases s.Og.Yl m with⟨h1,h2⟩|⟨w,vs,h1,h2,iv⟩
 .exact⟨aa,0,[],by rw[h1];rfl,by rw[h2];rfl,Im.nil _ _ _ _,sW⟩
 .obtain⟨p,c,rfl⟩:=iv.ZN;exact⟨p,c,vs,by rw[h1];rfl,by rw[h2];rfl,iv,hp _ (TW h2)⟩
set_option maxHeartbeats 1000000 in
theorem yZ(T:a8)(h:Hp)(o:Ow)(wb i nb:Nat)(a:NA)(n:Nd)(ra:RA)(r:XM)(d:WY o h)(N:Z6 o h wb i nb { a with Zh:=O ra } { n with Zh:=O r })(hp:∀x∈r.ZL,x.2.length<=1000000)(hs:∀x∈r.ZL,∀v∈x.2,v.Zs<=1000000)(hl:n.ZI.length<=1000000000000):
  Zg aI T 100 #[Zz nb,Zz ra.rb] h fun v' h'=>∃ra',ra'.rb=ra.rb/\Kp (JL i) o h o h'/\Z6 o h' wb i nb { a with Zh:=O ra' } { n with Zh:=O (Wp n r) }:=by
 have Vg:=Za N.ZZ.2;have R:XA o i h ra r:=N.pt.Zh;have iU:=Za R.ZZ.2;refine Zg.XK [_,_] Tryz.func100 ?_;unfold Zz;simp only[go_sem];refine VS.Yq (fun F g=>Zk h.size h g/\F 0=Z (O ⟨nb,0,aa⟩)/\F 1=Z (O ⟨ra.rb,0,aa⟩)/\∃m:Nat,m<=5/\F 12=Q D m/\Zg1 h.size o h g (F 4) ((Ys r).take m)/\F 5=Q D (TF ((Ys r).take m).flatten))
  (fun F _=>5-(vi (F 12)).toNat) rfl ⟨Zk.refl _ _,rfl,rfl,0,mD,rfl,⟨[],UK.nil _ _ _ _,.nil⟩,rfl⟩ ?_
 rintro F g ⟨hg,f0,f1,m,hm,f12,hG,f5⟩;have kg:=ZU d hg;have N1:=N.Zo kg;have R1:=R.keep kg (fun _ _ q=>q);obtain⟨_,q2,q3,q4,_⟩:=R1.rr;have gs:=hg.size;by_cases ZV:m<5
 .have Z4:(m:Int)<5:=mD;obtain⟨pm,cm,vs,e1,e2,iv,yi⟩:=R1.list hp (m:Int);have hm5:m<(Ys r).length:=by rw[RO];exact ZV
  have e3:(Ys r)[m]=vs:=by rw[DA,e2]
  have e4:(Ys r).take (m+1)=(Ys r).take m++[vs]:=by rw[Y0 _ m hm5,e3]
  have lk:=fun (G:Hp) (hG:Zk g.size g G) (K:an->Hp->Prop)=>Xe (h:=G) (K:=K) (n:=(m:Int)) (c:=false) Io yE (hG.get (Za R1.ZL.2) R1.ZL.2);simp only[e1,aU,if_false]at lk;have lk0:=lk g (Zk.refl _ _);obtain⟨ws,Zr,al⟩:=hG;obtain⟨p4,c4,hF4⟩:∃p c,F 4=H p ((Ys r).take m).length c:=by
   obtain⟨p,c,h1,_⟩:=Zr.sl;exact⟨p,c,h1⟩
  have ml:((Ys r).take m).length=m:=by rw[List.length_take,RO];omega
  rw[ml]at hF4 Zr;rw[hF4]at Zr;simp only[go_sem,f0,f1,f5,f12,hF4,Z4,q2,lk0];have src:Sl 1 (g.push (J [H pm (U vs) cm].toArray 64)) (H (O ⟨g.size,0,aa⟩) 1 1) 1 [H pm (U vs) cm]:=Sl.made sW 1;refine KK (E:=64) (n:=1) (B:=h.size) (bytes:=24) (m:=m) (k:=1) (cs:=ws) ZfX Tryz.underlying211 ZqY Zq0 rfl ZqZ (Zr.push _) vI src rfl mD mD ?_;intro u3 g3 ZlU ZuN _;have jd:Zk h.size h g3:=(hg.Y1 mD _).trans (ZuN.YJ vI (Zr.push (J [H pm (U vs) cm].toArray 64)).ZZ);have kg3:=ZU d jd;have R3:=R.keep kg3 (fun _ _ q=>q);obtain⟨_,q23,_,_,_⟩:=R3.rr;have lk3:=fun (K:an->Hp->Prop)=>Xe (K:=K) (n:=(m:Int)) (c:=false) Io yE R3.ZL.2;simp only[e1,aU,if_false]at lk3;obtain⟨p5,c5,rfl⟩:∃p c,u3=H p (m+1) c:=by obtain⟨p,c,h1,_⟩:=ZlU.sl;exact⟨p,c,h1⟩
  have iv0:Tw o h (H pm (U vs) cm) vs:=by
   obtain⟨pm',cm',vs',x1,x2,iv',_⟩:=R.list hp (m:Int);rw[e1]at x1;rw[e2]at x2;subst x2;rw[<-x1]at iv';exact iv'
  have al3:AE (fun w l=>Tw o h w l/\(U l)<=1000000) (ws++[H pm (U vs) cm]) ((Ys r).take m++[vs]):=by
   exact bI al ⟨iv0,yi⟩
  simp only[go_sem,f0,f1,f5,f12,Z4,q23,lk3];obtain⟨LL,hLL⟩:=ZP (((Ys r).take m).flatten);have pG:((Ys r).take (m+1)).flatten=LL++vs:=by rw[e4,List.flatten_append,<-hLL];simp
  rw[<-hLL]at f5;have ivo:=fun g' (hb:Zk h.size h g')=>GU (iv0.keep (ZU d hb)).ts;refine VS.Yq (fun F' g'=>Zk h.size h g'/\F' 0=Z (O ⟨nb,0,aa⟩)/\F' 1=Z (O ⟨ra.rb,0,aa⟩)/\F' 12=Q D m/\F' 29=H pm (U vs) cm/\F' 30=Q D (U vs)/\F' 4=H p5 (m+1) c5/\UK h.size 64 1 g' (H p5 (m+1) c5) (m+1) (ws++[H pm (U vs) cm])/\∃j:Nat,j<=(U vs)/\F' 31=Q D j/\F' 5=Q D (TF (LL++vs.take j)))
   (fun F' _=>(U vs)-(vi (F' 31)).toNat) rfl ⟨jd,f0,f1,f12,rfl,rfl,rfl,ZlU,0,mD,rfl,by rw[List.take_zero,ak];exact f5⟩ ?_
  rintro F2 g4 ⟨Lu,f0,f1,f12,f29,f30,f4,ZlV,j,hj,f31,f5⟩;by_cases eG:j<(U vs)
  .have ZuO:(j:Int)<(U vs):=mD;obtain⟨pp,cc,hv1,xN⟩:=ivo g4 Lu;obtain⟨bb,oo,hpp,Tu,Lv⟩:=xN (by intro e;rw[e]at eG;simp at eG);simp only[Value.slice.injEq]at hv1;obtain⟨rfl,_,rfl⟩:=hv1;subst hpp;have r1:=Lv j eG;unfold Zv at r1;simp only[go_sem,f0,f1,f12,f29,f30,f4,f31,f5,ZuO,r1];unfold XI;refine⟨⟨Lu.Y1 Lu.size _,f0,f1,f12,f29,f30,f4,ZlV.push _,j+1,eG,rfl,?_⟩,?_⟩
   .show Value.int D _=_;rw[Y0 vs j eG,<-List.append_assoc,qk]
   .simp only[vi,Zt,↓reduceIte,f31];omega
  .have Xw:¬(j:Int)<(U vs):=mD;obtain rfl:j=(U vs):=mD;rw[List.take_length]at f5;simp only[go_sem,f30,f31,Xw,f12];unfold XI;refine⟨⟨Lu,f0,f1,m+1,ZV,rfl,⟨_,?_,by rw[e4];exact al3⟩,by rw[pG];exact f5⟩,?_⟩
   .show UK _ _ _ _ (F2 4) _ _;rw[f4,e4,List.length_append,ml];exact ZlV
   .simp only[vi,Zt,↓reduceIte,f12];omega
 .have Xw:¬(m:Int)<5:=mD;obtain rfl:m=5:=mD;have ht5:(Ys r).take 5=Ys r:=by rw[List.take_of_length_le];exact Nat.le_of_eq (RO r)
  rw[ht5]at hG f5;have P1:=ZS N1.ZZ.2 N1.pt.store.len;have QV:=Za N1.ZZ.2;obtain⟨lp,lc,Lt,_⟩:=Xm.ZN N1.pt.ZI;have P11:=P1.ZI;rw[Lt]at P11;have qm:=hG.ZuJ d hg;obtain⟨u,hu⟩:=ZP (F 4);rw[<-hu]at qm hG;obtain⟨Z5,IT⟩:=ZP (TF (Ys r).flatten);rw[<-IT]at f5;have htl:Z5<=1000000:=by
   rw[IT];have key:∀(l:List Vt) (t:Int),t<=1000000->(∀v∈l,v.Zs<=1000000)->l.foldl (fun t v=>if t<v.Zs then v.Zs else t) t<=1000000:=by
    intro l
    induction l with
    | nil=>intro t ht _;exact ht
    | cons x l ih=>
     intro t ht hh;refine ih _ ?_ (fun v hv=>hh v (List.mem_cons_of_mem _ hv));show (if t<x.Zs then x.Zs else t)<=1000000;split
     .exact hh x List.mem_cons_self
     .exact ht
   refine key _ _ mD ?_;intro v hv;simp only[List.mem_flatten]at hv;obtain⟨l,wy,FT⟩:=hv;obtain⟨k,hk,rfl⟩:=List.getElem_of_mem wy;rw[DA]at FT
   cases hx:Yl r.ZL (k:Int) with
   | none=>rw[hx]at FT;cases FT
   | some y=>rw[hx]at FT;exact hs _ (TW hx) v FT
  clear hG;obtain⟨LL,hLL⟩:=ZP (Ys r);rw[<-hLL]at qm IT;obtain⟨C,hC⟩:=ZP ((Z5+1).toNat-n.ZI.length);have CN:Wp n r = { r with Yj:=(bc n.ZI.length C).foldl (JO n LL) r.Yj,Xf:=true }:=by
   unfold Wp;rw[hC,IT,hLL]
  rw[CN];have hu':=hu.symm;simp only[go_sem,f0,f1,f5,f12,Xw,P11];refine VS.Yq (fun F' g'=>Kp (JL i) o h o g'/\F' 0=Z (O ⟨nb,0,aa⟩)/\F' 1=Z (O ⟨ra.rb,0,aa⟩)/\F' 4=u/\F' 5=Q D Z5/\jc o g' u LL/\∃k:Nat,k<=C/\F' 9=Q D ((n.ZI.length+k:Nat):Int)/\Z6 o g' wb i nb { a with Zh:=O ra } { n with Zh:=O { r with Yj:=(bc n.ZI.length k).foldl (JO n LL) r.Yj } })
   (fun F' _=>n.ZI.length+C-(vi (F' 9)).toNat) rfl ⟨ZY kg,f0,f1,hu',f5,qm,0,mD,rfl,N1⟩ ?_
  rintro F2 g2 ⟨K2,f0,f1,f4,f5,qm,k,hk,f9,N2⟩;obtain⟨pk,hpk⟩:=ZP ((bc n.ZI.length k).foldl (JO n LL) r.Yj);rw[<-hpk]at N2;have R2:XA o i g2 ra { r with Yj:=pk }:=N2.pt.Zh;obtain⟨_,_,_,q4,_⟩:=R2.rr;have P2:=ZS N2.ZZ.2 N2.pt.store.len;have Q3:=Za N2.ZZ.2;have bD:=Za R2.ZZ.2;by_cases hkc:k<C
  .have hle:(((n.ZI.length+k:Nat):Int))<=Z5:=mD;have lk:=fun (K:an->Hp->Prop)=>Xe (K:=K) (n:=((n.ZI.length+k:Nat):Int)) (c:=true) S8 Lo N2.pt.Zi.2;rw[Jj]at lk;have XE:(bc n.ZI.length (k+1)).foldl (JO n LL) r.Yj=JO n LL pk (n.ZI.length+k):=by
    rw[List.range'_concat,bg,<-hpk];simp
   cases hx:Yl n.Zi ((n.ZI.length+k:Nat):Int) with
   | some y=>
    have e6:JO n LL pk (n.ZI.length+k)=pk:=by unfold JO;rw[if_neg (by rw[hx];simp)]
    simp only[show ({ n with Zh:=O { r with Yj:=pk } }:Nd).Zi=n.Zi from rfl,hx,aK,aF,aX,↓reduceIte]at lk;simp only[go_sem,f0,f1,f4,f5,f9,hle,P2.Zi,lk,Sc];have kx:=Yv K2.Yt (J y.C.toArray 49);unfold XI;refine⟨⟨K2.push _,f0,f1,f4,f5,qm.keep kx,k+1,hkc,?_,by rw[XE,e6];exact N2.Zo kx⟩,?_⟩
    .show Value.int D _=Value.int D _
     congr 1
    .simp only[vi,Zt,↓reduceIte,f9];omega
   | none=>
    have e6:JO n LL pk (n.ZI.length+k)=ins pk ((n.ZI.length+k:Nat):Int) (Oe LL ((n.ZI.length+k:Nat):Int)):=by unfold JO;rw[if_pos hx]
    simp only[show ({ n with Zh:=O { r with Yj:=pk } }:Nd).Zi=n.Zi from rfl,hx,a4,a0,aw,↓reduceIte]at lk;simp only[go_sem,f0,f1,f4,f5,f9,hle,P2.Zi,lk];obtain⟨g3,jd⟩:=ZP (g2.push (J dQ.C.toArray 49):Hp);have kx:Kp UN o g2 o g3:=by rw[jd];exact Yv K2.Yt _
    rw[<-jd];have N3:=N2.Zo kx;have R3:XA o i g3 ra { r with Yj:=pk }:=N3.pt.Zh;obtain⟨_,_,_,q43,_⟩:=R3.rr;have ZuP:=Za R3.ZZ.2;have hv3:=qm.keep kx;have LLl:(U LL)<=4611686018427387904:=by rw[hLL,RO];omega
    refine VS.z (g3.size) [12] (.p 0 (.p 1 (.p 2 (.q 3 (.p 4 (.p 5 (.p 6 (.s 7 (.p 8 (.p 9 (.p 10 (.p 11 (.w 12 .nil))))))))))))) mixed sV ?_;simp only[go_sem,f0,f1,f4,f5,f9,q43,ZuP];refine (Zcm T g3 u LL ((n.ZI.length+k:Nat):Int) hv3.vss LLl).use ?_;rintro _ g4 ⟨ZcA,b4⟩;unfold CL at ZcA;subst ZcA;have k4:=ZU kx.Yt b4;have N4:=N3.Zo k4;have R4:XA o i g4 ra { r with Yj:=pk }:=N4.pt.Zh;have eC:CK (if T9 ((n.ZI.length+k:Nat):Int) LL.flatten=0 then Wm ((n.ZI.length+k:Nat):Int) LL.flatten else SC)=(Oe LL ((n.ZI.length+k:Nat):Int)).C:=by
     unfold Oe;split<;>rfl
    rw[eC];simp only[go_sem,b4,f0,f1,f4,f5,f9];rw[JV S8 R4.Yj.2];obtain⟨k5,R5⟩:=R4.lG k4.Yt (k:=((n.ZI.length+k:Nat):Int)) (x:=Oe LL ((n.ZI.length+k:Nat):Int));have k5':Kp (JL i) o g4 o _:=k5.mono fun t q=>.inr (.inr (.inl q));simp only[go_sem,f9];unfold XI;refine⟨⟨(K2.trans ((ZY kx).trans (ZY k4))).trans k5',f0,f1,f4,f5,(hv3.keep k4).keep k5',k+1,hkc,?_,?_⟩,?_⟩
    .show Value.int D _=Value.int D _
     congr 1
    .rw[XE,e6];exact⟨N4.ZZ.keep k5 tP,Ym.UG N4.pt k5' rfl rfl R5⟩
    .simp only[vi,Zt,↓reduceIte,f9];omega
  .have hgt:¬(((n.ZI.length+k:Nat):Int))<=Z5:=mD;obtain rfl:k=C:=mD;obtain⟨g4,w4,h4⟩:∃g4,QF g2 ⟨ra.rb,3,aa⟩ (a5 true)=O g4/\g4=g2.setIfInBounds ra.rb (J (iS { r with Yj:=pk,Xf:=true } ra).toArray 126):=by
    refine⟨_,?_,rfl⟩;rw[Xk R2.ZZ.2,if_pos ⟨by simp[iS],rfl⟩];rfl
   simp only[go_sem,f0,f1,f4,f5,f9,hgt,bD,w4];have kk:Kp (fun t=>t=.Zh i) o g2 o g4:=by rw[h4];exact (Kp.refl K2.Yt (fun t=>t=.Zh i)).set R2.ZZ.1 rfl _
   have R4:XA o i g4 ra { r with Yj:=pk,Xf:=true }:=⟨⟨R2.ZZ.1,by rw[h4];exact ZQ R2.ZZ.2⟩,R2.ZL.keep kk tP,R2.Og.keep kk,R2.Yj.keep kk tP,R2.YY.keep kk tP,R2.Su.keep kk (fun _ e=>by cases e),R2.keys⟩
   rw[<-hpk];refine⟨ra,rfl,K2.trans (kk.mono fun t q=>.inl q),N2.ZZ.keep kk tP,Ym.UG N2.pt (kk.mono fun t q=>.inl q) rfl rfl R4⟩
end Go.Proofs.YtnhfdnlcpdbjlaaGreatDoor
