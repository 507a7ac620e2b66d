/- Part Moz. -/
import Derived.Test.YtkhkmpfenaipaaaGreatDoorMoq
import Derived.Test.YtkhkmpfenaipaaaGreatDoorOpn
open Go.Value renaming slice→J,int→O,pointer→U,agg→ao,bool→aW
open Go.IntKind renaming i64→D
open Go.Obj renaming cells→Q
open Go.Proofs.Tryz renaming prog→aH
open List renaming length→Z,append_nil→ak,toArray→aF,range→aV,append_assoc→a0,length_append→a4,range'→a6,foldl_append→a8,take_length→a9,map→ba,map_cons→bc
open Nat renaming le_refl→ae
open Option renaming isSome_none→am,getD_some→aq,isSome_some→aw,map_some→aC,getD_none→aI,map_none→aS,some→H,none→Y
open Array renaming setIfInBounds→an,size_push→aX
open Bool renaming false_eq_true→aL
open And renaming intro→a7
open Go renaming Value→aa,World→a3,TypeId→a5
namespace Go.Proofs.YtkhkmpfenaipaaaGreatDoor
set_option maxHeartbeats 4000000
open Go Go.V
set_option linter.all false
set_option maxRecDepth 100000
def Zjh(B:Nat)(g':Hp)(A:aa)(p:ZN)(l:List Vt)(x:Vt):Prop:=
 ∃a w,A=U (H ⟨a,0,Y⟩)/\B<=a/\g'[a]? = H (Q (XO (if Xw p l x=0 then x.b else ⟨0,0⟩) w).toArray 100)/\QY B 141 Zz 8 g' w (if Xw p l x=0 then Jq l x else [])
theorem Zc3(T:a3)(h:Hp)(o:Ow)(wb i nb:Nat)(Y6:Nat->Nat)(a:NA)(n:Nd)(XY:WA)(fl:List Yt)(YP:Nat->Int)(ZH:List PC)(l:Yt)(w:aa)(d:V3 o h)(N:Yg o h wb i nb a n)(W:Z0 o h wb Y6 XY fl YP ZH)(iv:Ta o h w l.vs)(Xq:(Z fl)<=1000000000000)(bn:n.Zn.l.length<=1000000)(bo:(Z n.data)<=1000000)(tb:j1 o h):
  Zg aH T 92 #[ZC wb,ZC nb,ao (Jk l w).toArray] h fun v' h'=>∃o' a' JY,Kp (fun t=>t=.world\/t=.b\/t=.ZM i) o h o' h'/\Yg o' h' wb i nb a' (asked n l).n/\Z0 o' h' wb Y6 JY (fl++(asked n l).ls) YP ZH:=by
 obtain⟨pw,cw,rfl⟩:=iv.ZR;refine Zg.X8 [_,_,_] Tryz.func92 ?_;unfold ZC Jk;simp only[go_sem];let⟨f,Jt⟩:=ZO (((h.push (Q [ZC wb].toArray 86)).push (Q [ZC nb].toArray 93)).push (Q (Jk l (J pw (Z l.vs) cw)).toArray 143):Hp);have V:Kp WL o h o f:=by rw[Jt];exact ((Kp.refl d _).push _ |>.push _).push _
 have s1:f.size=h.size+3:=by rw[Jt];simp
 have d1:∀b,h.size<=b->o b=Y:=d;have x3:Yo o f h.size (Q [ZC wb].toArray 86):=⟨d _ uh,zK⟩
 have x4:Yo o f (h.size+1) (Q [ZC nb].toArray 93):=⟨d _ uh,zK⟩
 have x5:Yo o f (h.size+2) (Q (Jk l (J pw (Z l.vs) cw)).toArray 143):=⟨d _ uh,by
  grind⟩
 have e0:((h.push (Q [ZC wb].toArray 86)).push (Q [ZC nb].toArray 93)).push (Q (Jk l (J pw (Z l.vs) cw)).toArray 143)=f:=Jt.symm;unfold ZC Jk at e0;rw[e0];clear e0 Jt;have N1:=N.Zt V;have W1:=W.Zt V;have bd:=iv.Zh V;have R1:=ZU N1.Yb.2 N1.pt.store.len;have UE:=Zb N1.Yb.2;have l3:=Zb x3.2;have l4:=Zb x4.2;have l5:=Zb x5.2;have r3:hc f ⟨h.size,0,Y⟩=H (ZC wb):=Zr x3.2;have r4:hc f ⟨h.size+1,0,Y⟩=H (ZC nb):=Zr x4.2;have a1:rd f ⟨h.size+2,5,Y⟩ 8=H (Zz l.v):=by rw[YZ x5.2 (by simp[Jk])];rfl
 have b9:hc f ⟨h.size+2,1,Y⟩=H (O D l.c):=Zr x5.2;unfold ZC at r3 r4;have Df:=R1.Zn;let⟨pv,cv,zQ⟩:=N1.pt.c.ZR;rw[zQ]at Df;unfold Zz at a1;have call:∀G,Zm f.size f G->Zg aH T 102 #[ao #[O D n.Zn.p.r,O D n.Zn.p.n,J pv n.Zn.l.length cv],ao (Zz l.v).toArray] G fun v' h'=>sz G.size h' v' n.Zn.p n.Zn.l l.v/\Zm G.size G h':=fun G hG=>
  Hb T G n.Zn.p _ n.Zn.l l.v (by rw[<-zQ];exact N1.pt.c.ts.YQ hG) uh
 unfold Zz at call;let⟨E,hE⟩:=ZO (Xw n.Zn.p n.Zn.l l.v);have wA:∀(G:Hp) (k:Nat) (r m:Int) (p:Option Addr) (L c:Nat),G[k]? = H (Q [O D 0,O D 0,J Y 0 0].toArray 100)->wr G ⟨k,0,Y⟩ [O D r,O D m,J p L c]=H (an G k (Q [O D r,O D m,J p L c].toArray 100)):=fun G k r m p L c hx=>by
  rw[Yr hx 0 _];rfl
 refine VS.mono (N:=fun g g'=>Zm f.size f g'/\g 3=U (H ⟨h.size,0,Y⟩)/\g 4=U (H ⟨h.size+1,0,Y⟩)/\g 5=U (H ⟨h.size+2,0,Y⟩)/\g 7=O D E/\Zjh f.size g' (g 6) n.Zn.p n.Zn.l l.v) ?_ ?_ (fun _ _ _ h=>h) (fun _ _ h=>h)
 .refine VS.z (f.size) [6,11] (.q 0 (.p 1 (.p 2 (.q 3 (.p 4 (.q 5 (.or 6 (.p 7 (.p 8 (.p 9 (.s 10 (.w 11 (.p 12 .nil)))))) (.s 10 (.w 6 (.p 7 (.p 8 (.p 9 (.w 11 (.p 12 .nil)))))))))))))) mixed zI ?_;simp only[go_sem,r4,Df,a1,UE,l4,l5];unfold Zjh XO
  repeat' (first|with_reducible exact Zm.refl _ _|with_reducible exact Zm.push uh _|with_reducible refine a7 ?_ ?_)
  all_goals first
   | (refine (call f (Zm.refl _ _)).use ?_
      rintro _ g5 ⟨⟨w1,rfl,j⟩,v⟩;obtain⟨p1,c1,rfl,_⟩:=j.open;rw[<-hE]at *;have s5:=v.size;unfold XO;simp only[go_sem,v];exact⟨_,_,rfl,s5,Zf,j.push _⟩)
   | (refine (call (f.push (Q _ 100)) (Zm.push (ae _) _)).use ?_
      rintro _ g5 ⟨⟨w1,rfl,j⟩,v⟩;obtain⟨p1,c1,rfl,_⟩:=j.open;rw[<-hE]at *;have B5:Zm f.size f g5:=(Zm.push (ae _) _).trans (v.mono zX);have xA:=v.get (k:=f.size) zX Zf;have OL:=wA _ _ (if E=0 then l.v.b else ⟨0,0⟩).r (if E=0 then l.v.b else ⟨0,0⟩).n p1 (if E=0 then Jq n.Zn.l l.v else []).length c1 xA;have zA:=Zb xA;unfold XO;simp only[go_sem,B5,OL,zA];exact⟨_,_,rfl,ae _,Yp xA,(j.Ym zX _).mono zX⟩)
 .rintro F1 g1 ⟨b1,M,A,I,f8,S,w1,fA,bh,yA,j⟩;rw[<-hE]at yA j;have kb:=Z9 V.YG b1;have N2:=N1.Zt kb;have W2:=W1.Zt kb;have K2:Kp WL o h o g1:=V.YQ b1;have y3:=x3.Zh kb;have y4:=x4.Zh kb;have y5:=x5.Zh kb;have bl:=bd.Zh kb;have md:=(tb.Zh V).Zh kb;have R2:=ZU N2.Yb.2 N2.pt.store.len;have m3:=Zb y3.2;have R:=Zb y4.2;have P:=Zb y5.2;have UP:=Zb N2.Yb.2;have q3:hc g1 ⟨h.size,0,Y⟩=H (ZC wb):=Zr y3.2;have u:hc g1 ⟨h.size+1,0,Y⟩=H (ZC nb):=Zr y4.2;have b2:hc g1 ⟨h.size+2,1,Y⟩=H (O D l.c):=Zr y5.2;unfold ZC at q3 u;have b7:=R2.iu;by_cases e:E=0
  case neg=>
   have eP:asked n l=⟨n,[⟨7,n.me,l.c,n.Zn.p,Ps,[]⟩],[]⟩:=by unfold asked;rw[<-hE,if_pos e]
   rw[eP];simp only[go_sem,f8,e];refine VS.z (g1.size) [10] (.q 0 (.q 1 (.p 2 (.q 3 (.q 4 (.p 5 (.p 6 (.p 7 (.q 8 (.p 9 (.w 10 .nil))))))))))) mixed zI ?_;simp only[go_sem,M,A,I,q3,u,b2,b7,m3,R,P,UP];refine (TB T g1 o wb nb Y6 n.me XY fl YP ZH l.c ⟨7,0,0,n.Zn.p,Ps,[]⟩ (J Y 0 0) K2.YG W2 R2.me UP (Im.nil _ _ _ _) Xq).use ?_;rintro v' h' ⟨o',JY,k,_,W'⟩;simp only[go_sem];exact⟨o',a,JY,(Ya K2).trans (k.mono fun t q=>q.elim .inl fun q=>.inr (.inl q)),N2.Zh k aab,W'⟩
  rw[if_pos e]at yA j;have bb:Ta o g1 w1 (Jq n.Zn.l l.v):=Im.Vp j.Zn (fun b hb=>V.YG b hb);simp only[go_sem,f8,e,M,A,I];let⟨z,VJ⟩:=ZO (g1.push (Q [SD 112 [h.size,h.size+1,h.size+2]].toArray 1):Hp);have y:=YK K2.YG (Q [SD 112 [h.size,h.size+1,h.size+2]].toArray 1);rw[<-VJ]at y;have K3:Kp WL o h o z:=K2.trans y;have x9:Yo o z g1.size (Q [SD 112 [h.size,h.size+1,h.size+2]].toArray 1):=⟨K2.YG _ (ae _),zK⟩
  have B:g1.push (Q [SD 112 [h.size,h.size+1,h.size+2]].toArray 1)=z:=VJ.symm;unfold SD at B;simp only[ba]at B;unfold ZC at B;rw[B];clear B VJ;have x:=N2.Zt y;have W3:=W2.Zt y;have z3:=y3.Zh y;have z4:=y4.Zh y;have z5:=y5.Zh y;have z6:=(show Yo o g1 S _ from⟨V.YG S bh,yA⟩).Zh y;have a2:=bb.Zh y;have tb3:=md.Zh y;clear R2 b7 m3 R P UP q3 u b2 R1 Df UE l3 l4 l5 r3 r4 a1 b9;have R3:=ZU x.Yb.2 x.pt.store.len;have m3:=Zb z3.2;have R:=Zb z4.2;have P:=Zb z5.2;have m9:=Zb x9.2;have Lx:=Zb x.Yb.2;have u:hc z ⟨h.size+1,0,Y⟩=H (ZC nb):=Zr z4.2;have sX:rd z ⟨h.size+2,5,Y⟩ 8=H (Zz l.v):=by rw[YZ z5.2 (by simp[Jk])];rfl
  have q9:hc z ⟨g1.size,0,Y⟩=H (SD 112 [h.size,h.size+1,h.size+2]):=Zr x9.2;have b6:=R3.c;have b8:=x.pt.c;unfold ZC at u;unfold Zz at sX;refine VS.mono (N:=fun g g'=>Zm z.size z g'/\g 3=U (H ⟨h.size,0,Y⟩)/\g 4=U (H ⟨h.size+1,0,Y⟩)/\g 5=U (H ⟨h.size+2,0,Y⟩)/\g 6=U (H ⟨S,0,Y⟩)/\g 8=U (H ⟨g1.size,0,Y⟩)/\g 41=aW (decide (l.v∈n.Zn.l))) ?_ ?_ (fun _ _ _ h=>h) (fun _ _ h=>h)
  .refine VS.z (z.size) [7] (.q 0 (.p 1 (.p 2 (.p 3 (.q 4 (.p 5 (.q 6 (.w 7 .nil)))))))) mixed zI ?_;simp only[go_sem,M,A,I,fA,u,sX,b6,R,P,Lx];have cv:=C7 T z a.c n.Zn.l l.v b8.ts uh;unfold Zz at cv;refine cv.use ?_;rintro _ g5 ⟨rfl,v⟩;simp only[go_sem,v,M,A,I,fA]
  rintro bq s ⟨zL,M,A,I,fA,f9,f41⟩;have C:=Z9 K3.YG zL
  replace x:=x.Zt C
  replace W3:=W3.Zt C
  replace K3:=K3.trans C
  replace z3:=z3.Zh C
  replace z4:=z4.Zh C
  replace z5:=z5.Zh C
  replace z6:=z6.Zh C
  replace a2:=a2.Zh C
  replace tb3:=tb3.Zh C
  replace x9:=x9.Zh C
  clear R3 m3 R P m9 Lx u sX q9 b6 b8;have R3:=ZU x.Yb.2 x.pt.store.len;have m3:=Zb z3.2;have R:=Zb z4.2;have P:=Zb z5.2;have m9:=Zb x9.2;have Lx:=Zb x.Yb.2;have u:hc s ⟨h.size+1,0,Y⟩=H (ZC nb):=Zr z4.2;have sX:rd s ⟨h.size+2,5,Y⟩ 8=H (Zz l.v):=by rw[YZ z5.2 (by simp[Jk])];rfl
  have q9:hc s ⟨g1.size,0,Y⟩=H (SD 112 [h.size,h.size+1,h.size+2]):=Zr x9.2;unfold ZC at u;by_cases ep:l.v∈n.Zn.l
  .have eP:asked n l=⟨n,[⟨3,n.me,l.c,Y2,l.v,[]⟩],[]⟩:=by unfold asked;rw[<-hE,if_neg uh,if_pos ep]
   rw[eP];unfold SD at q9;simp only[ba]at q9;unfold ZC at q9;simp only[go_sem,f41,ep,f9,q9];refine (sU T s o wb nb Y6 n.me XY fl YP ZH h.size (h.size+1) (h.size+2) l _ K3.YG W3 R3.me Lx Xq z3 z4 z5).use ?_;rintro v' h' ⟨o',JY,k,W'⟩;simp only[go_sem];exact⟨o',a,JY,(Ya K3).trans (k.mono fun t q=>q.elim .inl fun q=>.inr (.inl q)),x.Zh k aab,W'⟩
  simp only[go_sem,f41,ep];have b0:=R3.tape;let⟨pd,cd,PK⟩:=x.pt.data.1.ZR;rw[PK]at b0;let⟨E2,ax⟩:=ZO (QS n.data n.XI l.v);have call2:∀G,Zm s.size s G->Zg aH T 114 #[ao #[J pd (Z n.data) cd,O D n.XI],ao (Zz l.v).toArray] G fun v' h'=>Oo G.size h' v' n.data n.XI E2 (Xm (WJ l.v))/\Zm G.size G h':=fun G hG=>by
   rw[ax];exact ZcF T G _ n.XI n.data l.v (by rw[<-PK];exact x.pt.data.bs.YQ hG) uh (tb3.tk.QL hG)
  have wT:∀(G:Hp) (k:Nat) (m:Int) (p:Option Addr) (L c:Nat),G[k]? = H (Q [J Y 0 0,O D 0].toArray 95)->wr G ⟨k,0,Y⟩ [J p L c,O D m]=H (an G k (Q [J p L c,O D m].toArray 95)):=fun G k m p L c hx=>by
   rw[Yr hx 0 _];rfl
  unfold Zz at sX call2;refine VS.mono (N:=fun g g'=>Zm s.size s g'/\g 3=U (H ⟨h.size,0,Y⟩)/\g 4=U (H ⟨h.size+1,0,Y⟩)/\g 5=U (H ⟨h.size+2,0,Y⟩)/\g 6=U (H ⟨S,0,Y⟩)/\g 8=U (H ⟨g1.size,0,Y⟩)/\g 7=O D E2/\Aq s.size g' (g 9) n.data n.XI E2 (Xm (WJ l.v))) ?_ ?_ (fun _ _ _ h=>h) (fun _ _ h=>h)
  .refine VS.z (s.size) [6,11] (.q 0 (.p 1 (.p 2 (.q 3 (.p 4 (.q 5 (.or 6 (.p 7 (.p 8 (.p 9 (.s 10 (.w 11 (.p 12 .nil)))))) (.s 10 (.w 6 (.p 7 (.p 8 (.p 9 (.w 11 (.p 12 .nil)))))))))))))) mixed zI ?_;simp only[go_sem,M,A,I,fA,f9,u,b0,sX,R,P,Lx];unfold Aq
   repeat' (first|with_reducible exact Zm.refl _ _|with_reducible exact Zm.push uh _|with_reducible refine a7 ?_ ?_)
   all_goals first
    | (refine (call2 s (Zm.refl _ _)).use ?_
       rintro _ g5 ⟨⟨w,rfl,j⟩,v⟩;obtain⟨p1,c1,rfl,_⟩:=j.bs.open;have s5:=v.size;simp only[go_sem,v];exact⟨M,A,I,fA,f9,_,_,rfl,s5,Zf,j.push _⟩)
    | (refine (call2 (s.push (Q _ 95)) (Zm.push (ae _) _)).use ?_
       rintro _ g5 ⟨⟨w,rfl,j⟩,v⟩;obtain⟨p1,c1,rfl,_⟩:=j.bs.open;have B5:Zm s.size s g5:=(Zm.push (ae _) _).trans (v.mono zX);have xA:=v.get (k:=s.size) zX Zf;have OL:=wT _ _ (if E2=0 then n.XI else 0) p1 (if E2=0 then n.data++Xm (WJ l.v) else []).length c1 xA;have zA:=Zb xA;simp only[go_sem,B5,OL,zA];exact⟨M,A,I,fA,f9,_,_,rfl,ae _,Yp xA,(j.Ym zX _).mono zX⟩)
  .rintro F2 g3 ⟨b3,M,A,I,f6,f9,f8,kt,wt,fT,bp,yT,oT⟩;have Sx:=Z9 K3.YG b3;have N4:=x.Zt Sx;have W4:=W3.Zt Sx;have K4:Kp WL o h o g3:=K3.YQ b3;by_cases B:E2=0
   case neg=>
    have eP:asked n l=⟨n,[],[]⟩:=by unfold asked;rw[<-hE,if_neg uh,if_neg ep,<-ax,if_pos B]
    rw[eP,ak];simp only[go_sem,f8,B];exact⟨o,a,XY,Ya K4,N4,W4⟩
   rw[if_pos B]at yT oT;have u3:=z3.Zh Sx;have u4:=z4.Zh Sx;have u5:=z5.Zh Sx;have u6:=z6.Zh Sx;have u9:=x9.Zh Sx;have bf:=a2.Zh Sx;have iT:Rb o g3 wt (n.data++Xm (WJ l.v)):=⟨Im.Vp oT.Zn (fun b hb=>K3.YG b hb),oT.byte⟩
   have eP:asked n l=⟨{ n with data:=n.data++Xm (WJ l.v),Zo:=H (.Us ⟨l.v.b,Jq n.Zn.l l.v⟩ l.c l.v) },[],[]⟩:=by unfold asked;rw[<-hE,if_neg uh,if_neg ep,<-ax,if_neg uh]
   rw[eP,ak];clear R3 m3 R P m9 Lx u sX q9 b0;obtain⟨pt,ct,rfl,_⟩:=oT.bs.open;have u:hc g3 ⟨h.size+1,0,Y⟩=H (ZC nb):=Zr u4.2;have qT:rd g3 ⟨kt,0,Y⟩ 2=H [J pt (n.data++Xm (WJ l.v)).length ct,O D n.XI]:=ZB yT rfl;have Fl:=Zb N4.Yb.2;let⟨g4,w4,N5,F⟩:=Yx.write (a:={ a with data:=J pt (n.data++Xm (WJ l.v)).length ct }) (n:={ n with data:=n.data++Xm (WJ l.v) }) { N4.pt with data:=iT } K4.YG N4.Yb ((X4 N4.Yb.2 N4.pt.store.len).tape (J pt (n.data++Xm (WJ l.v)).length ct) n.XI rfl);have v4:=u4.Zh F;have b4:hc g4 ⟨h.size+1,0,Y⟩=H (ZC nb):=Zr v4.2;have Ly:=Zb N5.Yb.2;have pn:VU o g4 wb i nb a.Zc (SD 115 [S,h.size+1,g1.size]) (H (.Us ⟨l.v.b,Jq n.Zn.l l.v⟩ l.c l.v)):=
    ⟨S,h.size+1,g1.size,_,rfl,⟨_,u6.Zh F,bf.Zh F⟩,v4,u9.Zh F,h.size,h.size+1,h.size+2,l,_,rfl,u3.Zh F,v4,u5.Zh F,rfl,rfl⟩
   let⟨g6,w6,N6,k6⟩:=Yx.write (a:={ a with data:=J pt (n.data++Xm (WJ l.v)).length ct,Zo:=SD 115 [S,h.size+1,g1.size] }) (n:={ n with data:=n.data++Xm (WJ l.v),Zo:=H (.Us ⟨l.v.b,Jq n.Zn.l l.v⟩ l.c l.v) }) { N5.pt with Zo:=pn } F.YG N5.Yb ((X4 N5.Yb.2 N5.pt.store.len).Zo (SD 115 [S,h.size+1,g1.size]) rfl);unfold SD at w6;simp only[ba]at w6;unfold ZC at u b4 w6;simp only[go_sem,f8,B,A,f6,f9,fT,u,qT,w4,Fl,b4,w6,Ly];have K6:Kp (fun t=>t=.world\/t=.b\/t=.ZM i) o h o g6:=((Ya K4).trans (F.mono fun t q=>.inr (.inr q))).trans (k6.mono fun t q=>.inr (.inr q));exact⟨o,_,XY,K6,N6,(W4.Zh F HS).Zh k6 HS⟩
theorem Vf.YF{o:Ow}{i:Nat}{h:Hp}{sv:List (Int × Nat)}{c:List (Int × List (Int × Unit))}(s:Vf o i h sv c)(k:Int):(Go.V.YF sv k=Y/\Go.V.YF c k=Y)\/∃b l,Go.V.YF sv k=H b/\Go.V.YF c k=H l/\Wx o (.f i k) h b (Fk l):=by
 induction s with
 | nil=>exact .inl ⟨rfl,rfl⟩
 | @cons a b l m e _ d=>
  grind [YF.eq_def]
theorem Vf.add{o:Ow}{i:Nat}{h:Hp}{k:Int}{b:Nat}{l:List (Int × Unit)}(hb:Wx o (.f i k) h b (Fk l)):∀{sv:List (Int × Nat)} {d:List (Int × List (Int × Unit))},Vf o i h sv d->Go.V.YF sv k=Y->Vf o i h (ins sv k b) (ins d k l):=by
 intro sv d s
 induction s with
 | nil=>intro _;exact .cons ⟨rfl,hb⟩ .nil
 | @cons a b l m g _ e=>
  intro c;let⟨r,p⟩:=a;let⟨n,j⟩:=b;obtain⟨rfl,f⟩:=g;unfold Go.V.YF at c;split at c
  .cases c
  .rename_i q;unfold ins;rw[if_neg q,if_neg q];exact .cons ⟨rfl,f⟩ (e c)
theorem Vf.put{o:Ow}{i:Nat}{h h':Hp}{k:Int}{b:Nat}{l':List (Int × Unit)}(n:Kp (fun t=>t=.f i k) o h o h')(hb:Wx o (.f i k) h' b (Fk l')):∀{sv:List (Int × Nat)} {g:List (Int × List (Int × Unit))},Vf o i h sv g->(sv.map (·.1)).Nodup->Go.V.YF sv k=H b->Vf o i h' sv (ins g k l'):=by
 intro sv g s
 induction s with
 | nil=>intro _ h;cases h
 | @cons a c l m z v w=>
  intro d f;let⟨u,C⟩:=a;let⟨B,A⟩:=c;let⟨r,p⟩:=z;simp only at r p;subst r;simp only[bc,List.nodup_cons]at d;unfold Go.V.YF at f;unfold ins;by_cases q:u=k
  .rw[if_pos q]at f ⊢;subst q;obtain rfl:=aag f;refine .cons ⟨rfl,hb⟩ ?_;have key:∀{l:List (Int × Nat)} {m:List (Int × List (Int × Unit))},Vf o i h l m->u ∉ l.map (·.1)->Vf o i h' l m:=by
    intro l m s
    induction s with
    | nil=>intro _;exact .nil
    | @cons x y l m e _ j=>
     intro d;simp only[bc,List.mem_cons,not_or]at d;exact .cons ⟨e.1,e.2.Zh n zK⟩ (j d.2)
   exact key v d.1
  .rw[if_neg q]at f ⊢;exact .cons ⟨rfl,p.Zh n zK⟩ (w d.2 f)
theorem iB{β:Type}:∀{l:List (Int × β)} {k:Int} {v:β},(l.map (·.1)).Nodup->((ins l k v).map (·.1)).Nodup/\∀x,x∈(ins l k v).map (·.1)->x=k\/x∈l.map (·.1):=by
 intro l
 induction l with
 | nil=>grind [ins]
 | cons a l b=>
  grind [ins.eq_def]
theorem Zha{β:Type}:∀(l:List (Int × β)) (k:Int) (u v:β),ins (ins l k u) k v=ins l k v:=by
 intro l
 induction l with
 | nil=>intro k u v;unfold ins;simp[ins]
 | cons a l b=>
  grind [ins]
theorem X1.Zc4{o:Ow}{i:Nat}{h:Hp}{c:RA}{r:XR}(s:X1 o i h c r)(d:V3 o h){k:Int}{b:Nat}{l l':List (Int × Unit)}(e:YF c.sv k=H b)(hb:Wx o (.f i k) h b (Fk l)):
  Kp (fun t=>t=.f i k) o h o (an h b (JO (Fk l')))/\X1 o i (an h b (JO (Fk l'))) c { r with Xc:=ins r.Xc k l' }:=by
 have a:Kp (fun t=>t=.f i k) o h o (an h b (JO (Fk l'))):=(Kp.refl d (fun t=>t=.f i k)).set hb.1 rfl _;exact⟨a,s.Yb.Zh a zK,s.c.Zh a zK,s.PG.Zh a,s.ZQ.Zh a zK,s.Xc.Zh a zK,Vf.put a ⟨hb.1,Yp hb.2⟩ s.f s.keys e,s.keys⟩
def iC(i:Nat)(t:Tg):Prop:=WX i t\/Ql i t
theorem GB(T:a3)(h:Hp)(o:Ow)(wb i nb:Nat)(Y6:Nat->Nat)(a:NA)(n:Nd)(XY:WA)(fl:List Yt)(YP:Nat->Int)(ZH:List PC)(l:Yt)(w:aa)(d:V3 o h)(N:Yg o h wb i nb a n)(W:Z0 o h wb Y6 XY fl YP ZH)(iv:Ta o h w l.vs)(hk:n.Zi.length<=100000000000)(hl:n.ZF.length<=100000000000)(ht:(Z ZH)<=100000000000)(hq:n.ZD.length<=1000000000000)(hw:n.e.length<=1000000000000)(hv:∀r s,n.Zc=H r->((YF r.Xc s).getD []).length<=1000000):
  Zg aH T 91 #[ZC wb,ZC nb,ao (Jk l w).toArray] h fun v' h'=>∃o' a' JY,Kp (iC i) o h o' h'/\Yg o' h' wb i nb a' (YI n l).n/\Z0 o' h' wb Y6 JY fl YP (ZH++(YI n l).ts):=by
 obtain⟨pw,cw,rfl⟩:=iv.ZR;refine Zg.X8 [_,_,_] Tryz.func91 ?_;unfold ZC Jk;have T4:=Zb N.Yb.2;have R:=ZU N.Yb.2 N.pt.store.len;let⟨f,Jt⟩:=ZO (h.push (Q (Jk l (J pw (Z l.vs) cw)).toArray 143):Hp);have C:Kp WL o h o f:=by rw[Jt];exact YK d _
 have M:Yo o f h.size (Q (Jk l (J pw (Z l.vs) cw)).toArray 143):=⟨d _ (ae _),zK⟩
 have e0:=Jt.symm;unfold Jk at e0;have L:=N.Zt C;have W1:=W.Zt C;have bd:=iv.Zh C;have R1:=ZU L.Yb.2 L.pt.store.len;have UE:=Zb L.Yb.2;have m5:=Zb M.2;have q0:hc f ⟨h.size,0,Y⟩=H (O D l.a):=Zr M.2;have q1:hc f ⟨h.size,1,Y⟩=H (O D l.c):=Zr M.2;have q3:rd f ⟨h.size,3,Y⟩ 2=H (Q0 l.b):=by rw[YZ M.2 (by simp[Jk])];rfl
 have q5:hc f ⟨h.size,5,Y⟩=H (O D l.v.Zx):=Zr M.2;have q6:rd f ⟨h.size,6,Y⟩ 2=H (Q0 l.v.b):=by rw[YZ M.2 (by simp[Jk])];rfl
 have bb:hc f ⟨h.size,13,Y⟩=H (J pw (Z l.vs) cw):=Zr M.2;have zR:=L.pt.Zc;have m:=R.Zc
 cases hr:n.Zc with
 | none=>
  cases u:a.Zc with
  | some g=>rw[hr,u]at zR;exact zR.elim
  | none=>
   have eP:YI n l=⟨n,[],[]⟩:=by unfold YI;rw[hr]
   rw[u]at m;unfold Lw at m;rw[eP,ak];simp only[go_sem,m];rw[e0];exact⟨o,a,XY,Ya C,L,W1⟩
 | some r=>
  cases u:a.Zc with
  | none=>rw[hr,u]at zR;exact zR.elim
  | some g=>
   rw[hr,u]at zR;have j:X1 o i f g r:=zR;rw[u]at m;unfold Lw ZC at m;have b6:=Zb j.Yb.2;have b5:rd f ⟨g.rb,0,Y⟩ 2=H (Q0 r.b):=by rw[YZ j.Yb.2 (by simp[nM])];rfl
   have b9:hc f ⟨g.rb,2,Y⟩=H (.map (H g.pb)):=Zr j.Yb.2;have b0:hc f ⟨g.rb,5,Y⟩=H (.map (H g.vb)):=Zr j.Yb.2;by_cases c1:l.a=1
   .have bl:=eq_true c1;simp only[go_sem,m,bl];rw[e0];refine VS.q mixed zI ?_;simp only[go_sem,q3,b5];by_cases c2:l.b=r.b
    .have eP:YI n l=⟨C0 n r l,[],[]⟩:=by unfold YI;rw[hr];simp only;rw[if_pos c1,if_pos c2]
     rw[eP,ak];have z:=eq_true c2;simp only[go_sem,z];refine VS.z (f.size) [8] (.p 0 (.p 1 (.p 2 (.q 3 (.p 4 (.q 5 (.p 6 (.q 7 (.w 8 .nil))))))))) mixed zI ?_;simp only[go_sem,b9,q1,bb,b6,m5];rw[Qy Gq j.c.2];simp only[go_sem];let⟨p,R2⟩:=j.sV C.YG (k:=l.c) bd;refine⟨o,{ a with Zc:=H { g with pv:=ins g.pv l.c (J pw (Z l.vs) cw) } },XY,(Ya C).trans (p.mono fun t q=>.inr (.inr (.inl q))),⟨?_,?_⟩,W1.Zh p HS⟩
     .have:=L.Yb.Zh p zK;rw[<-GA (H { r with c:=ins r.c l.c l.vs }) u (ra':={ g with pv:=ins g.pv l.c (J pw (Z l.vs) cw) }) rfl]at this;exact this
     .exact Yx.Wy L.pt (p.mono fun t q=>.inr (.inl q)) u rfl R2
    .have eP:YI n l=⟨n,[],[]⟩:=by unfold YI;rw[hr];simp only;rw[if_pos c1,if_neg c2]
     rw[eP,ak];simp only[go_sem,c2];exact⟨o,a,XY,Ya C,L,W1⟩
   .simp only[go_sem,m,c1];rw[e0];refine VS.q mixed zI ?_;simp only[go_sem,q6,b5];by_cases c2:l.v.b=r.b
    case neg=>
     have eP:YI n l=⟨n,[],[]⟩:=by unfold YI;rw[hr];simp only;rw[if_neg c1,if_pos c2]
     rw[eP,ak];simp only[go_sem,c2];exact⟨o,a,XY,Ya C,L,W1⟩
    have eP:YI n l=if 5<2*(UB r l).length then Jj (Vc n r l) l.v.Zx l.v.cm else ⟨Vc n r l,[],[]⟩:=by unfold YI;rw[hr];simp only;rw[if_neg c1,if_neg (fun q=>q c2)]
    rw[eP];have bf:=hv r l.v.Zx hr;have z:=eq_true c2;have lk:=fun (K:aa->Hp->Prop)=>XA (K:=K) (n:=l.v.Zx) (c:=false) E7 Ai j.Xc.2;rw[JN]at lk;let⟨S,hS⟩:=ZO ((YF r.Xc l.v.Zx).getD []);have hlen:(Z S)<=1000000:=by rw[hS];exact bf
    have ax:Yg o f wb i nb { a with Zc:=H g } { n with Zc:=H r }:=by
     have e1:({ a with Zc:=H g }:NA)=a:=by rw[<-u]
     have e2:({ n with Zc:=H r }:Nd)=n:=by rw[<-hr]
     rw[e1,e2];exact L
    have KG:Kp (iC i) o h o f:=Ya C;have a1:=m;rcases j.f.YF l.v.Zx with⟨e1,e2⟩|⟨sb,S',e1,e2,V⟩
    .have b1:S=[]:=by rw[hS,e2];rfl
     rw[e1]at lk;simp only[aS,aI,aL,if_false]at lk
     let⟨h2,V7⟩:=ZO (f.push (JO []):Hp);have bh:f.push (.map #[] 0)=h2:=V7.symm;have P:Kp (Ql i) o f (Up o f.size (.f i l.v.Zx)) h2:=by
      rw[V7];exact ((Kp.refl C.YG _).push _).Nj (ae _) zX (.inr (.inr (.inr (.inr ⟨_,rfl⟩))))
     have kx:Kp WL o f o h2:=by rw[V7];exact YK C.YG _
     have a2:=j.Zh kx (fun _ _ q=>q);have lo:∀b,b<f.size->Up o f.size (.f i l.v.Zx) b=o b:=fun b hb=>Jn uh;let⟨A,b7⟩:=ZO (Up o f.size (.f i l.v.Zx));rw[<-b7]at P lo;have v:X1 A i h2 g r:=by
      have lt:∀{b:Nat} {x:Obj},f[b]? = H x->b<f.size:=Zb;refine⟨⟨(lo _ (Zb j.Yb.2)).trans j.Yb.1,a2.Yb.2⟩,⟨(lo _ (Zb j.c.2)).trans j.c.1,a2.c.2⟩,j.PG.Zh P,⟨(lo _ (Zb j.ZQ.2)).trans j.ZQ.1,a2.ZQ.2⟩,⟨(lo _ (Zb j.Xc.2)).trans j.Xc.1,a2.Xc.2⟩,?_,j.keys⟩;have key:∀{sv:List (Int × Nat)} {vt:List (Int × List (Int × Unit))},Vf o i f sv vt->Vf A i h2 sv vt:=by
       intro sv vt s
       induction s with
       | nil=>exact .nil
       | cons x _ ih=>exact .cons ⟨x.1,⟨(lo _ (Zb x.2.2)).trans x.2.1,(x.2.Zh kx id).2⟩⟩ ih
      exact key j.f
     have ms:Wx A (.f i l.v.Zx) h2 f.size (Fk []):=⟨by rw[b7];exact Jh,by rw[V7];exact Zf⟩
     have bp:g.rb<h2.size:=by have:=kx.size;omega
     simp only[go_sem,m,z,q5,b0,lk,mpV];rw[bh,Qy E7 v.Xc.2];let⟨G,hG⟩:=ZO (an h2 g.vb (JO (ins (T6 mpV g.sv) l.v.Zx (.map (H f.size)))));rw[<-hG];obtain⟨E,b2⟩:∃E:RA,E = { g with sv:=ins g.sv l.v.Zx f.size }:=⟨_,rfl⟩
     have kk:Kp (fun t=>t=.Xc i) A h2 A G:=by rw[hG];exact (Kp.refl P.YG (fun t=>t=.Xc i)).set v.Xc.1 rfl _
     have I:X1 A i G E { r with Xc:=ins r.Xc l.v.Zx [] }:=by
      rw[b2];refine⟨v.Yb.Zh kk zK,v.c.Zh kk zK,v.PG.Zh kk,v.ZQ.Zh kk zK,⟨v.Xc.1,?_⟩,(Vf.add ms v.f e1).Zh kk (fun _ e=>by cases e),(iB j.keys).1⟩;show G[g.vb]? = H (JO (T6 mpV (ins g.sv l.v.Zx f.size)));rw[hG,Yp v.Xc.2,Nh];rfl
     have F:Kp (Ql i) o f A G:=P.trans (kk.mono fun t q=>.inr (.inr (.inr (.inl q))));have nR:E.rb=g.rb:=by rw[b2]
     have NG:Yg A G wb i nb { a with Zc:=H E } { n with Zc:=H { r with Xc:=ins r.Xc l.v.Zx [] } }:=by
      refine⟨?_,Yx.Wy ax.pt F rfl nR I⟩;have:=ax.Yb.Zh F (by rintro (q|q|q|q|⟨_,q⟩)<;>cases q);rw[show Jl { n with Zc:=H { r with Xc:=ins r.Xc l.v.Zx [] } } { a with Zc:=H E } = Jl { n with Zc:=H r } { a with Zc:=H g } from by unfold Jl Tj Lw;grind];exact this
     have WG:=W1.Zh F (by intro t q;rw[Hd q];simp);have XG:=M.Zh F;have b8:Kp (iC i) o h A G:=(Ya C).trans (F.mono fun t q=>.inr q);have b4:YF E.sv l.v.Zx=H f.size:=by rw[b2];simp[XQ]
     have SB:Wx A (.f i l.v.Zx) G f.size (Fk S):=by rw[b1];exact ms.Zh kk zK
     have Q5:hc G ⟨h.size,5,Y⟩=H (O D l.v.Zx):=Zr XG.2;have Q1:hc G ⟨h.size,1,Y⟩=H (O D l.c):=Zr XG.2;have bn:hc G ⟨g.rb,5,Y⟩=H (.map (H E.vb)):=by rw[<-nR];exact Zr I.Yb.2
     have bo:g.rb<G.size:=by rw[<-nR];exact Zb I.Yb.2
     have M5:=Zb XG.2;have LK:=fun (K:aa->Hp->Prop)=>XA (K:=K) (n:=l.v.Zx) (c:=false) E7 Ai I.Xc.2;rw[JN]at LK;simp only[b4,aC,aq,aL,if_false,mpV]at LK;simp only[go_sem];refine VS.z (G.size) [9] (.p 0 (.p 1 (.p 2 (.q 3 (.p 4 (.p 6 (.q 7 (.p 8 (.s 5 (.w 9 .nil)))))))))) mixed zI ?_;simp only[go_sem,a1,z,Q5,Q1,bn,LK,bo,M5];rw[Qy Ah SB.2];let⟨p,y⟩:=I.Zc4 b8.YG (l':=ins S l.c ()) b4 SB;rw[show JO (ins (Fk S) l.c (ao #[]))=JO (Fk (ins S l.c ())) from by unfold Fk;rw[Nh]];let⟨B,VJ⟩:=ZO (an G f.size (JO (Fk (ins S l.c ()))));rw[<-VJ]at p y ⊢;have eV:({ r with Xc:=ins r.Xc l.v.Zx (UB r l) }:XR) = { ({ r with Xc:=ins r.Xc l.v.Zx [] }:XR) with Xc:=ins (ins r.Xc l.v.Zx []) l.v.Zx (ins S l.c ()) }:=by unfold UB;rw[hS,Zha]
     have K2:Kp (iC i) A G A B:=p.mono fun t q=>.inr (.inr (.inr (.inr (.inr ⟨_,q⟩))));have N2:Yg A B wb i nb { a with Zc:=H E } (Vc n r l):=by
      refine⟨?_,?_⟩
      .have:=NG.Yb.Zh p zK;exact this
      .have:=Yx.Wy NG.pt (p.mono fun t q=>.inr (.inr (.inr (.inr ⟨_,q⟩)))) rfl rfl y;unfold Vc
       grind
     have W2:=WG.Zh p HS;have x2:=XG.Zh p;have p0:rd B ⟨h.size,8,Y⟩ 5=H l.v.cm.C:=by rw[YZ x2.2 (by simp[Jk])];rfl
     have p5:hc B ⟨E.rb,5,Y⟩=H (.map (H E.vb)):=Zr y.Yb.2;rw[nR]at p5;have p6:=fun (K:aa->Hp->Prop)=>XA (K:=K) (n:=l.v.Zx) (c:=false) E7 Ai y.Xc.2;rw[JN]at p6;simp only[b4,aC,aq,aL,if_false]at p6;have b3:Wx A (.f i l.v.Zx) B f.size (Fk (ins S l.c ())):=⟨SB.1,zK⟩
     have p7:=fun (K:aa->Hp->Prop) (cs:Array Bool) (ty:a5)=>Oh (T:=T) (K:=K) (ty:=ty) (cs:=cs) Ah b3.2;have p8:(Fk (ins S l.c ())).length=(UB r l).length:=by unfold Fk UB;rw[HP,hS]
     rw[p8]at p7;simp only[go_sem,a1,z,p5,p6,p7,mpV];refine (FK T B (UB r l).length (by unfold UB;rw[<-hS,Ln];grind)).use ?_;rintro _ _ ⟨rfl,rfl⟩;by_cases c3:5<2*(UB r l).length
     .rw[if_pos c3];simp only[go_sem,c3,p0];refine (Dc T _ A wb i nb Y6 _ _ XY fl YP ZH l.v.Zx l.v.cm p.YG N2 W2 hk hl ht hq hw).use ?_;rintro v' h' ⟨o',a',JY,kl,N',W'⟩;simp only[go_sem]
      grind [iC,Kp.trans,Kp.mono]
     .rw[if_neg c3,ak];simp only[go_sem,c3];exact⟨A,_,XY,b8.trans K2,N2,W2⟩
    .have b1:S=S':=by rw[hS,e2];rfl
     subst b1;rw[e1]at lk;simp only[aC,aq,aL,if_false]at lk;simp only[go_sem,z,q5,b0,lk,mpV,m];have RL:=fun (K:aa->Hp->Prop)=>XA (K:=K) (n:=l.v.Zx) (c:=false) E7 Ai j.Xc.2;rw[JN]at RL;simp only[e1,aC,aq,aL,if_false,mpV]at RL;refine VS.z (f.size) [9] (.p 0 (.p 1 (.p 2 (.q 3 (.p 4 (.p 6 (.q 7 (.p 8 (.s 5 (.w 9 .nil)))))))))) mixed zI ?_;simp only[go_sem,a1,z,q5,q1,b0,RL,b6,m5];rw[Qy Ah V.2];let⟨p,y⟩:=j.Zc4 KG.YG (l':=ins S l.c ()) e1 V;rw[show JO (ins (Fk S) l.c (ao #[]))=JO (Fk (ins S l.c ())) from by unfold Fk;rw[Nh]];let⟨B,VJ⟩:=ZO (an f sb (JO (Fk (ins S l.c ()))));rw[<-VJ]at p y ⊢;have eV:({ r with Xc:=ins r.Xc l.v.Zx (UB r l) }:XR) = { r with Xc:=ins r.Xc l.v.Zx (ins S l.c ()) }:=by unfold UB;rw[hS]
     have K2:Kp (iC i) o f o B:=p.mono fun t q=>.inr (.inr (.inr (.inr (.inr ⟨_,q⟩))));have N2:Yg o B wb i nb { a with Zc:=H g } (Vc n r l):=by
      refine⟨?_,?_⟩
      .have:=ax.Yb.Zh p zK;exact this
      .have:=Yx.Wy ax.pt (p.mono fun t q=>.inr (.inr (.inr (.inr ⟨_,q⟩)))) rfl rfl y;unfold Vc
       grind
     have W2:=W1.Zh p HS;have x2:=M.Zh p;have p0:rd B ⟨h.size,8,Y⟩ 5=H l.v.cm.C:=by rw[YZ x2.2 (by simp[Jk])];rfl
     have p5:hc B ⟨g.rb,5,Y⟩=H (.map (H g.vb)):=Zr y.Yb.2;have p6:=fun (K:aa->Hp->Prop)=>XA (K:=K) (n:=l.v.Zx) (c:=false) E7 Ai y.Xc.2;rw[JN]at p6;simp only[e1,aC,aq,aL,if_false]at p6;have b3:Wx o (.f i l.v.Zx) B sb (Fk (ins S l.c ())):=⟨V.1,by rw[VJ];exact Yp V.2⟩
     have p7:=fun (K:aa->Hp->Prop) (cs:Array Bool) (ty:a5)=>Oh (T:=T) (K:=K) (ty:=ty) (cs:=cs) Ah b3.2;have p8:(Fk (ins S l.c ())).length=(UB r l).length:=by unfold Fk UB;rw[HP,hS]
     rw[p8]at p7;simp only[go_sem,a1,z,p5,p6,p7,mpV];refine (FK T B (UB r l).length (by unfold UB;rw[<-hS,Ln];grind)).use ?_;rintro _ _ ⟨rfl,rfl⟩;by_cases c3:5<2*(UB r l).length
     .rw[if_pos c3];simp only[go_sem,c3,p0];refine (Dc T _ o wb i nb Y6 _ _ XY fl YP ZH l.v.Zx l.v.cm p.YG N2 W2 hk hl ht hq hw).use ?_;rintro v' h' ⟨o',a',JY,kl,N',W'⟩;simp only[go_sem]
      grind [iC,Kp.trans,Kp.mono]
     .rw[if_neg c3,ak];simp only[go_sem,c3];exact⟨o,_,XY,KG.trans K2,N2,W2⟩
def J8(i:Nat)(t:Tg):Prop:=t=.world\/t=.b\/t=.ZH\/t.of=H i
theorem Dh{i:Nat}{t:Tg}(h:WX i t):J8 i t:=by
 rcases h with rfl|rfl|rfl|rfl|rfl|rfl|rfl<;>simp[J8,Tg.of]
theorem iE{i:Nat}{t:Tg}(h:iC i t):J8 i t:=h.elim Dh fun q=>.inr (.inr (.inr (Hd q)))
theorem iF(T:a3)(h:Hp)(o:Ow)(wb i nb:Nat)(a:NA)(n:Nd)(l:Yt)(w:aa)(d:V3 o h)(N:Yg o h wb i nb a n)(iv:Ta o h w l.vs):
  Zg aH T 96 #[ZC wb,ZC nb,ao (Jk l w).toArray] h fun I h'=>Kp (fun t=>t=.ZM i) o h o h'/\Yg o h' wb i nb a (XL n l):=by
 obtain⟨pw,u,rfl⟩:=iv.ZR;refine Zg.X8 [_,_,_] Tryz.func96 ?_;unfold ZC Jk;have j:∃f:Hp,f=h.push (Q (Jk l (J pw (Z l.vs) u)).toArray 143):=⟨_,rfl⟩
 let⟨f,v⟩:=j;have r:Kp WL o h o f:=by rw[v];exact YK d _
 have p:Yo o f h.size (Q (Jk l (J pw (Z l.vs) u)).toArray 143):=⟨d _ (ae _),zK⟩
 have j:=v.symm;unfold Jk at j;have k:=N.Zt r;have R1:=ZU k.Yb.2 k.pt.store.len;have F:=Zb k.Yb.2;have A:=Zb p.2;have y:rd f ⟨h.size,3,Y⟩ 2=H (Q0 l.b):=by rw[YZ p.2 (by simp[Jk])];rfl
 have x:rd f ⟨nb,7,Y⟩ 2=H (Q0 n.Yy):=R1.Yy;simp only[go_sem];rw[j];refine VS.mono (N:=fun m g'=>Zm f.size f g'/\m 1=U (H ⟨nb,0,Y⟩)/\m 5=U (H ⟨h.size,0,Y⟩)/\m 12=aW (decide (Zj n.Yy l.b))) ?_ ?_ (fun _ _ _ h=>h) (fun _ _ h=>h)
 .refine VS.z (f.size) [6] (.p 0 (.q 1 (.p 2 (.p 3 (.p 4 (.q 5 (.w 6 .nil))))))) mixed zI ?_;simp only[go_sem,y,x,F,A];refine (Ij T f l.b n.Yy).use ?_;rintro _ g ⟨rfl,b⟩;simp only[go_sem,b]
 .rintro m g ⟨b,f1,C,f12⟩;have q:=Z9 r.YG b;have N2:=k.Zt q;have s:=r.trans q;by_cases c:Zj n.Yy l.b
  .have e:XL n l = { n with Yy:=l.b }:=by unfold XL;rw[if_pos c]
   rw[e];let⟨L,w2,G,B⟩:=Yx.write (n:={ n with Yy:=l.b }) (a:=a) { N2.pt with } s.YG N2.Yb ((X4 N2.Yb.2 N2.pt.store.len).Yy l.b.r l.b.n);have z:rd g ⟨h.size,3,Y⟩ 2=H [O D l.b.r,O D l.b.n]:=by rw[YZ (p.Zh q).2 (by simp[Jk])];rfl
   have E:=Zb N2.Yb.2;simp only[go_sem,f1,C,f12,c,z,w2,E];exact⟨(Ya s).trans B,G⟩
  .have e:XL n l=n:=by unfold XL;rw[if_neg c]
   rw[e];simp only[go_sem,f12,c];exact⟨Ya s,N2⟩
theorem xI(T:a3)(h:Hp)(o:Ow)(wb i nb:Nat)(Y6:Nat->Nat)(a:NA)(n:Nd)(XY:WA)(fl:List Yt)(YP:Nat->Int)(ZH:List PC)(l:Yt)(w:aa)(d:V3 o h)(N:Yg o h wb i nb a n)(W:Z0 o h wb Y6 XY fl YP ZH)(iv:Ta o h w l.vs)(t:n.Zi.length<=100000000000)(s:n.ZF.length<=100000000000)(q:(Z ZH)<=100000000000)(r:n.ZD.length<=1000000000000)(hw:n.e.length<=1000000000000):
  Zg aH T 95 #[ZC wb,ZC nb,ao (Jk l w).toArray] h fun p h'=>∃b e f,Kp (WX i) o h b h'/\Yg b h' wb i nb e (Jj n l.v.Zx l.v.cm).n/\Z0 b h' wb Y6 f fl YP (ZH++(Jj n l.v.Zx l.v.cm).ts):=by
 obtain⟨pw,u,rfl⟩:=iv.ZR;refine Zg.X8 [_,_,_] Tryz.func95 ?_;unfold ZC Jk;let⟨g,m⟩:=ZO (h.push (Q (Jk l (J pw (Z l.vs) u)).toArray 143):Hp);have c:Kp WL o h o g:=by rw[m];exact YK d _
 have j:=m.symm;unfold Jk at j;simp only[go_sem];rw[j];refine (Dc T g o wb i nb Y6 a n XY fl YP ZH l.v.Zx l.v.cm c.YG (N.Zt c) (W.Zt c) t s q r hw).use ?_;rintro p h' ⟨b,e,f,k,x,v⟩;simp only[go_sem];exact⟨b,e,f,(Ya c).trans k,x,v⟩
theorem Zc5(T:a3)(h:Hp)(o:Ow)(wb i nb:Nat)(a:NA)(n:Nd)(l:Yt)(w:aa)(d:V3 o h)(N:Yg o h wb i nb a n)(iv:Ta o h w l.vs)(p:n.ZD.length<=1000000000000)(q:n.ZF.length<=1000000000000):
  Zg aH T 93 #[ZC wb,ZC nb,ao (Jk l w).toArray] h fun m h'=>∃b e,Kp (Zg1 i) o h b h'/\Yg b h' wb i nb e (add n l.v.cm):=by
 obtain⟨pw,r,rfl⟩:=iv.ZR;refine Zg.X8 [_,_,_] Tryz.func93 ?_;unfold ZC Jk;let⟨f,j⟩:=ZO (h.push (Q (Jk l (J pw (Z l.vs) r)).toArray 143):Hp);have c:Kp WL o h o f:=by rw[j];exact YK d _
 have g:=j.symm;unfold Jk at g;simp only[go_sem];rw[g];refine (ZcX T f o wb i nb a n l.v.cm c.YG (N.Zt c) p q).use ?_;rintro m h' ⟨b,e,k,s⟩;simp only[go_sem];exact⟨b,e,(Ya c).trans k,s⟩
theorem Zc6(T:a3)(h:Hp)(o:Ow)(wb i nb:Nat)(Y6:Nat->Nat)(a:NA)(n:Nd)(XY:WA)(fl:List Yt)(YP:Nat->Int)(ZH:List PC)(l:Yt)(w:aa)(d:V3 o h)(N:Yg o h wb i nb a n)(W:Z0 o h wb Y6 XY fl YP ZH)(iv:Ta o h w l.vs)(Xq:(Z fl)<=1000000000000):
  Zg aH T 94 #[ZC wb,ZC nb,ao (Jk l w).toArray] h fun v' h'=>∃r a' G,Kp (fun t=>t=.world\/t=.b\/t=.ZM i) o h r h'/\Yg r h' wb i nb a' (Q3 n l).n/\Z0 r h' wb Y6 G (fl++(Q3 n l).ls) YP ZH:=by
 obtain⟨pw,F,rfl⟩:=iv.ZR;refine Zg.X8 [_,_,_] Tryz.func94 ?_;unfold ZC Jk;let⟨A,Jt⟩:=ZO (h.push (Q (Jk l (J pw (Z l.vs) F)).toArray 143):Hp);have m:Kp WL o h o A:=by rw[Jt];exact YK d _
 have x5:Yo o A h.size (Q (Jk l (J pw (Z l.vs) F)).toArray 143):=⟨d _ (ae _),zK⟩
 have P:=Jt.symm;have R:=iF T A o wb i nb a n l (J pw (Z l.vs) F) m.YG (N.Zt m) (iv.Zh m);unfold Jk at P;unfold Jk ZC at R;simp only[go_sem];rw[P];refine R.use ?_;rintro _ g ⟨j,N2⟩;have S:=(W.Zt m).Zh j HS;have z:=x5.Zh j;have R2:=ZU N2.Yb.2 N2.pt.store.len;have V:=Zb N2.Yb.2;have L:=Zb z.2;have I:hc g ⟨h.size,5,Y⟩=H (O D l.v.Zx):=Zr z.2;have M:(XL n l).Zi=n.Zi:=by unfold XL;split<;>rfl
 have C:(XL n l).me=n.me:=by unfold XL;split<;>rfl
 have f:=fun (K:aa->Hp->Prop)=>XA (K:=K) (n:=l.v.Zx) (c:=true) PD If N2.pt.Zi.2;have u:=fun (K:aa->Hp->Prop) (x:Obj)=>XA (h:=g.push x) (K:=K) (n:=l.v.Zx) (c:=true) PD If ((ZX (Zb N2.pt.Zi.2)).trans N2.pt.Zi.2);rw[JN,M]at f;simp only[JN,M]at u;have gp:∀x:Obj,(g.push x)[g.size]? = H x:=fun x=>Zf;simp only[go_sem]
 cases p:YF n.Zi l.v.Zx with
 | none=>
  have E:Q3 n l=⟨XL n l,[],[]⟩:=by unfold Q3;rw[p]
  rw[E,ak];rw[p]at f;simp only[p,aS,aI,am,↓reduceIte]at f u;refine VS.mono (N:=fun e g'=>Zm g.size g g'/\e 7=aW false) ?_ ?_ (fun _ _ _ h=>h) (fun _ _ h=>h)
  .refine VS.z (g.size) [7,12] (.p 0 (.p 1 (.p 2 (.q 3 (.p 4 (.p 5 (.q 6 (.or 7 (.p 8 (.p 9 (.p 10 (.s 11 (.w 12 (.p 13 .nil)))))) (.s 11 (.w 7 (.p 8 (.p 9 (.p 10 (.w 12 (.p 13 .nil))))))))))))))) mixed zI ?_;simp only[go_sem,R2.Zi,I,V,L,f,u]
   repeat' (first|exact Zm.refl _ _|exact Zm.push (ae _) _|refine a7 ?_ ?_)
  .rintro e g' ⟨b,B⟩;simp only[go_sem,B];exact⟨o,a,XY,((Ya m).trans (j.mono fun t q=>.inr (.inr q))).YQ b,N2.Zt (Z9 j.YG b),S.Zt (Z9 j.YG b)⟩
 | some y=>
  have E:Q3 n l=⟨XL n l,[⟨6,n.me,l.c,Y2,Qb l.v.Zx Y2 y,[]⟩],[]⟩:=by unfold Q3;rw[p]
  rw[E];rw[p]at f;simp only[p,aC,aq,aw,↓reduceIte]at f u;refine VS.mono (N:=fun e g'=>Zm g.size g g'/\e 0=U (H ⟨wb,0,Y⟩)/\e 1=U (H ⟨nb,0,Y⟩)/\e 5=U (H ⟨h.size,0,Y⟩)/\e 7=aW true/\e 6=U (H ⟨g.size,0,Y⟩)/\g'[g.size]? = H (Q (aF y.C) 43)) ?_ ?_ (fun _ _ _ h=>h) (fun _ _ h=>h)
  .refine VS.z (g.size) [7,12] (.p 0 (.p 1 (.p 2 (.q 3 (.p 4 (.p 5 (.q 6 (.or 7 (.p 8 (.p 9 (.p 10 (.s 11 (.w 12 (.p 13 .nil)))))) (.s 11 (.w 7 (.p 8 (.p 9 (.p 10 (.w 12 (.p 13 .nil))))))))))))))) mixed zI ?_;simp only[go_sem,R2.Zi,I,V,L,f,u,Rc]
   grind
  .rintro e g' ⟨b,f0,f1,f5,B,f6,yy⟩;have s:=Z9 j.YG b;have v:=N2.Zt s;have W3:=S.Zt s;have z5:=z.Zh s;have R3:=ZU v.Yb.2 v.pt.store.len;have p1:hc g' ⟨h.size,1,Y⟩=H (O D l.c):=Zr z5.2;have p5:hc g' ⟨h.size,5,Y⟩=H (O D l.v.Zx):=Zr z5.2;have p6:rd g' ⟨g.size,0,Y⟩ 5=H [O D y.k,O D y.c,O D y.s,O D y.n,O D y.v]:=ZB yy rfl;simp only[go_sem,f0,f1,f5,B,f6,p1,p5,p6];refine (TB T g' o wb nb Y6 n.me XY fl YP ZH l.c ⟨6,0,0,Y2,Qb l.v.Zx Y2 y,[]⟩ (J Y 0 0) s.YG W3 (by rw[<-C];exact R3.me) (Zb v.Yb.2) (Im.nil _ _ _ _) Xq).use ?_;rintro v' h' ⟨r,G,k,_,W'⟩;simp only[go_sem];exact⟨r,a,G,(((Ya m).trans (j.mono fun t q=>.inr (.inr q))).trans (Ya s)).trans (k.mono fun t q=>q.elim .inl fun q=>.inr (.inl q)),v.Zh k aab,W'⟩
section
variable {K:aa->Hp->Prop} {X:Hp}
theorem Ar{t e:a5}(a:qQ aH t=H e){b:Nat}(hb:b=X.size){l:List (Int × aa)}{n:Int}{x:aa}:
  HQ aH t (.map (H b)) (O D n) x K (X.push (JO l))=K undef (X.push (JO (ins l n x))):=by
 subst hb;rw[Qy a Zf]
 congr 1
 grind
theorem nT{t e:a5}(a:qQ aH t=H e){b:Nat}(hb:b=X.size){n:Int}{x:aa}:
  HQ aH t (.map (H b)) (O D n) x K (X.push (.map #[] 0))=K undef (X.push (JO [(n,x)])):=Ar (l:=[]) a hb
theorem nU{t e:a5}{z:aa}(d:qQ aH t=H e)(a:tzv aH e=H z){b:Nat}(hb:b=X.size){l:List (Int × aa)}{n:Int}{x:aa}(c:YF l n=H x):
  HN aH t (.map (H b)) (O D n) false K (X.push (JO l))=K x (X.push (JO l)):=by
 subst hb;rw[XA d a Zf,c];rfl
end
theorem iG(n:Nd)(l:Yt):(Y3 n l).ts=[]:=by
 unfold Y3
 grind
theorem Zc7(n:Nd)(l:Yt):(asked n l).ts=[]:=by
 unfold asked
 grind
theorem Zc8(n:Nd)(l:Yt):(Q3 n l).ts=[]:=by
 unfold Q3;split<;>rfl
theorem Zc9(n:Nd)(s:Int)(x:Cm):(Jj n s x).ls=[]:=rfl
theorem GD(n:Nd)(l:Yt):(YI n l).ls=[]:=by
 unfold YI
 repeat' split
 all_goals rfl
theorem xK(T:a3)(h:Hp)(o:Ow)(wb i nb:Nat)(Y6:Nat->Nat)(a:NA)(n:Nd)(XY:WA)(fl:List Yt)(YP:Nat->Int)(ZH:List PC)(l:Yt)(w:aa)(d:V3 o h)(N:Yg o h wb i nb a n)(W:Z0 o h wb Y6 XY fl YP ZH)(iv:Ta o h w l.vs)(tb:j1 o h)(ax:0<=l.a/\l.a<=7)(Xq:(Z fl)<=1000000000000)(a1:n.Zn.l.length<=1000000)(a2:(Z n.data)<=1000000)(hk:n.Zi.length<=100000000000)(hl:n.ZF.length<=100000000000)(ht:(Z ZH)<=100000000000)(hq:n.ZD.length<=1000000000000)(hw:n.e.length<=1000000000000)(hv:∀r s,n.Zc=H r->((YF r.Xc s).getD []).length<=1000000):
  Zg aH T 75 #[ZC wb,ZC nb,ao (Jk l w).toArray] h fun F h'=>∃g u A,Kp (J8 i) o h g h'/\Yg g h' wb i nb u (Zy n l).n/\Z0 g h' wb Y6 A (fl++(Zy n l).ls) YP (ZH++(Zy n l).ts):=by
 obtain⟨pw,cw,rfl⟩:=iv.ZR;refine Zg.X8 [_,_,_] Tryz.func75 ?_;let⟨y,Jt⟩:=ZO (h.push (Q (Jk l (J pw (Z l.vs) cw)).toArray 143):Hp);have k1:Kp WL o h o y:=by rw[Jt];exact YK d _
 have x5:Yo o y h.size (Q (Jk l (J pw (Z l.vs) cw)).toArray 143):=⟨d _ (ae _),zK⟩
 have E:=Jt.symm;have s1:y.size=h.size+1:=by rw[Jt];simp
 obtain⟨M,C⟩:∃M:List (Int × aa),M=[(0,.func (.func 90) #[] #[]),(1,.func (.func 91) #[] #[]),(2,.func (.func 92) #[] #[]),(3,.func (.func 91) #[] #[]),(4,.func (.func 93) #[] #[]),(5,.func (.func 94) #[] #[]),(6,.func (.func 95) #[] #[]),(7,.func (.func 96) #[] #[])]:=⟨_,rfl⟩
 have z:Kp WL o h o (y.push (JO M)):=k1.push _;have N2:=N.Zt z;have V:=W.Zt z;have j:=iv.Zh z;have md:=tb.Zh z;have x2:Yo o (y.push (JO M)) h.size (Q (Jk l (J pw (Z l.vs) cw)).toArray 143):=x5.Zh (YK k1.YG _);have S:V3 o (y.push (JO M)):=z.YG;have L:hc (y.push (JO M)) ⟨h.size,0,Y⟩=H (O D l.a):=Zr x2.2;have f:rd (y.push (JO M)) ⟨h.size,0,Y⟩ 14=H (Jk l (J pw (Z l.vs) cw)):=ZB x2.2 rfl;have R:ins (ins (ins (ins (ins (ins (ins [((0:Int),Value.func (.func 90) #[] #[])] 1 (.func (.func 91) #[] #[])) 2 (.func (.func 92) #[] #[])) 3 (.func (.func 91) #[] #[])) 4 (.func (.func 93) #[] #[])) 5 (.func (.func 94) #[] #[])) 6 (.func (.func 95) #[] #[])) 7 (.func (.func 96) #[] #[])=M:=by rw[C];rfl
 have I:=fun (K:aa->Hp->Prop) (n:Int) (x:aa)=>nT (K:=K) (X:=y) ZcM (b:=y.size) rfl (n:=n) (x:=x);have G:=fun (K:aa->Hp->Prop) (l:List (Int × aa)) (n:Int) (x:aa)=>Ar (K:=K) (X:=y) ZcM (b:=y.size) rfl (l:=l) (n:=n) (x:=x);have P:=fun (K:aa->Hp->Prop) (x:aa) (hx:YF M l.a=H x)=>nU (K:=K) (X:=y) ZcM Zqb (b:=y.size) rfl hx;unfold ZC Jk;unfold Jk at E f;have Di:l.a=0\/l.a=1\/l.a=2\/l.a=3\/l.a=4\/l.a=5\/l.a=6\/l.a=7:=uh;rcases Di with e|e|e|e|e|e|e|e
 .have p:Zy n l=Y3 n l:=by unfold Zy;simp[e]
  rw[p];have m:=fun (K:aa->Hp->Prop)=>P K (.func (.func 90) #[] #[]) (by rw[e,C];rfl);have c:=iA T _ o wb i nb Y6 a n XY fl YP ZH l _ S N2 V j Xq a1 a2 md;unfold Jk ZC at c;simp only[go_sem,E,I,G,R,L,f,m];refine c.use ?_;rintro F h' ⟨g,u,A,k,v,B⟩;simp only[go_sem];exact⟨g,u,A,(Ya z).trans (k.mono fun t q=>by rcases q with rfl|rfl|rfl<;>simp[J8,Tg.of]),v,by rw[iG,ak];exact B⟩
 .have p:Zy n l=YI n l:=by unfold Zy;simp[e]
  rw[p];have m:=fun (K:aa->Hp->Prop)=>P K (.func (.func 91) #[] #[]) (by rw[e,C];rfl);have c:=GB T _ o wb i nb Y6 a n XY fl YP ZH l _ S N2 V j hk hl ht hq hw hv;unfold Jk ZC at c;simp only[go_sem,E,I,G,R,L,f,m];refine c.use ?_;rintro F h' ⟨g,u,A,k,v,B⟩;simp only[go_sem];exact⟨g,u,A,(Ya z).trans (k.mono fun t q=>iE q),v,by rw[GD,ak];exact B⟩
 .have p:Zy n l=asked n l:=by unfold Zy;simp[e]
  rw[p];have m:=fun (K:aa->Hp->Prop)=>P K (.func (.func 92) #[] #[]) (by rw[e,C];rfl);have c:=Zc3 T _ o wb i nb Y6 a n XY fl YP ZH l _ S N2 V j Xq a1 a2 md;unfold Jk ZC at c;simp only[go_sem,E,I,G,R,L,f,m];refine c.use ?_;rintro F h' ⟨g,u,A,k,v,B⟩;simp only[go_sem];exact⟨g,u,A,(Ya z).trans (k.mono fun t q=>by rcases q with rfl|rfl|rfl<;>simp[J8,Tg.of]),v,by rw[Zc7,ak];exact B⟩
 .have p:Zy n l=YI n l:=by unfold Zy;simp[e]
  rw[p];have m:=fun (K:aa->Hp->Prop)=>P K (.func (.func 91) #[] #[]) (by rw[e,C];rfl);have c:=GB T _ o wb i nb Y6 a n XY fl YP ZH l _ S N2 V j hk hl ht hq hw hv;unfold Jk ZC at c;simp only[go_sem,E,I,G,R,L,f,m];refine c.use ?_;rintro F h' ⟨g,u,A,k,v,B⟩;simp only[go_sem];exact⟨g,u,A,(Ya z).trans (k.mono fun t q=>iE q),v,by rw[GD,ak];exact B⟩
 .have p:Zy n l=⟨add n l.v.cm,[],[]⟩:=by unfold Zy;simp[e]
  rw[p];have m:=fun (K:aa->Hp->Prop)=>P K (.func (.func 93) #[] #[]) (by rw[e,C];rfl);have c:=Zc5 T _ o wb i nb a n l _ S N2 j hq uh;unfold Jk ZC at c;simp only[go_sem,E,I,G,R,L,f,m];refine c.use ?_;rintro F h' ⟨g,u,k,v⟩;simp only[go_sem];exact⟨g,u,XY,(Ya z).trans (k.mono fun t q=>by rcases q with rfl|rfl<;>simp[J8,Tg.of]),v,by grind [Z0.Zh,Zg1,Tg.of]⟩
 .have p:Zy n l=Q3 n l:=by unfold Zy;simp[e]
  rw[p];have m:=fun (K:aa->Hp->Prop)=>P K (.func (.func 94) #[] #[]) (by rw[e,C];rfl);have c:=Zc6 T _ o wb i nb Y6 a n XY fl YP ZH l _ S N2 V j Xq;unfold Jk ZC at c;simp only[go_sem,E,I,G,R,L,f,m];refine c.use ?_;rintro F h' ⟨g,u,A,k,v,B⟩;simp only[go_sem];exact⟨g,u,A,(Ya z).trans (k.mono fun t q=>by rcases q with rfl|rfl|rfl<;>simp[J8,Tg.of]),v,by rw[Zc8,ak];exact B⟩
 .have p:Zy n l=Jj n l.v.Zx l.v.cm:=by unfold Zy;simp[e]
  rw[p];have m:=fun (K:aa->Hp->Prop)=>P K (.func (.func 95) #[] #[]) (by rw[e,C];rfl);have c:=xI T _ o wb i nb Y6 a n XY fl YP ZH l _ S N2 V j hk hl ht hq hw;unfold Jk ZC at c;simp only[go_sem,E,I,G,R,L,f,m];refine c.use ?_;rintro F h' ⟨g,u,A,k,v,B⟩;simp only[go_sem];exact⟨g,u,A,(Ya z).trans (k.mono fun t q=>Dh q),v,by rw[Zc9,ak];exact B⟩
 .have p:Zy n l=⟨XL n l,[],[]⟩:=by unfold Zy;simp[e]
  rw[p];have m:=fun (K:aa->Hp->Prop)=>P K (.func (.func 96) #[] #[]) (by rw[e,C];rfl);have c:=iF T _ o wb i nb a n l _ S N2 j;unfold Jk ZC at c;simp only[go_sem,E,I,G,R,L,f,m];refine c.use ?_;rintro F h' ⟨k,v⟩;simp only[go_sem];exact⟨o,a,XY,(Ya z).trans (k.mono fun t q=>by rw[q];simp[J8,Tg.of]),v,by grind [Z0.Zh,Tg.of]⟩
@[go_sem] theorem ZzN(x:Cm):List.take 5 x.C=x.C:=rfl
def Tm(n:Nd)(r:XR)(x:Cm):Int:=match free n r x with|some s=>(s:Int)|none=>0
theorem X1.rr{o:Ow}{i:Nat}{h:Hp}{a:RA}{r:XR}(s:X1 o i h a r):rd h ⟨a.rb,0,Y⟩ 2=H (Q0 r.b)/\hc h ⟨a.rb,2,Y⟩=H (.map (H a.pb))/\hc h ⟨a.rb,3,Y⟩=H (aW r.a)/\hc h ⟨a.rb,4,Y⟩=H (.map (H a.qb))/\hc h ⟨a.rb,5,Y⟩=H (.map (H a.vb)):=
 ⟨by rw[YZ s.Yb.2 (by simp[nM])];rfl,Zr s.Yb.2,Zr s.Yb.2,Zr s.Yb.2,Zr s.Yb.2⟩
theorem Zhg(T:a3)(h:Hp)(o:Ow)(wb i nb:Nat)(a:NA)(n:Nd)(ra:RA)(r:XR)(x:Cm)(d:V3 o h)(N:Yg o h wb i nb a n)(R:X1 o i h ra r)(hl:n.ZF.length<=1000000000000):
  Zg aH T 118 #[ZC nb,ZC ra.rb,Rc x] h fun v' h'=>v'=.tuple #[O D (Tm n r x),aW (free n r x).isSome]/\Zm h.size h h':=by
 have T4:=Zb N.Yb.2;have sI:=Zb R.Yb.2;refine Zg.Kq [_,_,_] Tryz.func118 ?_;unfold ZC Rc;let⟨M,Jt⟩:=ZO (h.push (Q (aF x.C) 43):Hp);have k1:Kp WL o h o M:=by rw[Jt];exact YK d _
 have b1:Zm h.size h M:=by rw[Jt];exact Zm.push (ae _) _
 have x1:Yo o M h.size (Q (aF x.C) 43):=⟨d _ (ae _),zK⟩
 have e0:=Jt.symm;have S:=N.Zt k1;have R1:=R.Zh k1 (fun _ _ q=>q);have P1:=ZU S.Yb.2 S.pt.store.len;have P0:=ZU N.Yb.2 N.pt.store.len;let⟨lp,lc,Dd,ax⟩:=Xk.ZR S.pt.ZF;have P:=P1.ZF;rw[Dd]at P;have UE:=Zb S.Yb.2;have e3:((n.ZF.length:Nat):Int)=(n.ZF.length:Int):=rfl;simp -implicitDefEqProofs only[go_sem,e0,P];refine VS.YC (fun F g=>Zm M.size M g/\F 0=U (H ⟨nb,0,Y⟩)/\F 1=U (H ⟨ra.rb,0,Y⟩)/\F 5=U (H ⟨h.size,0,Y⟩)/\∃s:Nat,F 8=O D s/\n.ZF.length<=s/\Uj n r x (40-n.ZF.length) n.ZF.length=Uj n r x (40-s) s)
  (fun F _=>40-(vi (F 8)).toNat) rfl ⟨Zm.refl _ _,rfl,rfl,rfl,n.ZF.length,rfl,ae _,rfl⟩ ?_
 rintro F g ⟨I,m,f1,l,s,k,hs,he⟩;have kg:=Z9 k1.YG I;have N2:=S.Zt kg;have R2:=R1.Zh kg (fun _ _ q=>q);have W:=x1.Zh kg;have P2:=ZU N2.Yb.2 N2.pt.store.len;let⟨_,_,_,w,_⟩:=R2.rr;have gs:=I.size;have UP:=Zb N2.Yb.2;have nR:=Zb R2.Yb.2;have L:Zm h.size h g:=b1.trans (I.mono b1.size);have E:free n r x=Uj n r x (40-s) s:=he;by_cases Ye:s<40
 .have C:(s:Int)<40:=uh;obtain⟨f,hf⟩:∃f,40-s=f+1:=⟨39-s,uh⟩
  have ef:f=40-(s+1):=uh;rw[hf]at E he;have t:=fun (K:aa->Hp->Prop)=>XA (K:=K) (n:=(s:Int)) (c:=true) PD If R2.ZQ.2;rw[JN]at t;have b:=fun (K:aa->Hp->Prop) (z:Obj)=>XA (h:=g.push z) (K:=K) (n:=(s:Int)) (c:=true) PD If ((ZX (Zb N2.pt.Zi.2)).trans N2.pt.Zi.2);simp only[JN]at b;have fz:∀c:Cm,rd g ⟨h.size,0,Y⟩ 5=H x.C:=fun _=>ZB W.2 rfl;have B:rd g ⟨h.size,0,Y⟩ 5=H x.C:=ZB W.2 rfl;have a2:=Zb W.2;have A:¬h.size=g.size:=uh;have n2:¬h.size=g.size+1:=uh;have n3:¬nb=g.size:=uh;unfold Uj at E
  cases V:YF r.ZQ (s:Int) with
  | none=>
   simp only[V,aS,aI,am,↓reduceIte]at t
   cases p:YF n.Zi (s:Int) with
   | none=>
    simp only[p,aS,aI,am,↓reduceIte]at b;have j:free n r x=H s:=by rw[E,if_neg zK,if_pos ⟨V,p⟩]
    have u:Tm n r x=s:=by unfold Tm;rw[j]
    rw[u,j];simp -implicitDefEqProofs only[go_sem,m,f1,l,k,C,w,t,b,P2.Zi,A,n2,n3,B,Rc,aw];exact (L.Xj uh _).Xj Fo _
   | some z=>
    simp only[p,aC,aq,aw,↓reduceIte]at b;by_cases v:z=x
    .have j:free n r x=Y:=by rw[E,if_pos (.inr (by rw[p,v]))]
     have u:Tm n r x=0:=by unfold Tm;rw[j]
     rw[u,j];simp -implicitDefEqProofs only[go_sem,m,f1,l,k,C,w,t,b,P2.Zi,A,n2,n3,B,Rc,v,am];exact (L.Xj uh _).Xj Fo _
    .have a1:¬H z=H x:=fun e=>v (aag e);simp -implicitDefEqProofs only[go_sem,m,f1,l,k,C,w,t,b,P2.Zi,A,n2,n3,B,Rc,v];unfold Xz;refine⟨⟨(I.Xj uh _).Xj Fo _,m,f1,l,s+1,rfl,uh,?_⟩,?_⟩
     .grind [Uj.eq_2]
     .simp only[vi,Zu,↓reduceIte,k];omega
  | some y=>
   simp only[V,aC,aq,aw,↓reduceIte]at t;by_cases G:y=x
   .have j:free n r x=Y:=by rw[E,if_pos (.inl (by rw[V,G]))]
    have u:Tm n r x=0:=by unfold Tm;rw[j]
    rw[u,j]
    cases p:YF n.Zi (s:Int) with
    | none=>
     simp only[p,aS,aI,am,↓reduceIte]at b;simp -implicitDefEqProofs only[go_sem,m,f1,l,k,C,w,t,b,P2.Zi,A,n2,n3,B,Rc,G,am];exact (L.Xj uh _).Xj Fo _
    | some z=>
     simp only[p,aC,aq,aw,↓reduceIte]at b;simp -implicitDefEqProofs only[go_sem,m,f1,l,k,C,w,t,b,P2.Zi,A,n2,n3,B,Rc,G,am];exact (L.Xj uh _).Xj Fo _
   .cases p:YF n.Zi (s:Int) with
    | none=>
     simp only[p,aS,aI,am,↓reduceIte]at b;simp -implicitDefEqProofs only[go_sem,m,f1,l,k,C,w,t,b,P2.Zi,A,n2,n3,B,Rc,G];unfold Xz;refine⟨⟨(I.Xj uh _).Xj Fo _,m,f1,l,s+1,rfl,uh,?_⟩,?_⟩
     .grind [Uj.eq_2]
     .simp only[vi,Zu,↓reduceIte,k];omega
    | some z=>
     simp only[p,aC,aq,aw,↓reduceIte]at b;by_cases v:z=x
     .have j:free n r x=Y:=by rw[E,if_pos (.inr (by rw[p,v]))]
      have u:Tm n r x=0:=by unfold Tm;rw[j]
      rw[u,j];simp -implicitDefEqProofs only[go_sem,m,f1,l,k,C,w,t,b,P2.Zi,A,n2,n3,B,Rc,G,v,am];exact (L.Xj uh _).Xj Fo _
     ·
      simp -implicitDefEqProofs only[go_sem,m,f1,l,k,C,w,t,b,P2.Zi,A,n2,n3,B,Rc,G,v];unfold Xz;refine⟨⟨(I.Xj uh _).Xj Fo _,m,f1,l,s+1,rfl,uh,?_⟩,?_⟩
      .grind [Uj.eq_2]
      .simp only[vi,Zu,↓reduceIte,k];omega
 .have XX:¬(s:Int)<40:=uh;have j:free n r x=Y:=by rw[E,show 40-s=0 by omega];rfl
  have u:Tm n r x=0:=by unfold Tm;rw[j]
  rw[u,j];simp -implicitDefEqProofs only[go_sem,k,XX,L,am]
def Zln(B:Nat)(o:Ow)(c h:Hp)(u:aa)(b:List (List Vt)):Prop:=
 ∃a:List aa,QU B 98 1 h u (Z b) a/\fu (fun w l=>Ta o c w l/\(Z l)<=1000000) a b
def iH(o:Ow)(h:Hp)(u:aa)(a:List (List Vt)):Prop:=∃p c,u=J p (Z a) c/\(a≠[]->∃b off,p=H ⟨b,off,Y⟩/\b<h.size/\o b=Y/\∀i (hi:i<(Z a)),∃w,hc h ⟨b,off+i,Y⟩=H w/\Ta o h w a[i]/\a[i].length<=1000000)
theorem iH.vss{o:Ow}{h:Hp}{u:aa}{a:List (List Vt)}(s:iH o h u a):Vss h u a:=by
 grind [iH,Vss,Ta.ts]
theorem iH.Zh{S:Tg->Prop}{o a:Ow}{h h':Hp}{u:aa}{d:List (List Vt)}(s:iH o h u d)(k:Kp S o h a h'):iH a h' u d:=by
 let⟨p,c,e,hh⟩:=s;refine⟨p,c,e,fun g=>?_⟩;let⟨b,off,q,f,n,m⟩:=hh g;let⟨j,i⟩:=k.Zh b f fun t l=>by grind
 grind [hc,Ta.Zh]
theorem Zln.ZzO{o:Ow}{a h:Hp}{u:aa}{e:List (List Vt)}(s:Zln a.size o a h u e)(d:V3 o a)(hb:Zm a.size a h):iH o h u e:=by
 obtain⟨j,Zn,al⟩:=s;have n:(Z j)=(Z e):=by
  clear Zn
  induction al with
  | nil=>rfl
  | cons _ _ k=>simp[k]
 have m:∀i (hi:i<(Z e)),∃w,j[i]? = H w/\Ta o a w e[i]/\e[i].length<=1000000:=by
  clear Zn n
  induction al with
  | nil=>grind
  | cons F _ k=>
   intro i hi
   cases i with
   | zero=>grind
   | succ i=>exact k i zK
 obtain⟨p,c,x,B,z⟩:=Zn.sl;refine⟨p,c,x,fun y=>?_⟩;have E:0<(Z e):=List.length_pos_iff.2 y;obtain⟨b,off,rfl,v⟩:=z zK;have l:a.size<=b:=by
  refine Zn.Yb b ?_;rcases Zn with⟨⟨q,g⟩,t,r⟩|⟨C,cap,sp,_,g,_,_,_,A⟩
  .grind
  .grind [Yq]
 refine⟨b,off,rfl,O9 (v 0 uh),d b l,fun i hi=>?_⟩;obtain⟨w,g,t,r⟩:=m i hi;have f:i<(Z j):=uh;rw[List.getElem?_eq_getElem f]at g;exact⟨w,by rw[v i f,aag g],t.Zh (Z9 d hb),r⟩
theorem iI{α β:Type}{R:α->β->Prop}{l:List α}{k:List β}(s:fu R l k){a:α}{b:β}(h:R a b):fu R (l++[a]) (k++[b]):=by
 induction s with
 | nil=>exact .cons h .nil
 | cons x _ c=>exact .cons x c
theorem xM(l:List Vt)(v:Vt):WS (l++[v])=if WS l<v.Zx then v.Zx else WS l:=by
 unfold WS;grind
theorem X1.sY{o:Ow}{i:Nat}{h:Hp}{b:RA}{r:XR}(s:X1 o i h b r)(d:V3 o h){k:Int}{x:Cm}:
  Kp (fun t=>t=.ZQ i) o h o (an h b.qb (JO (ins (T6 Rc r.ZQ) k (ao (aF x.C)))))/\X1 o i (an h b.qb (JO (ins (T6 Rc r.ZQ) k (ao (aF x.C))))) b { r with ZQ:=ins r.ZQ k x }:=by
 have a:Kp (fun t=>t=.ZQ i) o h o (an h b.qb (JO (ins (T6 Rc r.ZQ) k (ao (aF x.C))))):=(Kp.refl d (fun t=>t=.ZQ i)).set s.ZQ.1 rfl _;exact⟨a,s.Yb.Zh a zK,s.c.Zh a zK,s.PG.Zh a,⟨s.ZQ.1,by rw[Yp s.ZQ.2,Nh];rfl⟩,s.Xc.Zh a zK,s.f.Zh a (fun _ e=>by cases e),s.keys⟩
theorem Ou(r:XR):(Yu r).length=5:=rfl
theorem At(r:XR)(m:Nat)(a:m<(Yu r).length):(Yu r)[m]=(YF r.c (m:Int)).getD []:=by
 simp only[Yu,List.getElem_map,List.getElem_range]
theorem X1.list{o:Ow}{i:Nat}{h:Hp}{d:RA}{r:XR}(s:X1 o i h d r)(e:∀x∈r.c,x.2.length<=1000000)(m:Int):∃p c vs,(YF d.pv m).getD (J Y 0 0)=J p (Z vs) c/\(YF r.c m).getD []=vs/\Ta o h (J p (Z vs) c) vs/\(Z vs)<=1000000:=by
 rcases s.PG.YF m with⟨b,a⟩|⟨w,vs,b,a,iv⟩
 .exact⟨Y,0,[],by rw[b];rfl,by rw[a];rfl,Im.nil _ _ _ _,zX⟩
 .obtain⟨p,c,rfl⟩:=iv.ZR;exact⟨p,c,vs,by rw[b];rfl,by rw[a];rfl,iv,e _ (SP a)⟩
theorem Zda(T:a3)(h:Hp)(o:Ow)(wb i nb:Nat)(a:NA)(n:Nd)(A:RA)(r:XR)(d:V3 o h)(N:Yg o h wb i nb { a with Zc:=H A } { n with Zc:=H r })(hp:∀x∈r.c,x.2.length<=1000000)(hs:∀x∈r.c,∀v∈x.2,v.Zx<=1000000)(hl:n.ZF.length<=1000000000000):
  Zg aH T 117 #[ZC nb,ZC A.rb] h fun v' h'=>∃ra',ra'.rb=A.rb/\Kp (Ql i) o h o h'/\Yg o h' wb i nb { a with Zc:=H ra' } { n with Zc:=H (Qs n r) }:=by
 have T4:=Zb N.Yb.2;have R:X1 o i h A r:=N.pt.Zc;have sI:=Zb R.Yb.2;refine Zg.X8 [_,_] Tryz.func117 ?_;unfold ZC;simp only[go_sem];refine VS.YC (fun F g=>Zm h.size h g/\F 0=U (H ⟨nb,0,Y⟩)/\F 1=U (H ⟨A.rb,0,Y⟩)/\∃m:Nat,m<=5/\F 12=O D m/\Zln h.size o h g (F 4) ((Yu r).take m)/\F 5=O D (WS ((Yu r).take m).flatten))
  (fun F _=>5-(vi (F 12)).toNat) rfl ⟨Zm.refl _ _,rfl,rfl,0,uh,rfl,⟨[],QU.nil _ _ _ _,.nil⟩,rfl⟩ ?_
 rintro F g ⟨hg,z,f1,m,hm,f12,hG,b⟩;have kg:=Z9 d hg;have N1:=N.Zt kg;have R1:=R.Zh kg (fun _ _ q=>q);let⟨_,q2,q3,q4,_⟩:=R1.rr;have gs:=hg.size;by_cases Ye:m<5
 .have Yh:(m:Int)<5:=uh;let⟨pm,cm,vs,e1,e2,iv,bp⟩:=R1.list hp (m:Int);have bA:m<(Yu r).length:=by rw[Ou];exact Ye
  have e3:(Yu r)[m]=vs:=by rw[At,e2]
  have e4:(Yu r).take (m+1)=(Yu r).take m++[vs]:=by rw[Xg _ m bA,e3]
  have S:=fun (G:Hp) (hG:Zm g.size g G) (K:aa->Hp->Prop)=>XA (h:=G) (K:=K) (n:=(m:Int)) (c:=false) Gq ZcN (hG.get (Zb R1.c.2) R1.c.2);simp only[e1,aL,if_false]at S;have bl:=S g (Zm.refl _ _);let⟨ws,Zn,al⟩:=hG;obtain⟨p4,c4,b0⟩:∃p c,F 4=J p ((Yu r).take m).length c:=by
   let⟨p,c,h1,_⟩:=Zn.sl;grind
  have ml:((Yu r).take m).length=m:=by rw[List.length_take,Ou];omega
  rw[ml]at b0 Zn;rw[b0]at Zn;simp only[go_sem,z,f1,b,f12,b0,Yh,q2,bl];have src:Sl 1 (g.push (Q [J pm (Z vs) cm].toArray 98)) (J (H ⟨g.size,0,Y⟩) 1 1) 1 [J pm (Z vs) cm]:=Sl.made zX 1;refine HM (E:=98) (n:=1) (B:=h.size) (bytes:=24) (m:=m) (k:=1) (cs:=ws) Zke Tryz.underlying234 ZwL ZwN rfl ZwM (Zn.push _) Fo src rfl uh uh ?_;intro u3 g3 b8 bW _;have iJ:Zm h.size h g3:=(hg.Xj uh _).trans (bW.YQ Fo (Zn.push (Q [J pm (Z vs) cm].toArray 98)).Yb);have bn:=Z9 d iJ;have R3:=R.Zh bn (fun _ _ q=>q);let⟨_,bh,_,_,_⟩:=R3.rr;have b1:=fun (K:aa->Hp->Prop)=>XA (K:=K) (n:=(m:Int)) (c:=false) Gq ZcN R3.c.2;simp only[e1,aL,if_false]at b1;obtain⟨p5,c5,rfl⟩:∃p c,u3=J p (m+1) c:=by let⟨p,c,h1,_⟩:=b8.sl;grind
  have b2:Ta o h (J pm (Z vs) cm) vs:=by
   let⟨c2,c6,c1,x1,x2,b3,_⟩:=R.list hp (m:Int);rw[e1]at x1;rw[e2]at x2;subst x2;rw[<-x1]at b3;exact b3
  have bN:fu (fun w l=>Ta o h w l/\(Z l)<=1000000) (ws++[J pm (Z vs) cm]) ((Yu r).take m++[vs]):=by
   exact iI al ⟨b2,bp⟩
  simp only[go_sem,z,f1,b,f12,Yh,bh,b1];let⟨f,I⟩:=ZO (((Yu r).take m).flatten);have wU:((Yu r).take (m+1)).flatten=f++vs:=by rw[e4,List.flatten_append,<-I];simp
  rw[<-I]at b;have bo:=fun g' (hb:Zm h.size h g')=>Da (b2.Zh (Z9 d hb)).ts;refine VS.YC (fun s g'=>Zm h.size h g'/\s 0=U (H ⟨nb,0,Y⟩)/\s 1=U (H ⟨A.rb,0,Y⟩)/\s 12=O D m/\s 29=J pm (Z vs) cm/\s 30=O D (Z vs)/\s 4=J p5 (m+1) c5/\QU h.size 98 1 g' (J p5 (m+1) c5) (m+1) (ws++[J pm (Z vs) cm])/\∃j:Nat,j<=(Z vs)/\s 31=O D j/\s 5=O D (WS (f++vs.take j)))
   (fun s _=>(Z vs)-(vi (s 31)).toNat) rfl ⟨iJ,z,f1,f12,rfl,rfl,rfl,b8,0,uh,rfl,by rw[List.take_zero,ak];exact b⟩ ?_
  rintro F2 M ⟨Hf,z,f1,f12,f29,f30,P,bT,j,hj,f31,b⟩;by_cases ax:j<(Z vs)
  .have bS:(j:Int)<(Z vs):=uh;let⟨pp,cc,b6,bq⟩:=bo M Hf;let⟨bb,oo,bw,Sb,Ik⟩:=bq zK;simp only[Value.slice.injEq]at b6;obtain⟨rfl,_,rfl⟩:=b6;subst bw;have r1:=Ik j ax;unfold Zz at r1;simp only[go_sem,z,f1,f12,f29,f30,P,f31,b,bS,r1];unfold Xz;refine⟨⟨Hf.Xj Hf.size _,z,f1,f12,f29,f30,P,bT.push _,j+1,ax,rfl,?_⟩,?_⟩
   .show Value.int D _=_;rw[Xg vs j ax,<-a0,xM]
   .simp only[vi,Zu,↓reduceIte,f31];omega
  .have XX:¬(j:Int)<(Z vs):=uh;obtain rfl:j=(Z vs):=uh;rw[a9]at b;simp only[go_sem,f30,f31,XX,f12];unfold Xz;refine⟨⟨Hf,z,f1,m+1,Ye,rfl,⟨_,?_,by rw[e4];exact bN⟩,by rw[wU];exact b⟩,?_⟩
   .show QU _ _ _ _ (F2 4) _ _
    grind
   .simp only[vi,Zu,↓reduceIte,f12];omega
 .have XX:¬(m:Int)<5:=uh;obtain rfl:m=5:=uh;have bt:(Yu r).take 5=Yu r:=by rw[List.take_of_length_le];exact Nat.le_of_eq (Ou r)
  rw[bt]at hG b;have P1:=ZU N1.Yb.2 N1.pt.store.len;have UE:=Zb N1.Yb.2;let⟨lp,lc,Dd,_⟩:=Xk.ZR N1.pt.ZF;have bd:=P1.ZF;rw[Dd]at bd;have xN:=hG.ZzO d hg;let⟨u,hu⟩:=ZO (F 4);rw[<-hu]at xN hG;let⟨Yi,bE⟩:=ZO (WS (Yu r).flatten);rw[<-bE]at b;have c3:Yi<=1000000:=by
   rw[bE];have key:∀(l:List Vt) (t:Int),t<=1000000->(∀v∈l,v.Zx<=1000000)->l.foldl (fun t v=>if t<v.Zx then v.Zx else t) t<=1000000:=by
    intro l
    induction l with
    | nil=>grind
    | cons x l ih=>
     grind
   refine key _ _ uh ?_;intro v hv;simp only[List.mem_flatten]at hv;let⟨l,bG,Cj⟩:=hv;obtain⟨k,hk,rfl⟩:=List.getElem_of_mem bG;rw[At]at Cj
   cases hx:YF r.c (k:Int) with
   | none=>grind
   | some y=>rw[hx]at Cj;exact hs _ (SP hx) v Cj
  clear hG;let⟨f,I⟩:=ZO (Yu r);rw[<-I]at xN bE;let⟨C,hC⟩:=ZO ((Yi+1).toNat-n.ZF.length);have bY:Qs n r = { r with ZQ:=(a6 n.ZF.length C).foldl (UC n f) r.ZQ,a:=true }:=by
   unfold Qs;rw[hC,bE,I]
  rw[bY];have br:=hu.symm;simp only[go_sem,z,f1,b,f12,XX,bd];refine VS.YC (fun s g'=>Kp (Ql i) o h o g'/\s 0=U (H ⟨nb,0,Y⟩)/\s 1=U (H ⟨A.rb,0,Y⟩)/\s 4=u/\s 5=O D Yi/\iH o g' u f/\∃k:Nat,k<=C/\s 9=O D ((n.ZF.length+k:Nat):Int)/\Yg o g' wb i nb { a with Zc:=H A } { n with Zc:=H { r with ZQ:=(a6 n.ZF.length k).foldl (UC n f) r.ZQ } })
   (fun s _=>n.ZF.length+C-(vi (s 9)).toNat) rfl ⟨Ya kg,z,f1,br,b,xN,0,uh,rfl,N1⟩ ?_
  rintro F2 g2 ⟨K2,z,f1,P,b,xN,k,hk,W,N2⟩;let⟨L,a2⟩:=ZO ((a6 n.ZF.length k).foldl (UC n f) r.ZQ);rw[<-a2]at N2;have R2:X1 o i g2 A { r with ZQ:=L }:=N2.pt.Zc;let⟨_,_,_,q4,_⟩:=R2.rr;have P2:=ZU N2.Yb.2 N2.pt.store.len;have UP:=Zb N2.Yb.2;have nR:=Zb R2.Yb.2;by_cases b7:k<C
  .have hle:(((n.ZF.length+k:Nat):Int))<=Yi:=uh;have S:=fun (K:aa->Hp->Prop)=>XA (K:=K) (n:=((n.ZF.length+k:Nat):Int)) (c:=true) PD If N2.pt.Zi.2;rw[JN]at S;have Jy:(a6 n.ZF.length (k+1)).foldl (UC n f) r.ZQ=UC n f L (n.ZF.length+k):=by
    rw[List.range'_concat,a8,<-a2];simp
   cases hx:YF n.Zi ((n.ZF.length+k:Nat):Int) with
   | some y=>
    have e6:UC n f L (n.ZF.length+k)=L:=by unfold UC;rw[if_neg (by rw[hx];simp)]
    simp only[show ({ n with Zc:=H { r with ZQ:=L } }:Nd).Zi=n.Zi from rfl,hx,aC,aq,aw,↓reduceIte]at S;simp only[go_sem,z,f1,P,b,W,hle,P2.Zi,S,Rc];have kx:=YK K2.YG (Q (aF y.C) 43);unfold Xz;refine⟨⟨K2.push _,z,f1,P,b,xN.Zh kx,k+1,b7,?_,by rw[Jy,e6];exact N2.Zt kx⟩,?_⟩
    .show Value.int D _=Value.int D _
     congr 1
    .simp only[vi,Zu,↓reduceIte,W];omega
   | none=>
    have e6:UC n f L (n.ZF.length+k)=ins L ((n.ZF.length+k:Nat):Int) (NC f ((n.ZF.length+k:Nat):Int)):=by unfold UC;rw[if_pos hx]
    simp only[show ({ n with Zc:=H { r with ZQ:=L } }:Nd).Zi=n.Zi from rfl,hx,aS,aI,am,↓reduceIte]at S;simp only[go_sem,z,f1,P,b,W,hle,P2.Zi,S];let⟨g3,iJ⟩:=ZO (g2.push (Q (aF Ag.C) 43):Hp);have kx:Kp WL o g2 o g3:=by rw[iJ];exact YK K2.YG _
    rw[<-iJ];have N3:=N2.Zt kx;have R3:X1 o i g3 A { r with ZQ:=L }:=N3.pt.Zc;let⟨_,_,_,bf,_⟩:=R3.rr;have bR:=Zb R3.Yb.2;have b5:=xN.Zh kx;have c0:(Z f)<=4611686018427387904:=by rw[I,Ou];omega
    refine VS.z (g3.size) [12] (.p 0 (.p 1 (.p 2 (.q 3 (.p 4 (.p 5 (.p 6 (.s 7 (.p 8 (.p 9 (.p 10 (.p 11 (.w 12 .nil))))))))))))) mixed zI ?_;simp only[go_sem,z,f1,P,b,W,bf,bR];refine (Zgv T g3 u f ((n.ZF.length+k:Nat):Int) b5.vss c0).use ?_;rintro _ M ⟨b9,b4⟩;unfold bz at b9;subst b9;have k4:=Z9 kx.YG b4;have N4:=N3.Zt k4;have R4:X1 o i M A { r with ZQ:=L }:=N4.pt.Zc;have eC:bu (if S7 ((n.ZF.length+k:Nat):Int) f.flatten=0 then Vm ((n.ZF.length+k:Nat):Int) f.flatten else Ps)=(NC f ((n.ZF.length+k:Nat):Int)).C:=by
     unfold NC;split<;>rfl
    rw[eC];simp only[go_sem,b4,z,f1,P,b,W];rw[Qy PD R4.ZQ.2];let⟨k5,R5⟩:=R4.sY k4.YG (k:=((n.ZF.length+k:Nat):Int)) (x:=NC f ((n.ZF.length+k:Nat):Int));have a1:Kp (Ql i) o M o _:=k5.mono fun t q=>.inr (.inr (.inl q));simp only[go_sem,W];unfold Xz;refine⟨⟨(K2.trans ((Ya kx).trans (Ya k4))).trans a1,z,f1,P,b,(b5.Zh k4).Zh a1,k+1,b7,?_,?_⟩,?_⟩
    .show Value.int D _=Value.int D _
     congr 1
    .rw[Jy,e6];exact⟨N4.Yb.Zh k5 zK,Yx.Wy N4.pt a1 rfl rfl R5⟩
    .simp only[vi,Zu,↓reduceIte,W];omega
  .have bK:¬(((n.ZF.length+k:Nat):Int))<=Yi:=uh;obtain rfl:k=C:=uh;obtain⟨M,w4,h4⟩:∃M,Uf g2 ⟨A.rb,3,Y⟩ (aW true)=H M/\M=an g2 A.rb (Q (nM { r with ZQ:=L,a:=true } A).toArray 163):=by
    refine⟨_,?_,rfl⟩;rw[XZ R2.Yb.2,if_pos ⟨by simp[nM],rfl⟩];rfl
   simp only[go_sem,z,f1,P,b,W,bK,nR,w4];have V:Kp (fun t=>t=.Zc i) o g2 o M:=by rw[h4];exact (Kp.refl K2.YG (fun t=>t=.Zc i)).set R2.Yb.1 rfl _
   have R4:X1 o i M A { r with ZQ:=L,a:=true }:=⟨⟨R2.Yb.1,zK⟩,R2.c.Zh V zK,R2.PG.Zh V,R2.ZQ.Zh V zK,R2.Xc.Zh V zK,R2.f.Zh V (fun _ e=>by cases e),R2.keys⟩
   rw[<-a2];refine⟨A,rfl,K2.trans (V.mono fun t q=>.inl q),N2.Yb.Zh V zK,Yx.Wy N2.pt (V.mono fun t q=>.inl q) rfl rfl R4⟩
theorem Wk{α:Type}(f:Nat->List α)(m:Nat):(aV (m+1)).flatMap f=(aV m).flatMap f++f m:=by
 rw[List.range_succ,List.flatMap_append];simp
theorem Sk{α:Type}(f:Nat->List α)(k m:Nat)(h:∀i,(f i).length<=k):((aV m).flatMap f).length<=m*k:=by
 induction m with
 | zero=>simp
 | succ m a=>grind [Wk]
theorem xO{n n':Nd}(b:n.Zi=n'.Zi)(r:XR)(x:Cm):∀k s,Uj n r x k s=Uj n' r x k s:=by
 intro k
 induction k with
 | zero=>intro s;rfl
 | succ k a=>intro s;unfold Uj;rw[b,a]
theorem bX{n n':Nd}(b:n.Zi=n'.Zi)(a:n.ZF=n'.ZF)(r:XR)(x:Cm):free n r x=free n' r x:=by
 unfold free;rw[a,xO b]
theorem Zdb{n n':Nd}(b:n.Zi=n'.Zi)(a:n.ZF=n'.ZF)(r:XR)(x:Cm):Qk n r x=Qk n' r x:=by
 unfold Qk;rw[bX b a]
theorem nW{n n':Nd}(c:n.Zi=n'.Zi)(b:n.ZF=n'.ZF):∀(l:List Cm) (r:XR),XS n r l=XS n' r l:=by
 intro l
 induction l with
 | nil=>intro r;rfl
 | cons x l a=>intro r;show XS n (Qk n r x) l=XS n' (Qk n' r x) l;rw[Zdb c b,a]
theorem xP{n n':Nd}(b:n.Zi=n'.Zi)(a:List (List Vt)):UC n a=UC n' a:=by
 funext pr s;unfold UC;rw[b]
theorem xQ{n n':Nd}(b:n.Zi=n'.Zi)(a:n.ZF=n'.ZF)(r:XR):Qs n r=Qs n' r:=by
 unfold Qs;rw[a,xP b]
theorem Zhh{n n':Nd}(b:n.Zi=n'.Zi)(a:n.me=n'.me)(r:XR):Wc n r=Wc n' r:=by
 funext s;unfold Wc SC;rw[b,a]
theorem Zdc{n n':Nd}(b:n.Zi=n'.Zi)(a:n.me=n'.me)(r:XR):US n r=US n' r:=by
 unfold US;rw[Zhh b a]
theorem Zhi(T:a3)(h:Hp)(o:Ow)(wb i nb:Nat)(Y6:Nat->Nat)(a:NA)(n:Nd)(M:RA)(r:XR)(XY:WA)(fl:List Yt)(YP:Nat->Int)(ZH:List PC)(d:V3 o h)(N:Yg o h wb i nb { a with Zc:=H M } { n with Zc:=H r })(W:Z0 o h wb Y6 XY fl YP ZH)(tb:j1 o h)(Xq:(Z fl)<=900000000000)(cR:n.Zn.l.length<=1000000)(de:(Z n.data)<=1000000)(hp:∀x∈r.c,x.2.length<=1000000)(hs:∀x∈r.c,∀v∈x.2,v.Zx<=1000000)(FZ:r.c.length<=1000000000000)(hl:n.ZF.length<=1000000000000)(hq:n.ZD.length<=1000000000000):
  Zg aH T 98 #[ZC wb,ZC nb,ZC M.rb] h fun v' h'=>∃o' a' JY,Kp (J8 i) o h o' h'/\Yg o' h' wb i nb a' (Jc { n with Zc:=H r } r).n/\Z0 o' h' wb Y6 JY (fl++(Jc { n with Zc:=H r } r).ls) YP ZH:=by
 refine Zg.X8 [_,_,_] Tryz.func98 ?_;let⟨h1,Jt⟩:=ZO ((h.push (Q [ZC nb].toArray 93)).push (Q [ZC M.rb].toArray 101):Hp);have k1:Kp WL o h o h1:=by rw[Jt];exact ((Kp.refl d _).push _).push _
 have x4:Yo o h1 h.size (Q [ZC nb].toArray 93):=⟨d _ (ae _),zK⟩
 have x5:Yo o h1 (h.size+1) (Q [ZC M.rb].toArray 101):=⟨d _ uh,zK⟩
 have e0:=Jt.symm;unfold ZC at e0 ⊢;have N1:=N.Zt k1;have W1:=W.Zt k1;have R1:X1 o i h1 M r:=N1.pt.Zc;let⟨q0,q2,q3,q4,q5⟩:=R1.rr;have P1:=ZU N1.Yb.2 N1.pt.store.len;have l4:=Zb x4.2;have l5:=Zb x5.2;have j2:=Zb R1.Yb.2;have UE:=Zb N1.Yb.2;have P:hc h1 ⟨h.size,0,Y⟩=H (ZC nb):=Zr x4.2;have C:hc h1 ⟨h.size+1,0,Y⟩=H (ZC M.rb):=Zr x5.2;unfold ZC at P C;have bA:rd h1 ⟨nb,4,Y⟩ 2=H (Q0 n.Zn.p):=P1.iu;simp only[go_sem,e0];refine VS.mono (N:=fun F' g'=>Zm h1.size h1 g'/\F' 0=U (H ⟨wb,0,Y⟩)/\F' 4=U (H ⟨h.size,0,Y⟩)/\F' 5=U (H ⟨h.size+1,0,Y⟩)/\F' 35=aW (decide (Zj n.Zn.p r.b))) ?_ ?_ (fun _ _ _ h=>h) (fun _ _ h=>h)
 .refine VS.z (h1.size) [9] (.q 0 (.p 1 (.p 2 (.q 3 (.q 4 (.p 5 (.p 6 (.p 7 (.q 8 (.w 9 .nil)))))))))) mixed zI ?_;simp only[go_sem,P,C,q0,bA,l4,l5,j2,UE];refine (Ij T h1 r.b n.Zn.p).use ?_;rintro _ g ⟨rfl,b⟩;simp only[go_sem,b]
 rintro F1 g1 ⟨b1,B,l,f,f35⟩;have kb:=Z9 k1.YG b1
 replace N1:=N1.Zt kb
 replace W1:=W1.Zt kb
 replace k1:=k1.trans kb
 replace x4:=x4.Zh kb
 replace x5:=x5.Zh kb
 have tb1:=tb.Zh k1;clear R1 q0 q2 q3 q4 q5 P1 bA l4 l5 j2 UE P C e0;have R1:X1 o i g1 M r:=N1.pt.Zc;let⟨q0,q2,q3,q4,q5⟩:=R1.rr;have P1:=ZU N1.Yb.2 N1.pt.store.len;have l4:=Zb x4.2;have l5:=Zb x5.2;have j2:=Zb R1.Yb.2;have UE:=Zb N1.Yb.2;have P:hc g1 ⟨h.size,0,Y⟩=H (ZC nb):=Zr x4.2;have C:hc g1 ⟨h.size+1,0,Y⟩=H (ZC M.rb):=Zr x5.2;unfold ZC at P C;by_cases c1:Zj n.Zn.p r.b
 .have bd:=P1.Zn;let⟨pv,cv,zQ⟩:=N1.pt.c.ZR;have zQ:a.c=J pv n.Zn.l.length cv:=zQ;have bd:rd g1 ⟨nb,4,Y⟩ 3=H [O D n.Zn.p.r,O D n.Zn.p.n,J pv n.Zn.l.length cv]:=by rw[<-zQ];exact bd
  have cP:Ta o g1 (J pv n.Zn.l.length cv) n.Zn.l:=by rw[<-zQ];exact N1.pt.c
  unfold Q0 at q0;have call:∀G,Zm g1.size g1 G->Zg aH T 100 #[ao #[O D n.Zn.p.r,O D n.Zn.p.n,J pv n.Zn.l.length cv],ao #[O D r.b.r,O D r.b.n]] G fun v' h'=>fR G.size h' v' n.Zn.p n.Zn.l r.b/\Zm G.size G h':=fun G hG=>
   Ol T G n.Zn.p _ n.Zn.l r.b (cP.ts.YQ hG) uh
  let⟨E,hE⟩:=ZO (YX n.Zn.p n.Zn.l r.b);have wA:∀(G:Hp) (k:Nat) (r m:Int) (p:Option Addr) (L c:Nat),G[k]? = H (Q [O D 0,O D 0,J Y 0 0].toArray 100)->wr G ⟨k,0,Y⟩ [O D r,O D m,J p L c]=H (an G k (Q [O D r,O D m,J p L c].toArray 100)):=fun G k r m p L c hx=>by
   rw[Yr hx 0 _];rfl
  have wB:∀(G:Hp) (k:Nat) (p:Option Addr) (L c:Nat),G[k]? = H (Q [J Y 0 0].toArray 98)->Uf G ⟨k,0,Y⟩ (J p L c)=H (an G k (Q [J p L c].toArray 98)):=fun G k p L c hx=>by
   rw[XZ hx 0 _];rfl
  simp only[go_sem,f35,c1];refine VS.mono (N:=fun F' g'=>Zm g1.size g1 g'/\F' 4=U (H ⟨h.size,0,Y⟩)/\F' 5=U (H ⟨h.size+1,0,Y⟩)/\sW g1.size g' (F' 6) (F' 7) n.Zn.p n.Zn.l r.b) ?_ ?_ (fun _ _ _ h=>h) (fun _ _ h=>h)
  .refine VS.z (g1.size) [8,15,16] (.q 0 (.p 1 (.p 2 (.q 3 (.q 4 (.p 5 (.p 6 (.q 7 (.or 8 (.p 9 (.p 10 (.p 11 (.p 12 (.or 13 (.s 14 (.w 15 (.w 16 (.p 17 .nil)))) (.s 14 (.s 13 (.w 15 (.w 16 (.p 17 .nil)))))))))) (.or 13 (.or 8 (.p 9 (.p 10 (.p 11 (.p 12 (.s 14 (.w 15 (.w 16 (.p 17 .nil)))))))) (.s 14 (.w 8 (.p 9 (.p 10 (.p 11 (.p 12 (.w 15 (.w 16 (.p 17 .nil)))))))))) (.s 14 (.or 8 (.p 9 (.p 10 (.p 11 (.p 12 (.s 13 (.w 15 (.w 16 (.p 17 .nil)))))))) (.s 13 (.w 8 (.p 9 (.p 10 (.p 11 (.p 12 (.w 15 (.w 16 (.p 17 .nil))))))))))))))))))))) mixed zI ?_;simp only[go_sem,l,f,P,C,bd,q0,UE,j2,l4,l5];unfold sW ZC XO
   repeat' (first|with_reducible exact Zm.refl _ _|with_reducible exact Zm.push uh _|with_reducible refine a7 ?_ ?_)
   all_goals first
    | (refine (call g1 (Zm.refl _ _)).use ?_
       rintro _ I ⟨⟨w1,w2,rfl,o1,o2⟩,b5⟩;obtain⟨p1,c1,rfl,_⟩:=o1.open;obtain⟨p2,c2,rfl,_⟩:=o2.open;rw[<-hE]at *;have s5:=b5.size;unfold XO;simp only[go_sem,b5];refine⟨⟨l,f,_,_,_,_,rfl,rfl,s5,uh,gl2 _ _ _,gr2 _ _ _,(o1.push _).push _,(o2.push _).push _⟩,⟨l,f,_,_,_,_,rfl,rfl,uh,s5,gr2 _ _ _,gl2 _ _ _,(o1.push _).push _,(o2.push _).push _⟩⟩)
    | (refine (call (g1.push (Q _ 100)) (Zm.push (ae _) _)).use ?_
       rintro _ I ⟨⟨w1,w2,rfl,o1,o2⟩,b5⟩;obtain⟨p1,c1,rfl,_⟩:=o1.open;obtain⟨p2,c2,rfl,_⟩:=o2.open;rw[<-hE]at *;have s5:=b5.size;rw[aX]at s5;have B5:Zm g1.size g1 I:=(Zm.push (ae _) _).trans (b5.mono zX);have xA:=b5.get (k:=g1.size) zX Zf;have OL:=wA _ _ (if E=0 then r.b else ⟨0,0⟩).r (if E=0 then r.b else ⟨0,0⟩).n p1 (if E=0 then n.Zn.l else []).length c1 xA;have zA:=Zb xA;unfold XO;simp only[go_sem,B5,OL,zA];exact⟨l,f,_,_,_,_,rfl,rfl,ae _,uh,by rw[ZX (by simpa using zA)];exact Yp xA,gs2 _ _ _ _,((o1.Ym zX _).push _).mono zX,((o2.Ym zX _).push _).mono zX⟩)
    | (refine (call (g1.push (Q _ 98)) (Zm.push (ae _) _)).use ?_
       rintro _ I ⟨⟨w1,w2,rfl,o1,o2⟩,b5⟩;obtain⟨p1,c1,rfl,_⟩:=o1.open;obtain⟨p2,c2,rfl,_⟩:=o2.open;rw[<-hE]at *;have s5:=b5.size;rw[aX]at s5;have B5:Zm g1.size g1 I:=(Zm.push (ae _) _).trans (b5.mono zX);have xB:=b5.get (k:=g1.size) zX Zf;have De:=wB _ _ p2 (if E=0 then n.Zn.l else []).length c2 xB;have zB:=Zb xB;unfold XO;simp only[go_sem,B5,De,zB];exact⟨l,f,_,_,_,_,rfl,rfl,uh,ae _,gs2 _ _ _ _,by rw[ZX (by simpa using zB)];exact Yp xB,((o1.Ym zX _).push _).mono zX,((o2.Ym zX _).push _).mono zX⟩)
    | (refine (call ((g1.push (Q _ 100)).push (Q _ 98)) ((Zm.push (ae _) _).Xj zX _)).use ?_
       rintro _ I ⟨⟨w1,w2,rfl,o1,o2⟩,b5⟩;obtain⟨p1,c1,rfl,_⟩:=o1.open;obtain⟨p2,c2,rfl,_⟩:=o2.open;rw[<-hE]at *;have s5:=b5.size;rw[aX,aX]at s5;have B5:Zm g1.size g1 I:=((Zm.push (ae _) _).Xj zX _).trans (b5.mono Fo);have xA:=b5.get (k:=g1.size) Fo (gl2 _ _ _);have xB:=b5.get (k:=g1.size+1) zX (gr2 _ _ _);have OL:=wA _ _ (if E=0 then r.b else ⟨0,0⟩).r (if E=0 then r.b else ⟨0,0⟩).n p1 (if E=0 then n.Zn.l else []).length c1 xA;have zA:=Zb xA;have Hg:=fun o:Obj=>(Xt (o:=o) (show g1.size≠g1.size+1 by omega)).trans xB;have De:=fun o:Obj=>wB _ _ p2 (if E=0 then n.Zn.l else []).length c2 (Hg o);have zB:g1.size+1<I.size:=Zb xB;unfold XO;simp only[go_sem,B5,OL,zA,De,zB];exact⟨l,f,_,_,_,_,rfl,rfl,uh,uh,(Xt uh).trans (Yp xA),Yp (Hg _),((o1.Ym Fo _).Ym zX _).mono Fo,((o2.Ym Fo _).Ym zX _).mono Fo⟩)
    | (refine (call ((g1.push (Q _ 98)).push (Q _ 100)) ((Zm.push (ae _) _).Xj zX _)).use ?_
       rintro _ I ⟨⟨w1,w2,rfl,o1,o2⟩,b5⟩;obtain⟨p1,c1,rfl,_⟩:=o1.open;obtain⟨p2,c2,rfl,_⟩:=o2.open;rw[<-hE]at *;have s5:=b5.size;rw[aX,aX]at s5;have B5:Zm g1.size g1 I:=((Zm.push (ae _) _).Xj zX _).trans (b5.mono Fo);have xB:=b5.get (k:=g1.size) Fo (gl2 _ _ _);have xA:=b5.get (k:=g1.size+1) zX (gr2 _ _ _);have OL:=wA _ _ (if E=0 then r.b else ⟨0,0⟩).r (if E=0 then r.b else ⟨0,0⟩).n p1 (if E=0 then n.Zn.l else []).length c1 xA;have zA:=Zb xA;have Hg:=fun o:Obj=>(Xt (o:=o) (show g1.size+1≠g1.size by omega)).trans xB;have De:=fun o:Obj=>wB _ _ p2 (if E=0 then n.Zn.l else []).length c2 (Hg o);have zB:g1.size<I.size:=Zb xB;unfold XO;simp only[go_sem,B5,OL,zA,De,zB];exact⟨l,f,_,_,_,_,rfl,rfl,uh,uh,(Xt uh).trans (Yp xA),Yp (Hg _),((o1.Ym zX _).Ym Fo _).mono Fo,((o2.Ym zX _).Ym Fo _).mono Fo⟩)
  rintro F2 u ⟨b2,l,f,ka,kc,w1,w2,fA,fC,cn,ck,yA,yC,o1,o2⟩;rw[<-hE]at yA o1 o2;obtain⟨A,hA⟩:∃A:QT,A=if E=0 then ⟨r.b,n.Zn.l⟩ else Qj:=⟨_,rfl⟩
  obtain⟨V,hV⟩:∃V:List Vt,V=if E=0 then n.Zn.l else []:=⟨_,rfl⟩
  have cc:(if E=0 then r.b else ⟨0,0⟩)=A.p:=by rw[hA];split<;>rfl
  have cg:(if E=0 then n.Zn.l else [])=A.l:=by rw[hA];split<;>rfl
  have c8:(if E=0 then n.Zn.l else [])=V:=hV.symm;rw[cc]at yA;rw[cg]at o1;rw[c8]at o2;have NH:=Z9 k1.YG b2;have N2:=N1.Zt NH;have W2:=W1.Zt NH;have K2:=k1.trans NH;have z4:=x4.Zh NH;have z5:=x5.Zh NH;have md:=tb1.Zh NH;have R2:X1 o i u M r:=N2.pt.Zc;let⟨u0,_,_,_,_⟩:=R2.rr;unfold Q0 at u0;have bN:Ta o u w2 V:=Im.Vp o2.Zn (fun b hb=>k1.YG b hb);have bR:Ta o u w1 A.l:=Im.Vp o1.Zn (fun b hb=>k1.YG b hb);have z6:Yo o u ka _:=⟨k1.YG ka cn,yA⟩
  have z7:Yo o u kc _:=⟨k1.YG kc ck,yC⟩
  have P2:=ZU N2.Yb.2 N2.pt.store.len;have m4:=Zb z4.2;have m5:=Zb z5.2;have mr:=Zb R2.Yb.2;have UP:=Zb N2.Yb.2;have s4:hc u ⟨h.size,0,Y⟩=H (ZC nb):=Zr z4.2;have s5:hc u ⟨h.size+1,0,Y⟩=H (ZC M.rb):=Zr z5.2;unfold ZC at s4 s5 fA fC;have bl:=P2.tape;let⟨pd,cd,PK⟩:=N2.pt.data.1.ZR;have PK:a.data=J pd (Z n.data) cd:=PK;have bl:rd u ⟨nb,2,Y⟩ 2=H [J pd (Z n.data) cd,O D n.XI]:=by rw[<-PK];exact bl
  have cO:Rb o u (J pd (Z n.data) cd) n.data:=by rw[<-PK];exact N2.pt.data
  let⟨E2,ca⟩:=ZO (JS n.data n.XI r.b);have call2:∀G,Zm u.size u G->Zg aH T 108 #[ao #[J pd (Z n.data) cd,O D n.XI],ao #[O D r.b.r,O D r.b.n]] G fun v' h'=>Oo G.size h' v' n.data n.XI E2 (Xm (QA r.b))/\Zm G.size G h':=fun G hG=>by
   rw[ca];exact Gi T G _ n.XI n.data r.b (cO.bs.YQ hG) uh (md.tk.QL hG)
  have wT:∀(G:Hp) (k:Nat) (m:Int) (p:Option Addr) (L c:Nat),G[k]? = H (Q [J Y 0 0,O D 0].toArray 95)->wr G ⟨k,0,Y⟩ [J p L c,O D m]=H (an G k (Q [J p L c,O D m].toArray 95)):=fun G k m p L c hx=>by
   rw[Yr hx 0 _];rfl
  refine VS.mono (N:=fun F' g'=>Zm u.size u g'/\F' 4=U (H ⟨h.size,0,Y⟩)/\F' 5=U (H ⟨h.size+1,0,Y⟩)/\F' 6=U (H ⟨ka,0,Y⟩)/\F' 7=U (H ⟨kc,0,Y⟩)/\F' 10=O D E2/\Aq u.size g' (F' 9) n.data n.XI E2 (Xm (QA r.b))) ?_ ?_ (fun _ _ _ h=>h) (fun _ _ h=>h)
  .refine VS.z (u.size) [8,13] (.q 0 (.p 1 (.p 2 (.q 3 (.q 4 (.p 5 (.p 6 (.q 7 (.or 8 (.p 9 (.p 10 (.p 11 (.s 12 (.w 13 (.p 14 .nil)))))) (.s 12 (.w 8 (.p 9 (.p 10 (.p 11 (.w 13 (.p 14 .nil)))))))))))))))) mixed zI ?_;simp only[go_sem,l,f,fA,fC,s4,s5,bl,u0,m4,m5,mr,UP];unfold Aq
   repeat' (first|with_reducible exact Zm.refl _ _|with_reducible exact Zm.push uh _|with_reducible refine a7 ?_ ?_)
   all_goals first
    | (refine (call2 u (Zm.refl _ _)).use ?_
       rintro _ I ⟨⟨w,rfl,o1⟩,b5⟩;obtain⟨p1,c1,rfl,_⟩:=o1.bs.open;have s5:=b5.size;simp only[go_sem,b5];exact⟨l,f,fA,fC,_,_,rfl,s5,Zf,o1.push _⟩)
    | (refine (call2 (u.push (Q _ 95)) (Zm.push (ae _) _)).use ?_
       rintro _ I ⟨⟨w,rfl,o1⟩,b5⟩;obtain⟨p1,c1,rfl,_⟩:=o1.bs.open;have B5:Zm u.size u I:=(Zm.push (ae _) _).trans (b5.mono zX);have xA:=b5.get (k:=u.size) zX Zf;have OL:=wT _ _ (if E2=0 then n.XI else 0) p1 (if E2=0 then n.data++Xm (QA r.b) else []).length c1 xA;have zA:=Zb xA;simp only[go_sem,B5,OL,zA];exact⟨l,f,fA,fC,_,_,rfl,ae _,Yp xA,(o1.Ym zX _).mono zX⟩)
  rintro F3 g3 ⟨b3,l,f,f6,f7,f10,kt,wt,fT,dj,yT,oT⟩;have Sx:=Z9 K2.YG b3;have N4:=N2.Zt Sx;have W4:=W2.Zt Sx;have K4:Kp WL o h o g3:=K2.YQ b3;by_cases e2:E2=0
  case neg=>
   have eP:Jc { n with Zc:=H r } r=⟨{ n with Zc:=H r },[],[]⟩:=by unfold Jc;rw[if_pos c1,if_pos zK]
   rw[eP,ak];simp only[go_sem,f10,e2];exact⟨o,_,XY,Ya K4,N4,W4⟩
  rw[if_pos e2]at yT oT;have u4:=z4.Zh Sx;have u5:=z5.Zh Sx;have u6:=z6.Zh Sx;have u7:=z7.Zh Sx;have bT:=bR.Zh Sx;have bS:=bN.Zh Sx;have iT:Rb o g3 wt (n.data++Xm (QA r.b)):=⟨Im.Vp oT.Zn (fun b hb=>K2.YG b hb),oT.byte⟩
  have eP:Jc { n with Zc:=H r } r=⟨{ n with Zc:=H r,data:=n.data++Xm (QA r.b),Zo:=H (.Zn A V true) },[],[]⟩:=by
   unfold Jc;rw[if_pos c1,if_neg zK,hA,hV,hE]
  rw[eP,ak];obtain⟨pt,ct,rfl,_⟩:=oT.bs.open;have v4:hc g3 ⟨h.size,0,Y⟩=H (ZC nb):=Zr u4.2;have vT:rd g3 ⟨kt,0,Y⟩ 2=H [J pt (n.data++Xm (QA r.b)).length ct,O D n.XI]:=ZB yT rfl;have Fl:=Zb N4.Yb.2;let⟨R,w4,N5,k5⟩:=Yx.write (a:={ a with Zc:=H M,data:=J pt (n.data++Xm (QA r.b)).length ct }) (n:={ n with Zc:=H r,data:=n.data++Xm (QA r.b) }) { N4.pt with data:=iT } K4.YG N4.Yb ((X4 N4.Yb.2 N4.pt.store.len).tape (J pt (n.data++Xm (QA r.b)).length ct) n.XI rfl);have bo:hc R ⟨h.size,0,Y⟩=H (ZC nb):=Zr (u4.Zh k5).2;have Ly:=Zb N5.Yb.2;have pn:VU o R wb i nb (H M) (SD 116 [ka,h.size,kc,h.size+1]) (H (.Zn A V true)):=
   ⟨ka,h.size,kc,h.size+1,w2,M.rb,rfl,⟨_,u6.Zh k5,bT.Zh k5⟩,u4.Zh k5,u7.Zh k5,bS.Zh k5,u5.Zh k5,zK⟩
  let⟨g6,w6,N6,k6⟩:=Yx.write (a:={ a with Zc:=H M,data:=J pt (n.data++Xm (QA r.b)).length ct,Zo:=SD 116 [ka,h.size,kc,h.size+1] }) (n:={ n with Zc:=H r,data:=n.data++Xm (QA r.b),Zo:=H (.Zn A V true) }) { N5.pt with Zo:=pn } k5.YG N5.Yb ((X4 N5.Yb.2 N5.pt.store.len).Zo (SD 116 [ka,h.size,kc,h.size+1]) rfl);unfold SD at w6;simp only[ba]at w6;unfold ZC at v4 bo w6;simp only[go_sem,f10,e2,l,f,f6,f7,fT,v4,vT,w4,Fl,bo,w6,Ly];have K6:Kp (J8 i) o h o g6:=((Ya K4).trans (k5.mono fun t q=>.inr (.inr (.inr (by rw[q];rfl))))).trans (k6.mono fun t q=>.inr (.inr (.inr (by rw[q];rfl))));exact⟨o,_,XY,K6,N6,(W4.Zh k5 HS).Zh k6 HS⟩
 by_cases c2:5<2*r.c.length
 case neg=>
  have eP:Jc { n with Zc:=H r } r=⟨{ n with Zc:=H r },Te n r,[]⟩:=by unfold Jc;rw[if_neg c1,if_pos c2];rfl
  rw[eP];have lm:=fun (K:aa->Hp->Prop) (cs:Array Bool) (ty:a5)=>Oh (T:=T) (K:=K) (ty:=ty) (cs:=cs) Gq R1.c.2;rw[R1.PG.length]at lm;simp only[go_sem,B,l,f,f35,c1,P,C,q2,lm];refine (FK T g1 r.c.length FZ).use ?_;rintro _ _ ⟨rfl,rfl⟩;simp only[go_sem,c2,B,l,f];obtain⟨pf,bp⟩:∃pf:Nat->List Yt,pf=fun (m:Nat)=>if YF r.c (m:Int)=Y then [⟨0,n.me,m,r.b,Ps,[]⟩] else []:=⟨_,rfl⟩
  have br:Te n r=(aV 5).flatMap pf:=by rw[bp];rfl
  have cr:∀m,(pf m).length<=1:=fun m=>by grind
  rw[br];clear P C q0 q2 q3 q4 q5 l4 l5 j2 UE P1 R1 lm br;refine VS.YC (fun F g=>F 0=U (H ⟨wb,0,Y⟩)/\F 4=U (H ⟨h.size,0,Y⟩)/\F 5=U (H ⟨h.size+1,0,Y⟩)/\∃(m:Nat) (o':Ow) (JY:WA),m<=5/\F 78=O D m/\Kp sJ o h o' g/\Yg o' g wb i nb { a with Zc:=H M } { n with Zc:=H r }/\Z0 o' g wb Y6 JY (fl++(aV m).flatMap pf) YP ZH/\Yo o' g h.size (Q [ZC nb].toArray 93)/\Yo o' g (h.size+1) (Q [ZC M.rb].toArray 101))
   (fun F _=>5-(vi (F 78)).toNat) rfl ⟨B,l,f,0,o,XY,uh,rfl,Ya k1,N1,zK,x4,x5⟩ ?_
  rintro F2 u ⟨B,l,f,m,o2,bh,hm,f78,K2,N2,W2,x4,x5⟩;by_cases Ye:m<5
  .have Yh:(m:Int)<5:=uh;have R2:X1 o2 i u M r:=N2.pt.Zc;let⟨q0,q2,q3,q4,q5⟩:=R2.rr;have P2:=ZU N2.Yb.2 N2.pt.store.len;have l4:=Zb x4.2;have l5:=Zb x5.2;have j2:=Zb R2.Yb.2;have UP:=Zb N2.Yb.2;have P:hc u ⟨h.size,0,Y⟩=H (ZC nb):=Zr x4.2;have C:hc u ⟨h.size+1,0,Y⟩=H (ZC M.rb):=Zr x5.2;unfold ZC at P C;unfold Q0 at q0;have lk:=fun (K:aa->Hp->Prop)=>XA (K:=K) (n:=(m:Int)) (c:=true) Gq ZcN R2.c.2;have b8:pf m=if YF r.c (m:Int)=Y then [⟨0,n.me,m,r.b,Ps,[]⟩] else []:=by rw[bp]
   rcases R2.PG.YF (m:Int) with⟨z1,z2⟩|⟨w,vs,z1,z2,iv⟩
   .rw[if_pos z2]at b8;simp only[z1,aI,am,↓reduceIte]at lk;simp only[go_sem,B,l,f,f78,Yh,C,q2,lk];refine VS.z (u.size) [8] (.p 0 (.q 1 (.p 2 (.q 3 (.p 4 (.p 5 (.q 6 (.p 7 (.w 8 .nil))))))))) mixed zI ?_;simp only[go_sem,B,l,f,f78,P,C,q0,l4,l5,j2];have rl:(fl++(aV m).flatMap pf).length<=1000000000000:=by
     have:=Sk pf 1 m cr;rw[a4];omega
    refine (TB T u o2 wb nb Y6 n.me bh _ YP ZH (m:Int) ⟨0,0,0,r.b,Ps,[]⟩ (J Y 0 0) K2.YG W2 P2.me UP (Im.nil _ _ _ _) rl).use ?_;rintro v' g3 ⟨o3,cN,k3,_,W3⟩;simp only[go_sem,f78];unfold Xz;refine⟨⟨B,l,f,m+1,o3,cN,Ye,rfl,K2.trans k3,N2.Zh k3 aab,by rw[Wk,b8,<-a0];exact W3,x4.Zh k3,x5.Zh k3⟩,?_⟩;simp only[vi,Zu,↓reduceIte,f78];omega
   .rw[if_neg (by rw[z2];simp)]at b8;obtain⟨pw,cw,rfl⟩:=iv.ZR;simp only[z1,aq,aw,↓reduceIte]at lk;simp only[go_sem,B,l,f,f78,Yh,C,q2,lk];unfold Xz;refine⟨⟨B,l,f,m+1,o2,bh,Ye,rfl,K2,N2,by rw[Wk,b8,ak];exact W2,x4,x5⟩,?_⟩;simp only[vi,Zu,↓reduceIte,f78];omega
  .have XX:¬(m:Int)<5:=uh;obtain rfl:m=5:=uh;simp only[go_sem,f78,XX];exact⟨o2,_,bh,K2.mono (fun t q=>by rcases q with rfl|rfl<;>simp[J8]),N2,W2⟩
 have lm:=fun (K:aa->Hp->Prop) (cs:Array Bool) (ty:a5)=>Oh (T:=T) (K:=K) (ty:=ty) (cs:=cs) Gq R1.c.2;rw[R1.PG.length]at lm;let⟨r1,LX⟩:=ZO (if r.a=true then r else Qs n r);have eP:Jc { n with Zc:=H r } r=⟨{ n with Zc:=H (XS n r1 n.ZD) },US n (XS n r1 n.ZD),[]⟩:=by
  unfold Jc;rw[if_neg c1,if_neg zK];have e1:Xs { n with Zc:=H r } r=XS n r1 n.ZD:=by
   unfold Xs;rw[LX,xQ (n:={ n with Zc:=H r }) (n':=n) rfl rfl,nW (n:={ n with Zc:=H r }) (n':=n) rfl rfl]
  rw[e1,Zdc (n:={ n with Zc:=H r }) (n':=n) rfl rfl]
 rw[eP];simp only[go_sem,B,l,f,f35,c1,P,C,q2,lm];refine (FK T g1 r.c.length FZ).use ?_;rintro _ g' ⟨rfl,CT⟩;rw[CT]
 cases cb:r.a
 all_goals
 first
 | (rw[cb,if_neg zX]at LX
    rw[cb]at q3;simp only[go_sem,c2,B,l,f,P,C,q3];refine (Zda T g1 o wb i nb a n M r k1.YG N1 hp hs hl).use ?_;rintro v' u ⟨b0,sI,kx,N3⟩;rw[<-LX]at N3;have bE:Kp (J8 i) o g1 o u:=kx.mono fun t q=>.inr (.inr (.inr (Hd q)));have W3:=W1.Zh kx (by intro t q;rw[Hd q];simp);have y4:=x4.Zh kx;have y5:=x5.Zh kx;have K3:Kp (J8 i) o h o u:=(Ya k1).trans bE)
 | (rw[cb,if_pos rfl]at LX
    rw[cb]at q3;simp only[go_sem,c2,B,l,f,P,C,q3];let⟨u,VJ⟩:=ZO (g1);let⟨b0,xH⟩:=ZO (M);have sI:b0.rb=M.rb:=by rw[xH]
    have N3:Yg o u wb i nb { a with Zc:=H b0 } { n with Zc:=H r1 }:=by rw[xH,LX,VJ];exact N1
    have W3:Z0 o u wb Y6 XY fl YP ZH:=by rw[VJ];exact W1
    have y4:Yo o u h.size (Q [ZC nb].toArray 93):=by rw[VJ];exact x4
    have y5:Yo o u (h.size+1) (Q [ZC M.rb].toArray 101):=by rw[VJ];exact x5
    have K3:Kp (J8 i) o h o u:=by rw[VJ];exact Ya k1
    rw[<-VJ])
 all_goals
  clear P C q0 q2 q3 q4 q5 l4 l5 j2 UE P1 R1 lm;have P3:=ZU N3.Yb.2 N3.pt.store.len;let⟨pq,cq,b7,_⟩:=Xk.ZR N3.pt.ZD;have b7:a.ZD=J pq n.ZD.length cq:=b7;have bw:hc u ⟨nb,52,Y⟩=H (J pq n.ZD.length cq):=by rw[<-b7];exact P3.ZD
  have P:hc u ⟨h.size,0,Y⟩=H (ZC nb):=Zr y4.2;have C:hc u ⟨h.size+1,0,Y⟩=H (ZC M.rb):=Zr y5.2;unfold ZC at P C;simp only[go_sem,B,l,f,P,C,bw];clear P C bw P3;refine VS.YC (fun F g=>F 0=U (H ⟨wb,0,Y⟩)/\F 4=U (H ⟨h.size,0,Y⟩)/\F 5=U (H ⟨h.size+1,0,Y⟩)/\F 113=J pq n.ZD.length cq/\F 114=O D n.ZD.length/\∃(j:Nat) (ra':RA),j<=n.ZD.length/\F 115=O D j/\Kp (J8 i) o h o g/\ra'.rb=M.rb/\Yg o g wb i nb { a with Zc:=H ra' } { n with Zc:=H (XS n r1 (n.ZD.take j)) }/\Z0 o g wb Y6 XY fl YP ZH/\Yo o g h.size (Q [ZC nb].toArray 93)/\Yo o g (h.size+1) (Q [ZC M.rb].toArray 101))
   (fun F _=>n.ZD.length-(vi (F 115)).toNat) rfl ⟨B,l,f,rfl,rfl,0,b0,uh,rfl,K3,sI,N3,W3,y4,y5⟩ ?_
  clear B l f y4 y5 K3 N3 W3 sI;rintro F3 g3 ⟨B,l,f,f113,f114,j,ra',hj,f115,K3,sI,N3,W3,y4,y5⟩;let⟨rj,b6⟩:=ZO (XS n r1 (n.ZD.take j));rw[<-b6]at N3;have P:hc g3 ⟨h.size,0,Y⟩=H (ZC nb):=Zr y4.2;have C:hc g3 ⟨h.size+1,0,Y⟩=H (ZC M.rb):=Zr y5.2;unfold ZC at P C;have l4:=Zb y4.2;have l5:=Zb y5.2;by_cases Ye:j<n.ZD.length
  .have Yh:(j:Int)<n.ZD.length:=uh;let⟨pz,cz,jY,vX⟩:=UD N3.pt.ZD.ts;let⟨bb,oo,bW,Sb,Ik⟩:=vX (by intro e;have:n.ZD=[]:=e;rw[this]at Ye;simp at Ye);have jY:a.ZD=J pz n.ZD.length cz:=jY;rw[b7]at jY;simp only[Value.slice.injEq]at jY;obtain⟨rfl,_,rfl⟩:=jY;subst bW;have re:rd g3 ⟨bb,oo+j*5,Y⟩ 5=H (n.ZD[j]).C:=Ik j Ye;let⟨x,hx⟩:=ZO (n.ZD[j]);rw[<-hx]at re;have Jy:XS n r1 (n.ZD.take (j+1))=Qk n rj x:=by
    rw[Xg _ j Ye,<-hx,b6];unfold XS;rw[a8];rfl
   let⟨R,Hf⟩:=ZO (g3.push (Q (aF x.C) 43):Hp);have k4:Kp WL o g3 o R:=by rw[Hf];exact YK K3.YG _
   have bn:Yo o R g3.size (Q (aF x.C) 43):=⟨K3.YG _ (ae _),by rw[Hf];exact Zf⟩
   have e4:=Hf.symm;have N4:=N3.Zt k4;have R4:X1 o i R ra' rj:=N4.pt.Zc;have z4:=y4.Zh k4;have z5:=y5.Zh k4;have s4:hc R ⟨h.size,0,Y⟩=H (ZC nb):=Zr z4.2;have s5:hc R ⟨h.size+1,0,Y⟩=H (ZC ra'.rb):=by rw[sI];exact Zr z5.2
   have sx:rd R ⟨g3.size,0,Y⟩ 5=H x.C:=ZB bn.2 rfl;have cf:=Zhg T R o wb i nb { a with Zc:=H ra' } { n with Zc:=H rj } ra' rj x k4.YG N4 R4 hl;rw[show Tm { n with Zc:=H rj } rj x=Tm n rj x from by unfold Tm;rw[bX (n:={ n with Zc:=H rj }) (n':=n) rfl rfl],bX (n:={ n with Zc:=H rj }) (n':=n) rfl rfl]at cf;unfold Rc ZC at cf;unfold ZC at s4 s5;simp only[go_sem,B,l,f,f113,f114,f115,Yh,re,e4,s4,s5,sx];refine cf.use ?_;rintro _ I ⟨rfl,b5⟩;have k5:=Z9 k4.YG b5;have K5:Kp (J8 i) o h o I:=(K3.trans (Ya k4)).trans (Ya k5);have N5:=N4.Zt k5;have R5:X1 o i I ra' rj:=N5.pt.Zc;have W5:=(W3.Zt k4).Zt k5;have u4:=z4.Zh k5;have u5:=z5.Zh k5;have ux:=bn.Zh k5
   cases hf:free n rj x with
   | none=>
    have e1:Qk n rj x=rj:=by unfold Qk;rw[hf]
    simp only[go_sem,am,f115];unfold Xz;refine⟨⟨B,l,f,f113,f114,j+1,ra',Ye,rfl,K5,sI,by rw[Jy,e1];exact N5,W5,u4,u5⟩,?_⟩;simp only[vi,Zu,↓reduceIte,f115];omega
   | some sl=>
    have e1:Qk n rj x = { rj with ZQ:=ins rj.ZQ (sl:Int) x }:=by unfold Qk;rw[hf]
    have e2:Tm n rj x=sl:=by unfold Tm;rw[hf]
    rw[e2];simp only[go_sem,aw];have t5:hc I ⟨h.size+1,0,Y⟩=H (ZC ra'.rb):=by rw[sI];exact Zr u5.2
    unfold ZC at t5;have tx:rd I ⟨g3.size,0,Y⟩ 5=H x.C:=ZB ux.2 rfl;let⟨_,_,_,t4,_⟩:=R5.rr;have m5:=Zb u5.2;have mr:=Zb R5.Yb.2;have mx:=Zb ux.2;refine VS.z (I.size) [6] (.q 0 (.p 1 (.p 2 (.q 3 (.p 4 (.q 5 (.w 6 .nil))))))) mixed zI ?_;simp only[go_sem,f,t5,t4,tx,m5,mr,mx];rw[Qy PD R5.ZQ.2];let⟨k6,R6⟩:=R5.sY K5.YG (k:=(sl:Int)) (x:=x);have bK:Kp (Ql i) o I o _:=k6.mono fun t q=>.inr (.inr (.inl q));have bG:Kp (J8 i) o I o _:=k6.mono fun t q=>.inr (.inr (.inr (by rw[q];rfl)));simp only[go_sem,f115];unfold Xz;refine⟨⟨B,l,f,f113,f114,j+1,ra',Ye,rfl,K5.trans bG,sI,?_,W5.Zh k6 HS,u4.Zh k6,u5.Zh k6⟩,?_⟩
    .rw[Jy,e1];exact⟨N5.Yb.Zh k6 (by intro e;cases e),Yx.Wy N5.pt bK rfl rfl R6⟩
    .simp only[vi,Zu,↓reduceIte,f115];omega
  .have XX:¬(j:Int)<n.ZD.length:=uh;obtain rfl:j=n.ZD.length:=uh;rw[a9]at b6;simp only[go_sem,f114,f115,XX];rw[<-b6];let⟨r2,c0⟩:=ZO (rj);rw[<-c0]at N3 ⊢;have bq:∀s x m,(SC n r2 s x m).length<=1:=fun s x m=>by unfold SC;split<;>simp
   have cu:∀s,(Wc n r2 s).length<=5:=fun s=>by
    unfold Wc;split
    .split
     .exact Sk _ 1 5 (bq s _)
     .simp
    .simp
   clear P C l4 l5;refine VS.YC (fun F g=>F 0=U (H ⟨wb,0,Y⟩)/\F 4=U (H ⟨h.size,0,Y⟩)/\F 5=U (H ⟨h.size+1,0,Y⟩)/\∃(s:Nat) (o':Ow) (JY:WA),s<=40/\F 134=O D s/\Kp (J8 i) o h o' g/\Yg o' g wb i nb { a with Zc:=H ra' } { n with Zc:=H r2 }/\Z0 o' g wb Y6 JY (fl++(aV s).flatMap (Wc n r2)) YP ZH/\Yo o' g h.size (Q [ZC nb].toArray 93)/\Yo o' g (h.size+1) (Q [ZC M.rb].toArray 101))
    (fun F _=>40-(vi (F 134)).toNat) rfl ⟨B,l,f,0,o,XY,uh,rfl,K3,N3,by simpa using W3,y4,y5⟩ ?_
   clear B l f y4 y5 K3 N3 W3;rintro F4 R ⟨B,l,f,s,o4,sZ,cT,f134,K4,N4,W4,y4,y5⟩;by_cases vJ:s<40
   case neg=>
    have cx:¬(s:Int)<40:=uh;obtain rfl:s=40:=uh;simp only[go_sem,f134,cx];exact⟨o4,_,sZ,K4,N4,W4⟩
   have BM:(s:Int)<40:=uh;have R4:X1 o4 i R ra' r2:=N4.pt.Zc;let⟨_,_,_,t4,t5⟩:=R4.rr;have P4:=ZU N4.Yb.2 N4.pt.store.len;have P:hc R ⟨h.size,0,Y⟩=H (ZC nb):=Zr y4.2;have C:hc R ⟨h.size+1,0,Y⟩=H (ZC ra'.rb):=by rw[sI];exact Zr y5.2
   unfold ZC at P C;have l4:=Zb y4.2;have l5:=Zb y5.2;have n4:¬h.size=R.size:=uh;have n5:¬h.size+1=R.size:=uh;have a2:¬nb=R.size:=by have:=Zb N4.Yb.2;omega
   have As:=fun (K:aa->Hp->Prop)=>XA (K:=K) (n:=(s:Int)) (c:=true) PD If R4.ZQ.2;rw[JN]at As;have RL:=fun (K:aa->Hp->Prop) (z:Obj)=>XA (h:=R.push z) (K:=K) (n:=(s:Int)) (c:=true) PD If ((ZX (Zb N4.pt.Zi.2)).trans N4.pt.Zi.2);simp only[JN,show ({ n with Zc:=H r2 }:Nd).Zi=n.Zi from rfl]at RL;have a1:∀x y:Obj,Kp WL o4 R o4 ((R.push x).push y):=fun x y=>(YK K4.YG _).push _;have skip:∀(x y:Obj),Wc n r2 s=[]->Yg o4 ((R.push x).push y) wb i nb { a with Zc:=H ra' } { n with Zc:=H r2 }/\Z0 o4 ((R.push x).push y) wb Y6 sZ (fl++(aV (s+1)).flatMap (Wc n r2)) YP ZH/\Yo o4 ((R.push x).push y) h.size (Q [ZC nb].toArray 93)/\Yo o4 ((R.push x).push y) (h.size+1) (Q [ZC M.rb].toArray 101):=fun x y hz=>
    ⟨N4.Zt (a1 x y),by rw[Wk,hz,ak];exact W4.Zt (a1 x y),y4.Zh (a1 x y),y5.Zh (a1 x y)⟩
   cases c3:YF r2.ZQ (s:Int) with
   | none=>
    have hz:Wc n r2 s=[]:=by unfold Wc;rw[c3]
    simp only[c3,aS,aI,am,↓reduceIte]at As
    cases c4:YF n.Zi (s:Int) with
    | none=>
     simp only[c4,aS,aI,am,↓reduceIte]at RL;simp only[go_sem,B,l,f,f134,BM,C,t4,P,n4,n5,a2,As,RL,P4.Zi];unfold Xz;refine⟨⟨B,l,f,s+1,o4,sZ,vJ,rfl,K4.trans (Ya (a1 _ _)),skip _ _ hz⟩,?_⟩;simp only[vi,Zu,↓reduceIte,f134];omega
    | some y=>
     simp only[c4,aC,aq,aw,↓reduceIte]at RL;simp only[go_sem,B,l,f,f134,BM,C,t4,P,n4,n5,a2,As,RL,P4.Zi,Rc];unfold Xz;refine⟨⟨B,l,f,s+1,o4,sZ,vJ,rfl,K4.trans (Ya (a1 _ _)),skip _ _ hz⟩,?_⟩;simp only[vi,Zu,↓reduceIte,f134];omega
   | some x=>
    simp only[c3,aC,aq,aw,↓reduceIte]at As
    cases c4:YF n.Zi (s:Int) with
    | some y=>
     have hz:Wc n r2 s=[]:=by unfold Wc;rw[c3];simp only;rw[if_neg (by rw[c4];simp)]
     simp only[c4,aC,aq,aw,↓reduceIte]at RL;simp only[go_sem,B,l,f,f134,BM,C,t4,P,n4,n5,a2,As,RL,P4.Zi,Rc];unfold Xz;refine⟨⟨B,l,f,s+1,o4,sZ,vJ,rfl,K4.trans (Ya (a1 _ _)),skip _ _ hz⟩,?_⟩;simp only[vi,Zu,↓reduceIte,f134];omega
    | none=>
     have hz:Wc n r2 s=(aV 5).flatMap (SC n r2 s x):=by unfold Wc;rw[c3];simp only;rw[if_pos c4]
     simp only[c4,aS,aI,am,↓reduceIte]at RL;simp only[go_sem,B,l,f,f134,BM,C,t4,P,n4,n5,a2,As,RL,P4.Zi,Rc];let⟨fs,b9⟩:=ZO (fl++(aV s).flatMap (Wc n r2));have dm:(Z fs)<=900000001000:=by
      have:=Sk (Wc n r2) 5 s cu;rw[b9,a4];omega
     have c5:fl++(aV (s+1)).flatMap (Wc n r2)=fs++(aV 5).flatMap (SC n r2 s x):=by rw[Wk,hz,<-a0,<-b9]
     rw[<-b9]at W4;have kz:=a1 (Q (aF x.C) 43) (Q (aF Ag.C) 43);have xb:Yo o4 ((R.push (Q (aF x.C) 43)).push (Q (aF Ag.C) 43)) R.size (Q (aF x.C) 43):=⟨K4.YG _ (ae _),gl2 _ _ _⟩
     refine VS.YC (fun F g=>F 0=U (H ⟨wb,0,Y⟩)/\F 4=U (H ⟨h.size,0,Y⟩)/\F 5=U (H ⟨h.size+1,0,Y⟩)/\F 134=O D s/\F 18=O D s/\F 19=U (H ⟨R.size,0,Y⟩)/\∃(m:Nat) (o':Ow) (JY:WA),m<=5/\F 160=O D m/\Kp (J8 i) o h o' g/\Yg o' g wb i nb { a with Zc:=H ra' } { n with Zc:=H r2 }/\Z0 o' g wb Y6 JY (fs++(aV m).flatMap (SC n r2 s x)) YP ZH/\Yo o' g h.size (Q [ZC nb].toArray 93)/\Yo o' g (h.size+1) (Q [ZC M.rb].toArray 101)/\Yo o' g R.size (Q (aF x.C) 43))
      (fun F _=>5-(vi (F 160)).toNat) rfl ⟨B,l,f,f134,rfl,rfl,0,o4,sZ,uh,rfl,K4.trans (Ya kz),N4.Zt kz,by simpa using W4.Zt kz,y4.Zh kz,y5.Zh kz,xb⟩ ?_
     clear B l f f134 y4 y5 P C t4 t5 P4 As RL skip a1 kz xb l4 l5 n4 n5 a2 R4;rintro F5 I ⟨B,l,f,f134,f18,f19,m,o5,bf,hm,f160,K5,N5,W5,y4,y5,xb⟩;by_cases zN:m<5
     case neg=>
      have c7:¬(m:Int)<5:=uh;obtain rfl:m=5:=uh;simp only[go_sem,f160,c7,f134];unfold Xz;refine⟨⟨B,l,f,s+1,o5,bf,vJ,rfl,K5,N5,by rw[c5];exact W5,y4,y5⟩,?_⟩;simp only[vi,Zu,↓reduceIte,f134];omega
     have bt:(m:Int)<5:=uh;have R5:X1 o5 i I ra' r2:=N5.pt.Zc;let⟨v0,_,_,_,v5⟩:=R5.rr;unfold Q0 at v0;have C:hc I ⟨h.size+1,0,Y⟩=H (ZC ra'.rb):=by rw[sI];exact Zr y5.2
     unfold ZC at C;have ax:=fun (K:aa->Hp->Prop)=>XA (K:=K) (n:=(s:Int)) (c:=false) E7 Ai R5.Xc.2;rw[JN]at ax;simp only[aL,if_false]at ax;let⟨g6,LY⟩:=ZO (I.push (Q [].toArray 199):Hp);have e6:=LY.symm;have k6:Kp WL o5 I o5 g6:=by rw[LY];exact YK K5.YG _
     have w6:wr g6 ⟨I.size,0,Y⟩ []=H g6:=by
      have hx:g6[I.size]? = H (Q [].toArray 199):=by rw[LY];exact Zf
      rw[Yr hx 0 [],if_pos ⟨zX,rfl⟩]
      congr 1
      exact EF hx
     have N6:=N5.Zt k6;have W6:=W5.Zt k6;have z4:=y4.Zh k6;have z5:=y5.Zh k6;have zx:=xb.Zh k6;have K6:Kp (J8 i) o h o5 g6:=K5.trans (Ya k6);have P6:=ZU N6.Yb.2 N6.pt.store.len;have R6:X1 o5 i g6 ra' r2:=N6.pt.Zc;let⟨u0,_,_,_,_⟩:=R6.rr;unfold Q0 at u0;have s4:hc g6 ⟨h.size,0,Y⟩=H (ZC nb):=Zr z4.2;have s5:hc g6 ⟨h.size+1,0,Y⟩=H (ZC ra'.rb):=by rw[sI];exact Zr z5.2
     unfold ZC at s4 s5;have sx:rd g6 ⟨R.size,0,Y⟩ 5=H [O D x.k,O D x.c,O D x.s,O D x.n,O D x.v]:=ZB zx.2 rfl;have m4:=Zb z4.2;have m5:=Zb z5.2;have mx:=Zb zx.2;have mr:=Zb R6.Yb.2;have cA:=Zb N6.Yb.2;let⟨S,hS⟩:=ZO ((YF r2.Xc (s:Int)).getD []);have Vo:SC n r2 s x m=if YF S (m:Int)=Y then [⟨2,n.me,m,Y2,Qb s r2.b x,[]⟩] else []:=by unfold SC;rw[hS]
     obtain⟨mv,c6,b4⟩:∃mv,(Option.map mpV (YF ra'.sv (s:Int))).getD (.map Y)=mv/\∀K:aa->Hp->Prop,HN aH 198 mv (O D (m:Int)) true K I=K (.tuple #[ao #[],aW (YF S (m:Int)).isSome]) I:=by
      rcases R5.f.YF (s:Int) with⟨z1,z2⟩|⟨sb,S',z1,z2,bY⟩
      .refine⟨.map Y,by rw[z1];rfl,fun K=>?_⟩;rw[aK Ah Zjd,hS,z2];rfl
      .refine⟨.map (H sb),by rw[z1];rfl,fun K=>?_⟩;have:=XA (K:=K) (n:=(m:Int)) (c:=true) Ah Zjd bY.2;have c9:S=S':=by rw[hS,z2];rfl
       rw[this];unfold Fk;rw[JN,<-c9]
       cases YF S (m:Int)<;>rfl
     rw[c6]at ax
     cases cS:YF S (m:Int) with
     | some uu=>
      rw[if_neg (by rw[cS];simp)]at Vo;simp only[cS,aw]at b4;simp only[go_sem,B,l,f,f18,f19,f160,bt,C,v5,ax,b4,e6,w6];unfold Xz;refine⟨⟨B,l,f,f134,f18,f19,m+1,o5,bf,zN,rfl,K6,N6,by rw[Wk,Vo,ak];exact W6,z4,z5,zx⟩,?_⟩;simp only[vi,Zu,↓reduceIte,f160];omega
     | none=>
      rw[if_pos cS]at Vo;simp only[cS,am]at b4;simp only[go_sem,B,l,f,f18,f19,f160,bt,C,v5,ax,b4,e6,w6];refine VS.z (g6.size) [11] (.p 0 (.q 1 (.p 2 (.p 3 (.q 4 (.p 5 (.p 6 (.q 7 (.q 8 (.p 9 (.p 10 (.w 11 .nil)))))))))))) mixed zI ?_;simp only[go_sem,B,l,f,f18,f19,f160,s4,s5,u0,sx,m4,m5,mx,mr];have rl:(fs++(aV m).flatMap (SC n r2 s x)).length<=1000000000000:=by
       have:=Sk (SC n r2 s x) 1 m (bq s x);rw[a4];omega
      refine (TB T g6 o5 wb nb Y6 n.me bf _ YP ZH (m:Int) ⟨2,0,0,Y2,Qb s r2.b x,[]⟩ (J Y 0 0) K6.YG W6 P6.me cA (Im.nil _ _ _ _) rl).use ?_;rintro v' g7 ⟨o7,cB,k7,_,W7⟩;simp only[go_sem,f160];unfold Xz;refine⟨⟨B,l,f,f134,f18,f19,m+1,o7,cB,zN,rfl,K6.trans (k7.mono fun t q=>by rcases q with rfl|rfl<;>simp[J8]),N6.Zh k7 aab,by rw[Wk,Vo,<-a0];exact W7,z4.Zh k7,z5.Zh k7,zx.Zh k7⟩,?_⟩;simp only[vi,Zu,↓reduceIte,f160];omega
end Go.Proofs.YtkhkmpfenaipaaaGreatDoor
