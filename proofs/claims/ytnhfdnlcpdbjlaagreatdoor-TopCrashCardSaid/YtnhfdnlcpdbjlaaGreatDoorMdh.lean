/- Part Mdh. -/
import Derived.Test.YtnhfdnlcpdbjlaaGreatDoorMoy
open Go.Value renaming int→Q,slice→U,pointer→al,bool→aX,agg→ba
open Go.IntKind renaming i64→O
open Go.Obj renaming cells→ak
open Go.Proofs.Tryz renaming prog→bd
open List renaming length→au,length_append→aI,append_nil→aU,append_assoc→a5,length_map→a6,range→a7,eraseIdx_eq_take_drop_succ→bc,getElem?_eq_getElem→bl,getElem_map→bn,getElem_mem→bz,length_cons→bA,map_append→bD,nil_append→bG,map→bR
open Nat renaming le_refl→aF,add_sub_cancel_left→bf
open Option renaming isSome_none→a8,isSome_some→a9,getD_none→bg,getD_some→bh,map_none→bo,map_some→bp,some→aa,none→an
open Array renaming size_push→aK
open And renaming intro→bS
open Go renaming Value→a0,World→bk
namespace Go.Proofs.YtnhfdnlcpdbjlaaGreatDoor
open Go Go.V
set_option linter.all false
set_option maxRecDepth 100000
variable{h:Hp}{o:Ow}{wb:Nat}
theorem Uu{α:Type}(f:Nat->List α)(m:Nat):(a7 (m+1)).flatMap f=(a7 m).flatMap f++f m:=by
 rw[List.range_succ,List.flatMap_append];simp
theorem Tc{α:Type}(f:Nat->List α)(k m:Nat)(h:∀i,(f i).length<=k):((a7 m).flatMap f).length<=m*k:=by
 induction m with
 | zero=>simp
 | succ m ih=>rw[Uu,aI,Nat.add_mul];have:=h m;omega
theorem qn{n n':Nd}(hk:n.Zi=n'.Zi)(r:XM)(x:Cm):∀k s,JZ n r x k s=JZ n' r x k s:=by
 intro k
 induction k with
 | zero=>intro s;rfl
 | succ k ih=>intro s;unfold JZ;rw[hk,ih]
theorem C6{n n':Nd}(hk:n.Zi=n'.Zi)(hl:n.ZI=n'.ZI)(r:XM)(x:Cm):free n r x=free n' r x:=by
 unfold free;rw[hl,qn hk]
theorem za{n n':Nd}(hk:n.Zi=n'.Zi)(hl:n.ZI=n'.ZI)(r:XM)(x:Cm):QT n r x=QT n' r x:=by
 unfold QT;rw[C6 hk hl]
theorem je{n n':Nd}(hk:n.Zi=n'.Zi)(hl:n.ZI=n'.ZI):∀(l:List Cm) (r:XM),Jp n r l=Jp n' r l:=by
 intro l
 induction l with
 | nil=>intro r;rfl
 | cons x l ih=>intro r;show Jp n (QT n r x) l=Jp n' (QT n' r x) l;rw[za hk hl,ih]
theorem qo{n n':Nd}(hk:n.Zi=n'.Zi)(LL:List (List Vt)):JO n LL=JO n' LL:=by
 funext pr s;unfold JO;rw[hk]
theorem qp{n n':Nd}(hk:n.Zi=n'.Zi)(hl:n.ZI=n'.ZI)(r:XM):Wp n r=Wp n' r:=by
 unfold Wp;rw[hl,qo hk]
theorem Zda{n n':Nd}(hk:n.Zi=n'.Zi)(hm:n.me=n'.me)(r:XM):UM n r=UM n' r:=by
 funext s;unfold UM S7;rw[hk,hm]
theorem zb{n n':Nd}(hk:n.Zi=n'.Zi)(hm:n.me=n'.me)(r:XM):U8 n r=U8 n' r:=by
 unfold U8;rw[Zda hk hm]
set_option maxHeartbeats 4000000 in
theorem Zdb(T:bk)(h:Hp)(o:Ow)(wb i nb:Nat)(YK:Nat->Nat)(a:NA)(n:Nd)(ra:RA)(r:XM)(Xu:WA)(fl:List Yn)(YA:Nat->Int)(ZG:List OS)(d:WY o h)(N:Z6 o h wb i nb { a with Zh:=aa ra } { n with Zh:=aa r })(W:Z0 o h wb YK Xu fl YA ZG)(tb:dS o h)(Xa:(au fl)<=900000000000)(yi:n.Zr.l.length<=1000000)(td:(au n.data)<=1000000)(hp:∀x∈r.ZL,x.2.length<=1000000)(hs:∀x∈r.ZL,∀v∈x.2,v.Zs<=1000000)(HD:r.ZL.length<=1000000000000)(hl:n.ZI.length<=1000000000000)(hq:n.ZB.length<=1000000000000):
  Zg bd T 75 #[Zz wb,Zz nb,Zz ra.rb] h fun v' h'=>∃o' a' Js,Kp (JH i) o h o' h'/\Z6 o' h' wb i nb a' (Jf { n with Zh:=aa r } r).n/\Z0 o' h' wb YK Js (fl++(Jf { n with Zh:=aa r } r).ls) YA ZG:=by
 refine Zg.XK [_,_,_] Tryz.func75 ?_;obtain⟨h1,Xp⟩:=ZP ((h.push (ak [Zz nb].toArray 59)).push (ak [Zz ra.rb].toArray 67):Hp);have k1:Kp UN o h o h1:=by rw[Xp];exact ((Kp.refl d _).push _).push _
 have x4:Z9 o h1 h.size (ak [Zz nb].toArray 59):=⟨d _ (aF _),by rw[Xp];exact qf _ _ _⟩
 have x5:Z9 o h1 (h.size+1) (ak [Zz ra.rb].toArray 67):=⟨d _ mD,by rw[Xp];exact tE _ _ _⟩
 have e0:=Xp.symm;unfold Zz at e0 ⊢;have N1:=N.Zo k1;have W1:=W.Zo k1;have R1:XA o i h1 ra r:=N1.pt.Zh;obtain⟨q0,q2,q3,q4,q5⟩:=R1.rr;have P1:=ZS N1.ZZ.2 N1.pt.store.len;have l4:=Za x4.2;have l5:=Za x5.2;have dV:=Za R1.ZZ.2;have QV:=Za N1.ZZ.2;have r4:hc h1 ⟨h.size,0,an⟩=aa (Zz nb):=Zn x4.2;have r5:hc h1 ⟨h.size+1,0,an⟩=aa (Zz ra.rb):=Zn x5.2;unfold Zz at r4 r5;have P1p:rd h1 ⟨nb,4,an⟩ 2=aa (Qu n.Zr.p):=P1.bj;simp only[go_sem,e0];refine VS.mono (N:=fun F' g'=>Zk h1.size h1 g'/\F' 0=al (aa ⟨wb,0,an⟩)/\F' 4=al (aa ⟨h.size,0,an⟩)/\F' 5=al (aa ⟨h.size+1,0,an⟩)/\F' 35=aX (decide (Zw n.Zr.p r.b))) ?_ ?_ (fun _ _ _ h=>h) (fun _ _ h=>h)
 .refine VS.z (h1.size) [9] (.q 0 (.p 1 (.p 2 (.q 3 (.q 4 (.p 5 (.p 6 (.p 7 (.q 8 (.w 9 .nil)))))))))) mixed sV ?_;simp only[go_sem,r4,r5,q0,P1p,l4,l5,dV,QV];refine (Ls T h1 r.b n.Zr.p).use ?_;rintro _ g ⟨rfl,b⟩;simp only[go_sem,b]
 rintro F1 g1 ⟨b1,f0,f4,f5,f35⟩;have kb:=ZU k1.Yt b1
 replace N1:=N1.Zo kb
 replace W1:=W1.Zo kb
 replace k1:=k1.trans kb
 replace x4:=x4.keep kb
 replace x5:=x5.keep kb
 have tb1:=tb.keep k1;clear R1 q0 q2 q3 q4 q5 P1 P1p l4 l5 dV QV r4 r5 e0;have R1:XA o i g1 ra r:=N1.pt.Zh;obtain⟨q0,q2,q3,q4,q5⟩:=R1.rr;have P1:=ZS N1.ZZ.2 N1.pt.store.len;have l4:=Za x4.2;have l5:=Za x5.2;have dV:=Za R1.ZZ.2;have QV:=Za N1.ZZ.2;have r4:hc g1 ⟨h.size,0,an⟩=aa (Zz nb):=Zn x4.2;have r5:hc g1 ⟨h.size+1,0,an⟩=aa (Zz ra.rb):=Zn x5.2;unfold Zz at r4 r5;by_cases c1:Zw n.Zr.p r.b
 .have zc:=P1.Zr;obtain⟨pv,cv,tF⟩:=N1.pt.XO.ZN;have tF:a.XO=U pv n.Zr.l.length cv:=tF;have zc:rd g1 ⟨nb,4,an⟩ 3=aa [Q O n.Zr.p.r,Q O n.Zr.p.n,U pv n.Zr.l.length cv]:=by rw[<-tF];exact zc
  have N1v:Tw o g1 (U pv n.Zr.l.length cv) n.Zr.l:=by rw[<-tF];exact N1.pt.XO
  unfold Qu at q0;have call:∀G,Zk g1.size g1 G->Zg bd T 78 #[ba #[Q O n.Zr.p.r,Q O n.Zr.p.n,U pv n.Zr.l.length cv],ba #[Q O r.b.r,Q O r.b.n]] G fun v' h'=>AZ G.size h' v' n.Zr.p n.Zr.l r.b/\Zk G.size G h':=fun G hG=>
   RF T G n.Zr.p _ n.Zr.l r.b (N1v.ts.YJ hG) mD
  obtain⟨E,hE⟩:=ZP (YF n.Zr.p n.Zr.l r.b);have wA:∀(G:Hp) (k:Nat) (r m:Int) (p:Option Addr) (L c:Nat),G[k]? = aa (ak [Q O 0,Q O 0,U an 0 0].toArray 66)->wr G ⟨k,0,an⟩ [Q O r,Q O m,U p L c]=aa (G.setIfInBounds k (ak [Q O r,Q O m,U p L c].toArray 66)):=fun G k r m p L c hx=>by
   rw[Yh hx 0 _];rfl
  have wB:∀(G:Hp) (k:Nat) (p:Option Addr) (L c:Nat),G[k]? = aa (ak [U an 0 0].toArray 64)->QF G ⟨k,0,an⟩ (U p L c)=aa (G.setIfInBounds k (ak [U p L c].toArray 64)):=fun G k p L c hx=>by
   rw[Xk hx 0 _];rfl
  simp only[go_sem,f35,c1];refine VS.mono (N:=fun F' g'=>Zk g1.size g1 g'/\F' 4=al (aa ⟨h.size,0,an⟩)/\F' 5=al (aa ⟨h.size+1,0,an⟩)/\lD g1.size g' (F' 6) (F' 7) n.Zr.p n.Zr.l r.b) ?_ ?_ (fun _ _ _ h=>h) (fun _ _ h=>h)
  .refine VS.z (g1.size) [8,15,16] (.q 0 (.p 1 (.p 2 (.q 3 (.q 4 (.p 5 (.p 6 (.q 7 (.or 8 (.p 9 (.p 10 (.p 11 (.p 12 (.or 13 (.s 14 (.w 15 (.w 16 (.p 17 .nil)))) (.s 14 (.s 13 (.w 15 (.w 16 (.p 17 .nil)))))))))) (.or 13 (.or 8 (.p 9 (.p 10 (.p 11 (.p 12 (.s 14 (.w 15 (.w 16 (.p 17 .nil)))))))) (.s 14 (.w 8 (.p 9 (.p 10 (.p 11 (.p 12 (.w 15 (.w 16 (.p 17 .nil)))))))))) (.s 14 (.or 8 (.p 9 (.p 10 (.p 11 (.p 12 (.s 13 (.w 15 (.w 16 (.p 17 .nil)))))))) (.s 13 (.w 8 (.p 9 (.p 10 (.p 11 (.p 12 (.w 15 (.w 16 (.p 17 .nil))))))))))))))))))))) mixed sV ?_;simp only[go_sem,f4,f5,r4,r5,zc,q0,QV,dV,l4,l5];unfold lD Zz XC
   repeat' (first|with_reducible exact Zk.refl _ _|with_reducible exact Zk.push mD _|with_reducible refine bS ?_ ?_)
   all_goals first
    | (refine (call g1 (Zk.refl _ _)).use ?_
       rintro _ g5 ⟨⟨w1,w2,rfl,o1,o2⟩,b5⟩;obtain⟨p1,c1,rfl,_⟩:=o1.open;obtain⟨p2,c2,rfl,_⟩:=o2.open;rw[<-hE]at *;have s5:=b5.size;unfold XC;simp only[go_sem,b5];refine⟨⟨f4,f5,_,_,_,_,rfl,rfl,s5,mD,qf _ _ _,tE _ _ _,(o1.push _).push _,(o2.push _).push _⟩,⟨f4,f5,_,_,_,_,rfl,rfl,mD,s5,tE _ _ _,qf _ _ _,(o1.push _).push _,(o2.push _).push _⟩⟩)
    | (refine (call (g1.push (ak _ 66)) (Zk.push (aF _) _)).use ?_
       rintro _ g5 ⟨⟨w1,w2,rfl,o1,o2⟩,b5⟩;obtain⟨p1,c1,rfl,_⟩:=o1.open;obtain⟨p2,c2,rfl,_⟩:=o2.open;rw[<-hE]at *;have s5:=b5.size;rw[aK]at s5;have B5:Zk g1.size g1 g5:=(Zk.push (aF _) _).trans (b5.mono sW);have xA:=b5.get (k:=g1.size) sW Zd;have Pc:=wA _ _ (if E=0 then r.b else ⟨0,0⟩).r (if E=0 then r.b else ⟨0,0⟩).n p1 (if E=0 then n.Zr.l else []).length c1 xA;have zA:=Za xA;unfold XC;simp only[go_sem,B5,Pc,zA];exact⟨f4,f5,_,_,_,_,rfl,rfl,aF _,mD,by rw[ZF (by simpa using zA)];exact ZQ xA,gs2 _ _ _ _,((o1.Yi sW _).push _).mono sW,((o2.Yi sW _).push _).mono sW⟩)
    | (refine (call (g1.push (ak _ 64)) (Zk.push (aF _) _)).use ?_
       rintro _ g5 ⟨⟨w1,w2,rfl,o1,o2⟩,b5⟩;obtain⟨p1,c1,rfl,_⟩:=o1.open;obtain⟨p2,c2,rfl,_⟩:=o2.open;rw[<-hE]at *;have s5:=b5.size;rw[aK]at s5;have B5:Zk g1.size g1 g5:=(Zk.push (aF _) _).trans (b5.mono sW);have xB:=b5.get (k:=g1.size) sW Zd;have GX:=wB _ _ p2 (if E=0 then n.Zr.l else []).length c2 xB;have zB:=Za xB;unfold XC;simp only[go_sem,B5,GX,zB];exact⟨f4,f5,_,_,_,_,rfl,rfl,mD,aF _,gs2 _ _ _ _,by rw[ZF (by simpa using zB)];exact ZQ xB,((o1.Yi sW _).push _).mono sW,((o2.Yi sW _).push _).mono sW⟩)
    | (refine (call ((g1.push (ak _ 66)).push (ak _ 64)) ((Zk.push (aF _) _).Y1 sW _)).use ?_
       rintro _ g5 ⟨⟨w1,w2,rfl,o1,o2⟩,b5⟩;obtain⟨p1,c1,rfl,_⟩:=o1.open;obtain⟨p2,c2,rfl,_⟩:=o2.open;rw[<-hE]at *;have s5:=b5.size;rw[aK,aK]at s5;have B5:Zk g1.size g1 g5:=((Zk.push (aF _) _).Y1 sW _).trans (b5.mono vI);have xA:=b5.get (k:=g1.size) vI (qf _ _ _);have xB:=b5.get (k:=g1.size+1) sW (tE _ _ _);have Pc:=wA _ _ (if E=0 then r.b else ⟨0,0⟩).r (if E=0 then r.b else ⟨0,0⟩).n p1 (if E=0 then n.Zr.l else []).length c1 xA;have zA:=Za xA;have Kl:=fun o:Obj=>(Y2 (o:=o) (show g1.size≠g1.size+1 by omega)).trans xB;have GX:=fun o:Obj=>wB _ _ p2 (if E=0 then n.Zr.l else []).length c2 (Kl o);have zB:g1.size+1<g5.size:=Za xB;unfold XC;simp only[go_sem,B5,Pc,zA,GX,zB];exact⟨f4,f5,_,_,_,_,rfl,rfl,mD,mD,(Y2 mD).trans (ZQ xA),ZQ (Kl _),((o1.Yi vI _).Yi sW _).mono vI,((o2.Yi vI _).Yi sW _).mono vI⟩)
    | (refine (call ((g1.push (ak _ 64)).push (ak _ 66)) ((Zk.push (aF _) _).Y1 sW _)).use ?_
       rintro _ g5 ⟨⟨w1,w2,rfl,o1,o2⟩,b5⟩;obtain⟨p1,c1,rfl,_⟩:=o1.open;obtain⟨p2,c2,rfl,_⟩:=o2.open;rw[<-hE]at *;have s5:=b5.size;rw[aK,aK]at s5;have B5:Zk g1.size g1 g5:=((Zk.push (aF _) _).Y1 sW _).trans (b5.mono vI);have xB:=b5.get (k:=g1.size) vI (qf _ _ _);have xA:=b5.get (k:=g1.size+1) sW (tE _ _ _);have Pc:=wA _ _ (if E=0 then r.b else ⟨0,0⟩).r (if E=0 then r.b else ⟨0,0⟩).n p1 (if E=0 then n.Zr.l else []).length c1 xA;have zA:=Za xA;have Kl:=fun o:Obj=>(Y2 (o:=o) (show g1.size+1≠g1.size by omega)).trans xB;have GX:=fun o:Obj=>wB _ _ p2 (if E=0 then n.Zr.l else []).length c2 (Kl o);have zB:g1.size<g5.size:=Za xB;unfold XC;simp only[go_sem,B5,Pc,zA,GX,zB];exact⟨f4,f5,_,_,_,_,rfl,rfl,mD,mD,(Y2 mD).trans (ZQ xA),ZQ (Kl _),((o1.Yi sW _).Yi vI _).mono vI,((o2.Yi sW _).Yi vI _).mono vI⟩)
  rintro F2 g2 ⟨b2,f4,f5,ka,kc,w1,w2,fA,fC,ge1,ge2,yA,yC,o1,o2⟩;rw[<-hE]at yA o1 o2;obtain⟨A,hA⟩:∃A:Qo,A=if E=0 then ⟨r.b,n.Zr.l⟩ else JG:=⟨_,rfl⟩
  obtain⟨V,hV⟩:∃V:List Vt,V=if E=0 then n.Zr.l else []:=⟨_,rfl⟩
  have hAp:(if E=0 then r.b else ⟨0,0⟩)=A.p:=by rw[hA];split<;>rfl
  have hAl:(if E=0 then n.Zr.l else [])=A.l:=by rw[hA];split<;>rfl
  have hVl:(if E=0 then n.Zr.l else [])=V:=hV.symm;rw[hAp]at yA;rw[hAl]at o1;rw[hVl]at o2;have Ng:=ZU k1.Yt b2;have N2:=N1.Zo Ng;have W2:=W1.Zo Ng;have K2:=k1.trans Ng;have z4:=x4.keep Ng;have z5:=x5.keep Ng;have AG:=tb1.keep Ng;have R2:XA o i g2 ra r:=N2.pt.Zh;obtain⟨u0,_,_,_,_⟩:=R2.rr;unfold Qu at u0;have iv7:Tw o g2 w2 V:=Im.Ws o2.Zr (fun b hb=>k1.Yt b hb);have iv6:Tw o g2 w1 A.l:=Im.Ws o1.Zr (fun b hb=>k1.Yt b hb);have z6:Z9 o g2 ka _:=⟨k1.Yt ka ge1,yA⟩
  have z7:Z9 o g2 kc _:=⟨k1.Yt kc ge2,yC⟩
  have P2:=ZS N2.ZZ.2 N2.pt.store.len;have m4:=Za z4.2;have m5:=Za z5.2;have mr:=Za R2.ZZ.2;have Q3:=Za N2.ZZ.2;have s4:hc g2 ⟨h.size,0,an⟩=aa (Zz nb):=Zn z4.2;have s5:hc g2 ⟨h.size+1,0,an⟩=aa (Zz ra.rb):=Zn z5.2;unfold Zz at s4 s5 fA fC;have yP:=P2.tape;obtain⟨pd,cd,Pv⟩:=N2.pt.data.1.ZN;have Pv:a.data=U pd (au n.data) cd:=Pv;have yP:rd g2 ⟨nb,2,an⟩ 2=aa [U pd (au n.data) cd,Q O n.Y5]:=by rw[<-Pv];exact yP
  have N2d:S9 o g2 (U pd (au n.data) cd) n.data:=by rw[<-Pv];exact N2.pt.data
  obtain⟨E2,qg⟩:=ZP (Jn n.data n.Y5 r.b);have call2:∀G,Zk g2.size g2 G->Zg bd T 91 #[ba #[U pd (au n.data) cd,Q O n.Y5],ba #[Q O r.b.r,Q O r.b.n]] G fun v' h'=>RK G.size h' v' n.data n.Y5 E2 (YS (JF r.b))/\Zk G.size G h':=fun G hG=>by
   rw[qg];exact Ii T G _ n.Y5 n.data r.b (N2d.bs.YJ hG) mD (AG.tk.QH hG)
  have wT:∀(G:Hp) (k:Nat) (m:Int) (p:Option Addr) (L c:Nat),G[k]? = aa (ak [U an 0 0,Q O 0].toArray 61)->wr G ⟨k,0,an⟩ [U p L c,Q O m]=aa (G.setIfInBounds k (ak [U p L c,Q O m].toArray 61)):=fun G k m p L c hx=>by
   rw[Yh hx 0 _];rfl
  refine VS.mono (N:=fun F' g'=>Zk g2.size g2 g'/\F' 4=al (aa ⟨h.size,0,an⟩)/\F' 5=al (aa ⟨h.size+1,0,an⟩)/\F' 6=al (aa ⟨ka,0,an⟩)/\F' 7=al (aa ⟨kc,0,an⟩)/\F' 10=Q O E2/\Dx g2.size g' (F' 9) n.data n.Y5 E2 (YS (JF r.b))) ?_ ?_ (fun _ _ _ h=>h) (fun _ _ h=>h)
  .refine VS.z (g2.size) [8,13] (.q 0 (.p 1 (.p 2 (.q 3 (.q 4 (.p 5 (.p 6 (.q 7 (.or 8 (.p 9 (.p 10 (.p 11 (.s 12 (.w 13 (.p 14 .nil)))))) (.s 12 (.w 8 (.p 9 (.p 10 (.p 11 (.w 13 (.p 14 .nil)))))))))))))))) mixed sV ?_;simp only[go_sem,f4,f5,fA,fC,s4,s5,yP,u0,m4,m5,mr,Q3];unfold Dx
   repeat' (first|with_reducible exact Zk.refl _ _|with_reducible exact Zk.push mD _|with_reducible refine bS ?_ ?_)
   all_goals first
    | (refine (call2 g2 (Zk.refl _ _)).use ?_
       rintro _ g5 ⟨⟨w,rfl,o1⟩,b5⟩;obtain⟨p1,c1,rfl,_⟩:=o1.bs.open;have s5:=b5.size;simp only[go_sem,b5];exact⟨f4,f5,fA,fC,_,_,rfl,s5,Zd,o1.push _⟩)
    | (refine (call2 (g2.push (ak _ 61)) (Zk.push (aF _) _)).use ?_
       rintro _ g5 ⟨⟨w,rfl,o1⟩,b5⟩;obtain⟨p1,c1,rfl,_⟩:=o1.bs.open;have B5:Zk g2.size g2 g5:=(Zk.push (aF _) _).trans (b5.mono sW);have xA:=b5.get (k:=g2.size) sW Zd;have Pc:=wT _ _ (if E2=0 then n.Y5 else 0) p1 (if E2=0 then n.data++YS (JF r.b) else []).length c1 xA;have zA:=Za xA;simp only[go_sem,B5,Pc,zA];exact⟨f4,f5,fA,fC,_,_,rfl,aF _,ZQ xA,(o1.Yi sW _).mono sW⟩)
  rintro F3 g3 ⟨b3,f4,f5,f6,f7,f10,kt,wt,fT,ge3,yT,oT⟩;have Tx:=ZU K2.Yt b3;have N4:=N2.Zo Tx;have W4:=W2.Zo Tx;have K4:Kp UN o h o g3:=K2.YJ b3;by_cases e2:E2=0
  case neg=>
   have eP:Jf { n with Zh:=aa r } r=⟨{ n with Zh:=aa r },[],[]⟩:=by unfold Jf;rw[if_pos c1,if_pos (by rw[<-qg];exact e2)]
   rw[eP,aU];simp only[go_sem,f10,e2];exact⟨o,_,Xu,ZY K4,N4,W4⟩
  rw[if_pos e2]at yT oT;have u4:=z4.keep Tx;have u5:=z5.keep Tx;have u6:=z6.keep Tx;have u7:=z7.keep Tx;have iu6:=iv6.keep Tx;have iu7:=iv7.keep Tx;have iT:S9 o g3 wt (n.data++YS (JF r.b)):=⟨Im.Ws oT.Zr (fun b hb=>K2.Yt b hb),oT.byte⟩
  have eP:Jf { n with Zh:=aa r } r=⟨{ n with Zh:=aa r,data:=n.data++YS (JF r.b),Zp:=aa (.Zr A V true) },[],[]⟩:=by
   unfold Jf;rw[if_pos c1,if_neg (by rw[<-qg];simpa using e2),hA,hV,hE]
  rw[eP,aU];obtain⟨pt,ct,rfl,_⟩:=oT.bs.open;have v4:hc g3 ⟨h.size,0,an⟩=aa (Zz nb):=Zn u4.2;have vT:rd g3 ⟨kt,0,an⟩ 2=aa [U pt (n.data++YS (JF r.b)).length ct,Q O n.Y5]:=ZA yT rfl;have IW:=Za N4.ZZ.2;obtain⟨g4,w4,N5,k5⟩:=Ym.write (a:={ a with Zh:=aa ra,data:=U pt (n.data++YS (JF r.b)).length ct }) (n:={ n with Zh:=aa r,data:=n.data++YS (JF r.b) }) { N4.pt with data:=iT } K4.Yt N4.ZZ ((XF N4.ZZ.2 N4.pt.store.len).tape (U pt (n.data++YS (JF r.b)).length ct) n.Y5 rfl);have v4':hc g4 ⟨h.size,0,an⟩=aa (Zz nb):=Zn (u4.keep k5).2;have Mg:=Za N5.ZZ.2;have pn:WQ o g4 wb i nb (aa ra) (TH 99 [ka,h.size,kc,h.size+1]) (aa (.Zr A V true)):=
   ⟨ka,h.size,kc,h.size+1,w2,ra.rb,rfl,⟨_,u6.keep k5,iu6.keep k5⟩,u4.keep k5,u7.keep k5,iu7.keep k5,u5.keep k5,by rw[if_pos rfl];exact⟨ra,rfl,rfl⟩⟩
  obtain⟨g6,w6,N6,k6⟩:=Ym.write (a:={ a with Zh:=aa ra,data:=U pt (n.data++YS (JF r.b)).length ct,Zp:=TH 99 [ka,h.size,kc,h.size+1] }) (n:={ n with Zh:=aa r,data:=n.data++YS (JF r.b),Zp:=aa (.Zr A V true) }) { N5.pt with Zp:=pn } k5.Yt N5.ZZ ((XF N5.ZZ.2 N5.pt.store.len).Zp (TH 99 [ka,h.size,kc,h.size+1]) rfl);unfold TH at w6;simp only[bR]at w6;unfold Zz at v4 v4' w6;simp only[go_sem,f10,e2,f4,f5,f6,f7,fT,v4,vT,w4,IW,v4',w6,Mg];have K6:Kp (JH i) o h o g6:=((ZY K4).trans (k5.mono fun t q=>.inr (.inr (.inr (by rw[q];rfl))))).trans (k6.mono fun t q=>.inr (.inr (.inr (by rw[q];rfl))));exact⟨o,_,Xu,K6,N6,(W4.keep k5 (by rintro t rfl;simp[Tg.of])).keep k6 (by rintro t rfl;simp[Tg.of])⟩
 by_cases c2:5<2*r.ZL.length
 case neg=>
  have eP:Jf { n with Zh:=aa r } r=⟨{ n with Zh:=aa r },RM n r,[]⟩:=by unfold Jf;rw[if_neg c1,if_pos c2];rfl
  rw[eP];have lm:=fun (K:a0->Hp->Prop) (cs:Array Bool) (ty:TypeId)=>Rw (T:=T) (K:=K) (ty:=ty) (cs:=cs) Io R1.ZL.2;rw[R1.Og.length]at lm;simp only[go_sem,f0,f4,f5,f35,c1,r4,r5,q2,lm];refine (Hk T g1 r.ZL.length HD).use ?_;rintro _ _ ⟨rfl,rfl⟩;simp only[go_sem,c2,f0,f4,f5];obtain⟨pf,hpf⟩:∃pf:Nat->List Yn,pf=fun (m:Nat)=>if Yl r.ZL (m:Int)=an then [⟨0,n.me,m,r.b,SC,[]⟩] else []:=⟨_,rfl⟩
  have ZlX:RM n r=(a7 5).flatMap pf:=by rw[hpf];rfl
  have ZuR:∀m,(pf m).length<=1:=fun m=>by rw[hpf];simp only;split<;>simp
  rw[ZlX];clear r4 r5 q0 q2 q3 q4 q5 l4 l5 dV QV P1 R1 lm ZlX;refine VS.Yq (fun F g=>F 0=al (aa ⟨wb,0,an⟩)/\F 4=al (aa ⟨h.size,0,an⟩)/\F 5=al (aa ⟨h.size+1,0,an⟩)/\∃(m:Nat) (o':Ow) (Js:WA),m<=5/\F 78=Q O m/\Kp kX o h o' g/\Z6 o' g wb i nb { a with Zh:=aa ra } { n with Zh:=aa r }/\Z0 o' g wb YK Js (fl++(a7 m).flatMap pf) YA ZG/\Z9 o' g h.size (ak [Zz nb].toArray 59)/\Z9 o' g (h.size+1) (ak [Zz ra.rb].toArray 67))
   (fun F _=>5-(vi (F 78)).toNat) rfl ⟨f0,f4,f5,0,o,Xu,mD,rfl,ZY k1,N1,by simpa using W1,x4,x5⟩ ?_
  rintro F2 g2 ⟨f0,f4,f5,m,o2,WA2,hm,f78,K2,N2,W2,x4,x5⟩;by_cases ZV:m<5
  .have Z4:(m:Int)<5:=mD;have R2:XA o2 i g2 ra r:=N2.pt.Zh;obtain⟨q0,q2,q3,q4,q5⟩:=R2.rr;have P2:=ZS N2.ZZ.2 N2.pt.store.len;have l4:=Za x4.2;have l5:=Za x5.2;have dV:=Za R2.ZZ.2;have Q3:=Za N2.ZZ.2;have r4:hc g2 ⟨h.size,0,an⟩=aa (Zz nb):=Zn x4.2;have r5:hc g2 ⟨h.size+1,0,an⟩=aa (Zz ra.rb):=Zn x5.2;unfold Zz at r4 r5;unfold Qu at q0;have lk:=fun (K:a0->Hp->Prop)=>Xe (K:=K) (n:=(m:Int)) (c:=true) Io yE R2.ZL.2;have hpm:pf m=if Yl r.ZL (m:Int)=an then [⟨0,n.me,m,r.b,SC,[]⟩] else []:=by rw[hpf]
   rcases R2.Og.Yl (m:Int) with⟨z1,z2⟩|⟨w,vs,z1,z2,iv⟩
   .rw[if_pos z2]at hpm;simp only[z1,bg,a8,↓reduceIte]at lk;simp only[go_sem,f0,f4,f5,f78,Z4,r5,q2,lk];refine VS.z (g2.size) [8] (.p 0 (.q 1 (.p 2 (.q 3 (.p 4 (.p 5 (.q 6 (.p 7 (.w 8 .nil))))))))) mixed sV ?_;simp only[go_sem,f0,f4,f5,f78,r4,r5,q0,l4,l5,dV];have rl:(fl++(a7 m).flatMap pf).length<=1000000000000:=by
     have:=Tc pf 1 m ZuR;rw[aI];omega
    refine (VE T g2 o2 wb nb YK n.me WA2 _ YA ZG (m:Int) ⟨0,0,0,r.b,SC,[]⟩ (U an 0 0) K2.Yt W2 P2.me Q3 (Im.nil _ _ _ _) rl).use ?_;rintro v' g3 ⟨o3,WA3,k3,_,W3⟩;simp only[go_sem,f78];unfold XI;refine⟨⟨f0,f4,f5,m+1,o3,WA3,ZV,rfl,K2.trans k3,N2.keep k3 (by rintro t (rfl|rfl)<;>simp[Tg.of]),by rw[Uu,hpm,<-a5];exact W3,x4.keep k3,x5.keep k3⟩,?_⟩;simp only[vi,Zt,↓reduceIte,f78];omega
   .rw[if_neg (by rw[z2];simp)]at hpm;obtain⟨pw,cw,rfl⟩:=iv.ZN;simp only[z1,bh,a9,↓reduceIte]at lk;simp only[go_sem,f0,f4,f5,f78,Z4,r5,q2,lk];unfold XI;refine⟨⟨f0,f4,f5,m+1,o2,WA2,ZV,rfl,K2,N2,by rw[Uu,hpm,aU];exact W2,x4,x5⟩,?_⟩;simp only[vi,Zt,↓reduceIte,f78];omega
  .have Xw:¬(m:Int)<5:=mD;obtain rfl:m=5:=mD;simp only[go_sem,f78,Xw];exact⟨o2,_,WA2,K2.mono (fun t q=>by rcases q with rfl|rfl<;>simp[JH]),N2,W2⟩
 have lm:=fun (K:a0->Hp->Prop) (cs:Array Bool) (ty:TypeId)=>Rw (T:=T) (K:=K) (ty:=ty) (cs:=cs) Io R1.ZL.2;rw[R1.Og.length]at lm;obtain⟨r1,BG⟩:=ZP (if r.Xf=true then r else Wp n r);have eP:Jf { n with Zh:=aa r } r=⟨{ n with Zh:=aa (Jp n r1 n.ZB) },U8 n (Jp n r1 n.ZB),[]⟩:=by
  unfold Jf;rw[if_neg c1,if_neg (by simpa using c2)];have e1:Xi { n with Zh:=aa r } r=Jp n r1 n.ZB:=by
   unfold Xi;rw[BG,qp (n:={ n with Zh:=aa r }) (n':=n) rfl rfl,je (n:={ n with Zh:=aa r }) (n':=n) rfl rfl]
  rw[e1,zb (n:={ n with Zh:=aa r }) (n':=n) rfl rfl]
 rw[eP];simp only[go_sem,f0,f4,f5,f35,c1,r4,r5,q2,lm];refine (Hk T g1 r.ZL.length HD).use ?_;rintro _ g' ⟨rfl,FV⟩;rw[FV]
 cases cb:r.Xf
 all_goals
 first
 | (rw[cb,if_neg sW]at BG
    rw[cb]at q3;simp only[go_sem,c2,f0,f4,f5,r4,r5,q3];refine (yZ T g1 o wb i nb a n ra r k1.Yt N1 hp hs hl).use ?_;rintro v' g2 ⟨ra1,iU,kx,N3⟩;rw[<-BG]at N3;have kx':Kp (JH i) o g1 o g2:=kx.mono fun t q=>.inr (.inr (.inr (Kj q)));have W3:=W1.keep kx (by intro t q;rw[Kj q];simp);have y4:=x4.keep kx;have y5:=x5.keep kx;have K3:Kp (JH i) o h o g2:=(ZY k1).trans kx')
 | (rw[cb,if_pos rfl]at BG
    rw[cb]at q3;simp only[go_sem,c2,f0,f4,f5,r4,r5,q3];obtain⟨g2,U1⟩:=ZP (g1);obtain⟨ra1,qe⟩:=ZP (ra);have iU:ra1.rb=ra.rb:=by rw[qe]
    have N3:Z6 o g2 wb i nb { a with Zh:=aa ra1 } { n with Zh:=aa r1 }:=by rw[qe,BG,U1];exact N1
    have W3:Z0 o g2 wb YK Xu fl YA ZG:=by rw[U1];exact W1
    have y4:Z9 o g2 h.size (ak [Zz nb].toArray 59):=by rw[U1];exact x4
    have y5:Z9 o g2 (h.size+1) (ak [Zz ra.rb].toArray 67):=by rw[U1];exact x5
    have K3:Kp (JH i) o h o g2:=by rw[U1];exact ZY k1
    rw[<-U1])
 all_goals
  clear r4 r5 q0 q2 q3 q4 q5 l4 l5 dV QV P1 R1 lm;have P3:=ZS N3.ZZ.2 N3.pt.store.len;obtain⟨pq,cq,zd,_⟩:=Xm.ZN N3.pt.ZB;have zd:a.ZB=U pq n.ZB.length cq:=zd;have P3q:hc g2 ⟨nb,52,an⟩=aa (U pq n.ZB.length cq):=by rw[<-zd];exact P3.ZB
  have r4:hc g2 ⟨h.size,0,an⟩=aa (Zz nb):=Zn y4.2;have r5:hc g2 ⟨h.size+1,0,an⟩=aa (Zz ra.rb):=Zn y5.2;unfold Zz at r4 r5;simp only[go_sem,f0,f4,f5,r4,r5,P3q];clear r4 r5 P3q P3;refine VS.Yq (fun F g=>F 0=al (aa ⟨wb,0,an⟩)/\F 4=al (aa ⟨h.size,0,an⟩)/\F 5=al (aa ⟨h.size+1,0,an⟩)/\F 113=U pq n.ZB.length cq/\F 114=Q O n.ZB.length/\∃(j:Nat) (ra':RA),j<=n.ZB.length/\F 115=Q O j/\Kp (JH i) o h o g/\ra'.rb=ra.rb/\Z6 o g wb i nb { a with Zh:=aa ra' } { n with Zh:=aa (Jp n r1 (n.ZB.take j)) }/\Z0 o g wb YK Xu fl YA ZG/\Z9 o g h.size (ak [Zz nb].toArray 59)/\Z9 o g (h.size+1) (ak [Zz ra.rb].toArray 67))
   (fun F _=>n.ZB.length-(vi (F 115)).toNat) rfl ⟨f0,f4,f5,rfl,rfl,0,ra1,mD,rfl,K3,iU,N3,W3,y4,y5⟩ ?_
  clear f0 f4 f5 y4 y5 K3 N3 W3 iU;rintro F3 g3 ⟨f0,f4,f5,f113,f114,j,ra',hj,f115,K3,iU,N3,W3,y4,y5⟩;obtain⟨rj,hrj⟩:=ZP (Jp n r1 (n.ZB.take j));rw[<-hrj]at N3;have r4:hc g3 ⟨h.size,0,an⟩=aa (Zz nb):=Zn y4.2;have r5:hc g3 ⟨h.size+1,0,an⟩=aa (Zz ra.rb):=Zn y5.2;unfold Zz at r4 r5;have l4:=Za y4.2;have l5:=Za y5.2;by_cases ZV:j<n.ZB.length
  .have Z4:(j:Int)<n.ZB.length:=mD;obtain⟨pz,cz,Co,ic⟩:=Jy N3.pt.ZB.ts;obtain⟨bb,oo,hz3,Tu,Lv⟩:=ic (by intro e;have:n.ZB=[]:=e;rw[this]at ZV;simp at ZV);have Co:a.ZB=U pz n.ZB.length cz:=Co;rw[zd]at Co;simp only[Value.slice.injEq]at Co;obtain⟨rfl,_,rfl⟩:=Co;subst hz3;have re:rd g3 ⟨bb,oo+j*5,an⟩ 5=aa (n.ZB[j]).C:=Lv j ZV;obtain⟨x,hx⟩:=ZP (n.ZB[j]);rw[<-hx]at re;have XE:Jp n r1 (n.ZB.take (j+1))=QT n rj x:=by
    rw[Y0 _ j ZV,<-hx,hrj];unfold Jp;rw[List.foldl_append];rfl
   obtain⟨g4,Lu⟩:=ZP (g3.push (ak x.C.toArray 49):Hp);have k4:Kp UN o g3 o g4:=by rw[Lu];exact Yv K3.Yt _
   have x4':Z9 o g4 g3.size (ak x.C.toArray 49):=⟨K3.Yt _ (aF _),by rw[Lu];exact Zd⟩
   have e4:=Lu.symm;have N4:=N3.Zo k4;have R4:XA o i g4 ra' rj:=N4.pt.Zh;have z4:=y4.keep k4;have z5:=y5.keep k4;have s4:hc g4 ⟨h.size,0,an⟩=aa (Zz nb):=Zn z4.2;have s5:hc g4 ⟨h.size+1,0,an⟩=aa (Zz ra'.rb):=by rw[iU];exact Zn z5.2
   have sx:rd g4 ⟨g3.size,0,an⟩ 5=aa x.C:=ZA x4'.2 rfl;have cf:=Zc8 T g4 o wb i nb { a with Zh:=aa ra' } { n with Zh:=aa rj } ra' rj x k4.Yt N4 R4 hl;rw[show Vp { n with Zh:=aa rj } rj x=Vp n rj x from by unfold Vp;rw[C6 (n:={ n with Zh:=aa rj }) (n':=n) rfl rfl],C6 (n:={ n with Zh:=aa rj }) (n':=n) rfl rfl]at cf;unfold Sc Zz at cf;unfold Zz at s4 s5;simp only[go_sem,f0,f4,f5,f113,f114,f115,Z4,re,e4,s4,s5,sx];refine cf.use ?_;rintro _ g5 ⟨rfl,b5⟩;have k5:=ZU k4.Yt b5;have K5:Kp (JH i) o h o g5:=(K3.trans (ZY k4)).trans (ZY k5);have N5:=N4.Zo k5;have R5:XA o i g5 ra' rj:=N5.pt.Zh;have W5:=(W3.Zo k4).Zo k5;have u4:=z4.keep k5;have u5:=z5.keep k5;have ux:=x4'.keep k5
   cases hf:free n rj x with
   | none=>
    have e1:QT n rj x=rj:=by unfold QT;rw[hf]
    simp only[go_sem,a8,f115];unfold XI;refine⟨⟨f0,f4,f5,f113,f114,j+1,ra',ZV,rfl,K5,iU,by rw[XE,e1];exact N5,W5,u4,u5⟩,?_⟩;simp only[vi,Zt,↓reduceIte,f115];omega
   | some sl=>
    have e1:QT n rj x = { rj with Yj:=ins rj.Yj (sl:Int) x }:=by unfold QT;rw[hf]
    have e2:Vp n rj x=sl:=by unfold Vp;rw[hf]
    rw[e2];simp only[go_sem,a9];have t5:hc g5 ⟨h.size+1,0,an⟩=aa (Zz ra'.rb):=by rw[iU];exact Zn u5.2
    unfold Zz at t5;have tx:rd g5 ⟨g3.size,0,an⟩ 5=aa x.C:=ZA ux.2 rfl;obtain⟨_,_,_,t4,_⟩:=R5.rr;have m5:=Za u5.2;have mr:=Za R5.ZZ.2;have mx:=Za ux.2;refine VS.z (g5.size) [6] (.q 0 (.p 1 (.p 2 (.q 3 (.p 4 (.q 5 (.w 6 .nil))))))) mixed sV ?_;simp only[go_sem,f5,t5,t4,tx,m5,mr,mx];rw[JV S8 R5.Yj.2];obtain⟨k6,R6⟩:=R5.lG K5.Yt (k:=(sl:Int)) (x:=x);have k6':Kp (JL i) o g5 o _:=k6.mono fun t q=>.inr (.inr (.inl q));have k6a:Kp (JH i) o g5 o _:=k6.mono fun t q=>.inr (.inr (.inr (by rw[q];rfl)));simp only[go_sem,f115];unfold XI;refine⟨⟨f0,f4,f5,f113,f114,j+1,ra',ZV,rfl,K5.trans k6a,iU,?_,W5.keep k6 (by rintro t rfl;simp[Tg.of]),u4.keep k6,u5.keep k6⟩,?_⟩
    .rw[XE,e1];exact⟨N5.ZZ.keep k6 tP,Ym.UG N5.pt k6' rfl rfl R6⟩
    .simp only[vi,Zt,↓reduceIte,f115];omega
  .have Xw:¬(j:Int)<n.ZB.length:=mD;obtain rfl:j=n.ZB.length:=mD;rw[List.take_length]at hrj;simp only[go_sem,f114,f115,Xw];rw[<-hrj];obtain⟨r2,hr2⟩:=ZP (rj);rw[<-hr2]at N3 ⊢;have ZlZ:∀s x m,(S7 n r2 s x m).length<=1:=fun s x m=>by unfold S7;split<;>simp
   have Zl0:∀s,(UM n r2 s).length<=5:=fun s=>by
    unfold UM;split
    .split
     .exact Tc _ 1 5 (ZlZ s _)
     .simp
    .simp
   clear r4 r5 l4 l5;refine VS.Yq (fun F g=>F 0=al (aa ⟨wb,0,an⟩)/\F 4=al (aa ⟨h.size,0,an⟩)/\F 5=al (aa ⟨h.size+1,0,an⟩)/\∃(s:Nat) (o':Ow) (Js:WA),s<=40/\F 134=Q O s/\Kp (JH i) o h o' g/\Z6 o' g wb i nb { a with Zh:=aa ra' } { n with Zh:=aa r2 }/\Z0 o' g wb YK Js (fl++(a7 s).flatMap (UM n r2)) YA ZG/\Z9 o' g h.size (ak [Zz nb].toArray 59)/\Z9 o' g (h.size+1) (ak [Zz ra.rb].toArray 67))
    (fun F _=>40-(vi (F 134)).toNat) rfl ⟨f0,f4,f5,0,o,Xu,mD,rfl,K3,N3,by simpa using W3,y4,y5⟩ ?_
   clear f0 f4 f5 y4 y5 K3 N3 W3;rintro F4 g4 ⟨f0,f4,f5,s,o4,lH,hs4,f134,K4,N4,W4,y4,y5⟩;by_cases oq:s<40
   case neg=>
    have Zga:¬(s:Int)<40:=mD;obtain rfl:s=40:=mD;simp only[go_sem,f134,Zga];exact⟨o4,_,lH,K4,N4,W4⟩
   have E6:(s:Int)<40:=mD;have R4:XA o4 i g4 ra' r2:=N4.pt.Zh;obtain⟨_,_,_,t4,t5⟩:=R4.rr;have P4:=ZS N4.ZZ.2 N4.pt.store.len;have r4:hc g4 ⟨h.size,0,an⟩=aa (Zz nb):=Zn y4.2;have r5:hc g4 ⟨h.size+1,0,an⟩=aa (Zz ra'.rb):=by rw[iU];exact Zn y5.2
   unfold Zz at r4 r5;have l4:=Za y4.2;have l5:=Za y5.2;have n4:¬h.size=g4.size:=mD;have n5:¬h.size+1=g4.size:=mD;have nnb:¬nb=g4.size:=by have:=Za N4.ZZ.2;omega
   have Dz:=fun (K:a0->Hp->Prop)=>Xe (K:=K) (n:=(s:Int)) (c:=true) S8 Lo R4.Yj.2;rw[Jj]at Dz;have Sx:=fun (K:a0->Hp->Prop) (z:Obj)=>Xe (h:=g4.push z) (K:=K) (n:=(s:Int)) (c:=true) S8 Lo ((ZF (Za N4.pt.Zi.2)).trans N4.pt.Zi.2);simp only[Jj,show ({ n with Zh:=aa r2 }:Nd).Zi=n.Zi from rfl]at Sx;have nb4:∀x y:Obj,Kp UN o4 g4 o4 ((g4.push x).push y):=fun x y=>(Yv K4.Yt _).push _;have skip:∀(x y:Obj),UM n r2 s=[]->Z6 o4 ((g4.push x).push y) wb i nb { a with Zh:=aa ra' } { n with Zh:=aa r2 }/\Z0 o4 ((g4.push x).push y) wb YK lH (fl++(a7 (s+1)).flatMap (UM n r2)) YA ZG/\Z9 o4 ((g4.push x).push y) h.size (ak [Zz nb].toArray 59)/\Z9 o4 ((g4.push x).push y) (h.size+1) (ak [Zz ra.rb].toArray 67):=fun x y hz=>
    ⟨N4.Zo (nb4 x y),by rw[Uu,hz,aU];exact W4.Zo (nb4 x y),y4.keep (nb4 x y),y5.keep (nb4 x y)⟩
   cases c3:Yl r2.Yj (s:Int) with
   | none=>
    have hz:UM n r2 s=[]:=by unfold UM;rw[c3]
    simp only[c3,bo,bg,a8,↓reduceIte]at Dz
    cases c4:Yl n.Zi (s:Int) with
    | none=>
     simp only[c4,bo,bg,a8,↓reduceIte]at Sx;simp only[go_sem,f0,f4,f5,f134,E6,r5,t4,r4,n4,n5,nnb,Dz,Sx,P4.Zi];unfold XI;refine⟨⟨f0,f4,f5,s+1,o4,lH,oq,rfl,K4.trans (ZY (nb4 _ _)),skip _ _ hz⟩,?_⟩;simp only[vi,Zt,↓reduceIte,f134];omega
    | some y=>
     simp only[c4,bp,bh,a9,↓reduceIte]at Sx;simp only[go_sem,f0,f4,f5,f134,E6,r5,t4,r4,n4,n5,nnb,Dz,Sx,P4.Zi,Sc];unfold XI;refine⟨⟨f0,f4,f5,s+1,o4,lH,oq,rfl,K4.trans (ZY (nb4 _ _)),skip _ _ hz⟩,?_⟩;simp only[vi,Zt,↓reduceIte,f134];omega
   | some x=>
    simp only[c3,bp,bh,a9,↓reduceIte]at Dz
    cases c4:Yl n.Zi (s:Int) with
    | some y=>
     have hz:UM n r2 s=[]:=by unfold UM;rw[c3];simp only;rw[if_neg (by rw[c4];simp)]
     simp only[c4,bp,bh,a9,↓reduceIte]at Sx;simp only[go_sem,f0,f4,f5,f134,E6,r5,t4,r4,n4,n5,nnb,Dz,Sx,P4.Zi,Sc];unfold XI;refine⟨⟨f0,f4,f5,s+1,o4,lH,oq,rfl,K4.trans (ZY (nb4 _ _)),skip _ _ hz⟩,?_⟩;simp only[vi,Zt,↓reduceIte,f134];omega
    | none=>
     have hz:UM n r2 s=(a7 5).flatMap (S7 n r2 s x):=by unfold UM;rw[c3];simp only;rw[if_pos c4]
     simp only[c4,bo,bg,a8,↓reduceIte]at Sx;simp only[go_sem,f0,f4,f5,f134,E6,r5,t4,r4,n4,n5,nnb,Dz,Sx,P4.Zi,Sc];obtain⟨fs,hfs⟩:=ZP (fl++(a7 s).flatMap (UM n r2));have ZG3:(au fs)<=900000001000:=by
      have:=Tc (UM n r2) 5 s Zl0;rw[hfs,aI];omega
     have hnx:fl++(a7 (s+1)).flatMap (UM n r2)=fs++(a7 5).flatMap (S7 n r2 s x):=by rw[Uu,hz,<-a5,<-hfs]
     rw[<-hfs]at W4;have kz:=nb4 (ak x.C.toArray 49) (ak dQ.C.toArray 49);have xb:Z9 o4 ((g4.push (ak x.C.toArray 49)).push (ak dQ.C.toArray 49)) g4.size (ak x.C.toArray 49):=⟨K4.Yt _ (aF _),qf _ _ _⟩
     refine VS.Yq (fun F g=>F 0=al (aa ⟨wb,0,an⟩)/\F 4=al (aa ⟨h.size,0,an⟩)/\F 5=al (aa ⟨h.size+1,0,an⟩)/\F 134=Q O s/\F 18=Q O s/\F 19=al (aa ⟨g4.size,0,an⟩)/\∃(m:Nat) (o':Ow) (Js:WA),m<=5/\F 160=Q O m/\Kp (JH i) o h o' g/\Z6 o' g wb i nb { a with Zh:=aa ra' } { n with Zh:=aa r2 }/\Z0 o' g wb YK Js (fs++(a7 m).flatMap (S7 n r2 s x)) YA ZG/\Z9 o' g h.size (ak [Zz nb].toArray 59)/\Z9 o' g (h.size+1) (ak [Zz ra.rb].toArray 67)/\Z9 o' g g4.size (ak x.C.toArray 49))
      (fun F _=>5-(vi (F 160)).toNat) rfl ⟨f0,f4,f5,f134,rfl,rfl,0,o4,lH,mD,rfl,K4.trans (ZY kz),N4.Zo kz,by simpa using W4.Zo kz,y4.keep kz,y5.keep kz,xb⟩ ?_
     clear f0 f4 f5 f134 y4 y5 r4 r5 t4 t5 P4 Dz Sx skip nb4 kz xb l4 l5 n4 n5 nnb R4;rintro F5 g5 ⟨f0,f4,f5,f134,f18,f19,m,o5,WA5,hm,f160,K5,N5,W5,y4,y5,xb⟩;by_cases qr:m<5
     case neg=>
      have hgm:¬(m:Int)<5:=mD;obtain rfl:m=5:=mD;simp only[go_sem,f160,hgm,f134];unfold XI;refine⟨⟨f0,f4,f5,s+1,o5,WA5,oq,rfl,K5,N5,by rw[hnx];exact W5,y4,y5⟩,?_⟩;simp only[vi,Zt,↓reduceIte,f134];omega
     have Zl2:(m:Int)<5:=mD;have R5:XA o5 i g5 ra' r2:=N5.pt.Zh;obtain⟨v0,_,_,_,v5⟩:=R5.rr;unfold Qu at v0;have r5:hc g5 ⟨h.size+1,0,an⟩=aa (Zz ra'.rb):=by rw[iU];exact Zn y5.2
     unfold Zz at r5;have lkv:=fun (K:a0->Hp->Prop)=>Xe (K:=K) (n:=(s:Int)) (c:=false) GP Dr R5.YY.2;rw[Jj]at lkv;simp only[Bool.false_eq_true,if_false]at lkv;obtain⟨g6,Mh⟩:=ZP (g5.push (ak [].toArray 176):Hp);have e6:=Mh.symm;have k6:Kp UN o5 g5 o5 g6:=by rw[Mh];exact Yv K5.Yt _
     have w6:wr g6 ⟨g5.size,0,an⟩ []=aa g6:=by
      have hx:g6[g5.size]? = aa (ak [].toArray 176):=by rw[Mh];exact Zd
      rw[Yh hx 0 [],if_pos ⟨sW,rfl⟩]
      congr 1
      exact La hx
     have N6:=N5.Zo k6;have W6:=W5.Zo k6;have z4:=y4.keep k6;have z5:=y5.keep k6;have zx:=xb.keep k6;have K6:Kp (JH i) o h o5 g6:=K5.trans (ZY k6);have P6:=ZS N6.ZZ.2 N6.pt.store.len;have R6:XA o5 i g6 ra' r2:=N6.pt.Zh;obtain⟨u0,_,_,_,_⟩:=R6.rr;unfold Qu at u0;have s4:hc g6 ⟨h.size,0,an⟩=aa (Zz nb):=Zn z4.2;have s5:hc g6 ⟨h.size+1,0,an⟩=aa (Zz ra'.rb):=by rw[iU];exact Zn z5.2
     unfold Zz at s4 s5;have sx:rd g6 ⟨g4.size,0,an⟩ 5=aa [Q O x.k,Q O x.c,Q O x.s,Q O x.n,Q O x.v]:=ZA zx.2 rfl;have m4:=Za z4.2;have m5:=Za z5.2;have mx:=Za zx.2;have mr:=Za R6.ZZ.2;have ze:=Za N6.ZZ.2;obtain⟨S,hS⟩:=ZP ((Yl r2.YY (s:Int)).getD []);have Ub:S7 n r2 s x m=if Yl S (m:Int)=an then [⟨2,n.me,m,X2,QJ s r2.b x,[]⟩] else []:=by unfold S7;rw[hS]
     obtain⟨mv,hmv,lki⟩:∃mv,(Option.map mpV (Yl ra'.sv (s:Int))).getD (.map an)=mv/\∀K:a0->Hp->Prop,KL bd 175 mv (Q O (m:Int)) true K g5=K (.tuple #[ba #[],aX (Yl S (m:Int)).isSome]) g5:=by
      rcases R5.Su.Yl (s:Int) with⟨z1,z2⟩|⟨sb,S',z1,z2,hsb⟩
      .refine⟨.map an,by rw[z1];rfl,fun K=>?_⟩;rw[Cl Dq ZeU,hS,z2];rfl
      .refine⟨.map (aa sb),by rw[z1];rfl,fun K=>?_⟩;have:=Xe (K:=K) (n:=(m:Int)) (c:=true) Dq ZeU hsb.2;have hSS:S=S':=by rw[hS,z2];rfl
       rw[this];unfold IV;rw[Jj,<-hSS]
       cases Yl S (m:Int)<;>rfl
     rw[hmv]at lkv
     cases cS:Yl S (m:Int) with
     | some uu=>
      rw[if_neg (by rw[cS];simp)]at Ub;simp only[cS,a9]at lki;simp only[go_sem,f0,f4,f5,f18,f19,f160,Zl2,r5,v5,lkv,lki,e6,w6];unfold XI;refine⟨⟨f0,f4,f5,f134,f18,f19,m+1,o5,WA5,qr,rfl,K6,N6,by rw[Uu,Ub,aU];exact W6,z4,z5,zx⟩,?_⟩;simp only[vi,Zt,↓reduceIte,f160];omega
     | none=>
      rw[if_pos cS]at Ub;simp only[cS,a8]at lki;simp only[go_sem,f0,f4,f5,f18,f19,f160,Zl2,r5,v5,lkv,lki,e6,w6];refine VS.z (g6.size) [11] (.p 0 (.q 1 (.p 2 (.p 3 (.q 4 (.p 5 (.p 6 (.q 7 (.q 8 (.p 9 (.p 10 (.w 11 .nil)))))))))))) mixed sV ?_;simp only[go_sem,f0,f4,f5,f18,f19,f160,s4,s5,u0,sx,m4,m5,mx,mr];have rl:(fs++(a7 m).flatMap (S7 n r2 s x)).length<=1000000000000:=by
       have:=Tc (S7 n r2 s x) 1 m (ZlZ s x);rw[aI];omega
      refine (VE T g6 o5 wb nb YK n.me WA5 _ YA ZG (m:Int) ⟨2,0,0,X2,QJ s r2.b x,[]⟩ (U an 0 0) K6.Yt W6 P6.me ze (Im.nil _ _ _ _) rl).use ?_;rintro v' g7 ⟨o7,WA7,k7,_,W7⟩;simp only[go_sem,f160];unfold XI;refine⟨⟨f0,f4,f5,f134,f18,f19,m+1,o7,WA7,qr,rfl,K6.trans (k7.mono fun t q=>by rcases q with rfl|rfl<;>simp[JH]),N6.keep k7 (by rintro t (rfl|rfl)<;>simp[Tg.of]),by rw[Uu,Ub,<-a5];exact W7,z4.keep k7,z5.keep k7,zx.keep k7⟩,?_⟩;simp only[vi,Zt,↓reduceIte,f160];omega
theorem WQ.fn{i nb:Nat}{ra:Option RA}{v:a0}{p:Option Ny}(s:WQ o h wb i nb ra v p):(p=an/\v=.nilFunc)\/(p.isSome=true/\∃f l,v=.func (.func f) #[] l):=by
 match p,s with
 | none,s=>exact .inl ⟨rfl,s⟩
 | some (.Q8 _ _ _ _),⟨_,_,_,_,e,_⟩=>exact .inr ⟨rfl,_,_,e⟩
 | some (.Wo _ _ _),⟨_,_,_,_,e,_⟩=>exact .inr ⟨rfl,_,_,e⟩
 | some (.Zr _ _ _),⟨_,_,_,_,_,_,e,_⟩=>exact .inr ⟨rfl,_,_,e⟩
theorem qs(n:Nd)(r:XM):(Jf n r).n.Yw=n.Yw/\(Jf n r).n.ZI=n.ZI/\(Jf n r).n.me=n.me/\(Jf n r).n.Ye=n.Ye/\(Jf n r).n.Zr=n.Zr/\(Jf n r).ts=[]:=by
 unfold Jf;split
 .split<;>exact⟨rfl,rfl,rfl,rfl,rfl,rfl⟩
 .split<;>exact⟨rfl,rfl,rfl,rfl,rfl,rfl⟩
theorem jf(n:Nd)(r:XM):(RM n r).length<=5:=by
 have:=Tc (fun (m:Nat)=>if Yl r.ZL (m:Int)=an then [(⟨0,n.me,m,r.b,SC,[]⟩:Yn)] else []) 1 5 (fun m=>by split<;>simp);exact this
theorem qt(n:Nd)(r:XM):(U8 n r).length<=200:=by
 have h1:∀s x m,(S7 n r s x m).length<=1:=fun s x m=>by unfold S7;split<;>simp
 have h2:∀s,(UM n r s).length<=5:=fun s=>by
  unfold UM;split
  .split
   .exact Tc _ 1 5 (h1 s _)
   .simp
  .simp
 exact Tc _ 5 40 h2
theorem Zde(n:Nd)(r:XM):(Jf n r).ls.length<=200:=by
 unfold Jf;split
 .split<;>simp
 .split
  .have:=jf n r;simp only;omega
  .exact qt n _
theorem jg(n:Nd):(Zo n).Yw=n.Yw/\(Zo n).ZI=n.ZI/\(Zo n).me=n.me/\(Zo n).Ye=n.Ye/\(Zo n).Zr=n.Zr/\(Zo n).ZB=n.ZB/\(Zo n).Zp=n.Zp/\(Zo n).data=n.data/\(Zo n).Y5=n.Y5:=by
 unfold Zo;split
 .split<;>exact⟨rfl,rfl,rfl,rfl,rfl,rfl,rfl,rfl,rfl⟩
 .exact⟨rfl,rfl,rfl,rfl,rfl,rfl,rfl,rfl,rfl⟩
theorem bJ(n:Nd):(Zo n).Zh=an\/(Zo n).Zh=n.Zh:=by
 unfold Zo;split
 .split
  .exact .inl rfl
  .exact .inr rfl
 .exact .inr rfl
theorem Mi(n:Nd):(Z1 n).n.Yw=n.Yw/\(Z1 n).n.ZI=n.ZI/\(Z1 n).n.me=n.me/\(Z1 n).n.Ye=n.Ye/\(Z1 n).n.Zr=n.Zr/\(Z1 n).ts=[]:=by
 unfold Z1;split
 .exact qs _ _
 .split<;>exact⟨rfl,rfl,rfl,rfl,rfl,rfl⟩
theorem bK(n:Nd):(Z1 n).ls.length<=200+n.ZB.length:=by
 unfold Z1;split
 .next r _=>have:=Zde n r;omega
 .split
  .simp[U9]
  .simp
set_option maxHeartbeats 4000000 in
theorem Zdf(T:bk)(h:Hp)(o:Ow)(wb i nb:Nat)(YK:Nat->Nat)(a:NA)(n:Nd)(Xu:WA)(fl:List Yn)(YA:Nat->Int)(ZG:List OS)(d:WY o h)(N:Z6 o h wb i nb a n)(W:Z0 o h wb YK Xu fl YA ZG)(tb:dS o h)(qu:n.Zp=an)(Xa:(au fl)<=800000000000)(yi:n.Zr.l.length<=1000000)(td:(au n.data)<=1000000)(hr:∀r,n.Zh=aa r->(∀x∈r.ZL,x.2.length<=1000000)/\(∀x∈r.ZL,∀v∈x.2,v.Zs<=1000000)/\r.ZL.length<=1000000000000)(hl:n.ZI.length<=100000000000)(hq:n.ZB.length<=10000000000)(ht:0<=n.Yw/\n.Yw<5):
  Zg bd T 43 #[Zz wb,Zz nb] h fun v' h'=>∃o' a' Js,Kp (JH i) o h o' h'/\Z6 o' h' wb i nb a' (YH n).n/\Z0 o' h' wb YK Js (fl++(YH n).ls) YA ZG:=by
 refine Zg.I4 (args:=#[_,_]) Tryz.func43 rfl rfl rfl ?_;obtain⟨Ze3,Zg4,sme,Zg5,qv,C7,zf,Ze4,ZuW⟩:=jg n;refine VS.seq (VS.mono (N:=fun F' g'=>F' 0=al (aa ⟨wb,0,an⟩)/\F' 1=al (aa ⟨nb,0,an⟩)/\∃a1,Kp (JH i) o h o g'/\Z6 o g' wb i nb a1 (Zo n)/\Z0 o g' wb YK Xu fl YA ZG) ?_ ?_ (fun _ _ _ h=>h) (fun _ _ h=>h))
 .refine Qr _ _ _ _ _ _ rfl ?_;unfold Zz;have P:=ZS N.ZZ.2 N.pt.store.len;have Vg:=Za N.ZZ.2;have Pr:=P.Zh;have Po:=P.bj
  cases Km:a.Zh with
  | none=>
   rw[Km]at Pr;have hn:n.Zh=an:=by
    have:=N.pt.Zh;rw[Km]at this
    cases hx:n.Zh with
    | none=>rfl
    | some r=>rw[hx]at this;exact this.elim
   have es:Zo n=n:=by unfold Zo;rw[hn]
   rw[es];unfold Me at Pr;simp only[go_sem,Pr];refine VS.mono (N:=fun F' g'=>Zk h.size h g'/\F' 0=al (aa ⟨wb,0,an⟩)/\F' 1=al (aa ⟨nb,0,an⟩)/\F' 26=aX false) ?_ ?_ (fun _ _ _ h=>h) (fun _ _ h=>h)
   .refine VS.z (h.size) [12] (.p 0 (.p 1 (.p 2 (.p 3 (.p 4 (.p 5 (.p 6 (.q 7 (.p 8 (.p 9 (.p 10 (.q 11 (.w 12 (.p 13 .nil)))))))))))))) mixed (by kernel_rfl) ?_;simp only[go_sem,Pr,Po,Vg]
    try exact Zk.refl _ _
   rintro F1 g1 ⟨b1,f0,f1,f26⟩;have kb:=ZU d b1;simp only[go_sem,f26];exact⟨f0,f1,a,ZY kb,N.Zo kb,W.Zo kb⟩
  | some ra=>
   obtain⟨r,hn⟩:∃r,n.Zh=aa r:=by
    have:=N.pt.Zh;rw[Km]at this
    cases hx:n.Zh with
    | none=>rw[hx]at this;exact this.elim
    | some r=>exact⟨r,rfl⟩
   rw[Km]at Pr;unfold Me Zz at Pr;have R:XA o i h ra r:=by have:=N.pt.Zh;rw[Km,hn]at this;exact this
   obtain⟨q0,_,_,_,_⟩:=R.rr;have dV:=Za R.ZZ.2;simp only[go_sem,Pr];refine VS.mono (N:=fun F' g'=>Zk h.size h g'/\F' 0=al (aa ⟨wb,0,an⟩)/\F' 1=al (aa ⟨nb,0,an⟩)/\F' 26=aX (decide (Zw r.b n.Zr.p))) ?_ ?_ (fun _ _ _ h=>h) (fun _ _ h=>h)
   .refine VS.z (h.size) [12] (.p 0 (.p 1 (.p 2 (.p 3 (.p 4 (.p 5 (.p 6 (.q 7 (.p 8 (.p 9 (.p 10 (.q 11 (.w 12 (.p 13 .nil)))))))))))))) mixed (by kernel_rfl) ?_;simp only[go_sem,Pr,Po,q0,Vg,dV];refine (Ls T h n.Zr.p r.b).use ?_;rintro _ g ⟨rfl,b⟩;simp only[go_sem,b]
   rintro F1 g1 ⟨b1,f0,f1,f26⟩;have kb:=ZU d b1;have N1:=N.Zo kb;have W1:=W.Zo kb;by_cases c:Zw r.b n.Zr.p
   .have es:Zo n = { n with Zh:=an }:=by unfold Zo;rw[hn];simp only;rw[if_pos c]
    rw[es];have hpn:a.Zp=.nilFunc:=by
     have:=N.pt.Zp;rw[qu]at this;exact this
    have pn:WQ o g1 wb i nb an a.Zp n.Zp:=by rw[qu];exact hpn
    obtain⟨g2,w2,N2,k2⟩:=Ym.write (a:={ a with Zh:=an }) (n:={ n with Zh:=an }) { N1.pt with Zh:=trivial,Zp:=pn } kb.Yt N1.ZZ ((XF N1.ZZ.2 N1.pt.store.len).Zh an);have QV:=Za N1.ZZ.2;unfold Me at w2;simp only[go_sem,f0,f1,f26,c,w2,QV];exact⟨_,(ZY kb).trans (k2.mono fun t q=>.inr (.inr (.inr (by rw[q];rfl)))),N2,W1.keep k2 (by rintro t rfl;simp[Tg.of])⟩
   .have es:Zo n=n:=by unfold Zo;rw[hn];simp only;rw[if_neg c]
    rw[es];simp only[go_sem,f26,c];exact⟨f0,f1,a,ZY kb,N1,W1⟩
 rintro F1 g1 ⟨f0,f1,a1,K1,N1,W1⟩;obtain⟨s,hs⟩:=ZP (Zo n);rw[<-hs]at N1 Ze3 Zg4 sme Zg5 qv C7 zf Ze4 ZuW;have srg:s.Zh=an\/s.Zh=n.Zh:=by rw[hs];exact bJ n
 obtain⟨Ze5,Zl4,eme,Zg6,ZuX,ets⟩:=Mi s;have els:=bK s;unfold YH;rw[<-hs];clear hs;refine VS.seq (VS.mono (N:=fun F' g'=>F' 0=al (aa ⟨wb,0,an⟩)/\F' 1=al (aa ⟨nb,0,an⟩)/\∃kb a1,F' 5=al (aa ⟨kb,0,an⟩)/\Z9 o g' kb (ak [Q O n.Zr.p.r,Q O n.Zr.p.n].toArray 63)/\Kp (JH i) o h o g'/\Z6 o g' wb i nb a1 s/\Z0 o g' wb YK Xu fl YA ZG) ?_ ?_ (fun _ _ _ h=>h) (fun _ _ h=>h))
 .refine Qr _ _ _ _ _ _ rfl ?_;have P1:=ZS N1.ZZ.2 N1.pt.store.len;have P1o:=P1.bj;rw[qv]at P1o;have Vg:=Za N1.ZZ.2;obtain⟨g2,U1⟩:=ZP (g1.push (ak [Q O n.Zr.p.r,Q O n.Zr.p.n].toArray 63):Hp);have k2:Kp UN o g1 o g2:=by rw[U1];exact Yv K1.Yt _
  have x5:Z9 o g2 g1.size (ak [Q O n.Zr.p.r,Q O n.Zr.p.n].toArray 63):=⟨K1.Yt _ (aF _),by rw[U1];exact Zd⟩
  have e2:=U1.symm;simp only[go_sem,f0,f1,P1o,Vg,e2];exact⟨_,a1,rfl,x5,K1.trans (ZY k2),N1.Zo k2,W1.Zo k2⟩
 clear f0 f1 K1 N1 W1;rintro F2 g2 ⟨f0,f1,kb,a2,f5,x5,K2,N2,W2⟩;have AG:=tb.keep K2;refine VS.seq (VS.mono (N:=fun F' g'=>F' 0=al (aa ⟨wb,0,an⟩)/\F' 1=al (aa ⟨nb,0,an⟩)/\(Z1 s).n.Zp=an/\∃o' a1 Js,Kp (JH i) o h o' g'/\Z6 o' g' wb i nb a1 (Z1 s).n/\Z0 o' g' wb YK Js (fl++(Z1 s).ls) YA ZG) ?_ ?_ (fun _ _ _ h=>h) (fun _ _ h=>h))
 .refine Qr _ _ _ _ _ _ rfl ?_;have P2:=ZS N2.ZZ.2 N2.pt.store.len;have P2r:=P2.Zh;have qw:=P2.me;have Vg:=Za N2.ZZ.2;have l5:=Za x5.2
  cases Km:a2.Zh with
  | some ra=>
   obtain⟨r,hn⟩:∃r,s.Zh=aa r:=by
    have:=N2.pt.Zh;rw[Km]at this
    cases hx:s.Zh with
    | none=>rw[hx]at this;exact this.elim
    | some r=>exact⟨r,rfl⟩
   have hnr:n.Zh=aa r:=by
    rcases srg with e|e
    .rw[e]at hn;cases hn
    .rw[<-e,hn]
   have e1:Z1 s=Jf s r:=by unfold Z1;rw[hn]
   have ea:a2 = { a2 with Zh:=aa ra }:=by rw[<-Km]
   have es:s = { s with Zh:=aa r }:=by rw[<-hn]
   obtain⟨BG,hr2,hr3⟩:=hr r hnr;rw[Km]at P2r;unfold Me Zz at P2r;have cr:=Zdb T g2 o wb i nb YK a2 s ra r Xu fl YA ZG K2.Yt (by rw[<-ea,<-es];exact N2) W2 AG (by omega) (by rw[qv];exact yi) (by rw[Ze4];exact td) BG hr2 hr3 (by rw[Zg4];omega) (by rw[C7];omega);rw[<-es,<-e1]at cr;unfold Zz at cr;simp only[go_sem,f0,f1,P2r];refine cr.use ?_;rintro v' g3 ⟨o3,a3,WA3,k3,N3,W3⟩;have P3:=(ZS N3.ZZ.2 N3.pt.store.len).Zp;rcases N3.pt.Zp.fn with⟨c1,c2⟩|⟨c1,f,l,c2⟩
   .rw[c2]at P3;simp only[go_sem,f0,f1,P3];exact⟨c1,o3,a3,WA3,K2.trans k3,N3,W3⟩
   .rw[c2]at P3;simp only[go_sem,f0,f1,P3];rw[if_pos c1];exact⟨o3,a3,WA3,K2.trans k3,N3,W3⟩
  | none=>
   have hn:s.Zh=an:=by
    have:=N2.pt.Zh;rw[Km]at this
    cases hx:s.Zh with
    | none=>rfl
    | some r=>rw[hx]at this;exact this.elim
   rw[Km]at P2r;unfold Me at P2r;have r5a:hc g2 ⟨kb,0,an⟩=aa (Q O n.Zr.p.r):=Zn x5.2;have r5b:hc g2 ⟨kb,1,an⟩=aa (Q O n.Zr.p.n):=Zn x5.2;rw[sme]at qw;by_cases c:0<n.Zr.p.r/\n.Zr.p.n≠n.me
   case neg=>
    have e1:Z1 s=⟨s,[],[]⟩:=by unfold Z1;rw[hn];simp only;rw[qv,sme,if_neg c]
    rw[e1];have Pv:s.Zp=an:=by rw[zf];exact qu
    simp only[go_sem,f0,f1,P2r];refine VS.mono (N:=fun F' g'=>Zk g2.size g2 g'/\F' 0=al (aa ⟨wb,0,an⟩)/\F' 1=al (aa ⟨nb,0,an⟩)/\F' 53=aX false) ?_ ?_ (fun _ _ _ h=>h) (fun _ _ h=>h)
    .refine VS.z (g2.size) [] (.p 0 (.q 1 (.p 2 (.p 3 (.p 4 (.q 5 (.p 6 (.p 7 (.p 8 (.q 9 (.p 10 (.p 11 (.p 12 .nil))))))))))))) mixed (by kernel_rfl) ?_;by_cases c1:0<n.Zr.p.r
     .have c2:n.Zr.p.n=n.me:=by
       rcases Decidable.em (n.Zr.p.n=n.me) with e|e
       .exact e
       .exact (c ⟨c1,e⟩).elim
      simp only[go_sem,f0,f1,f5,r5a,r5b,qw,l5,Vg,c1,c2]
      try exact Zk.refl _ _
     .simp only[go_sem,f0,f1,f5,r5a,r5b,qw,l5,Vg,c1]
      try exact Zk.refl _ _
    rintro F3 g3 ⟨b3,f0,f1,f53⟩;have Tx:=ZU K2.Yt b3;simp only[go_sem,f53];exact⟨f0,f1,Pv,o,a2,Xu,K2.trans (ZY Tx),N2.Zo Tx,by rw[aU];exact W2.Zo Tx⟩
   have e1:Z1 s=⟨s,U9 s,[]⟩:=by unfold Z1;rw[hn];simp only;rw[qv,sme,if_pos c]
   rw[e1];have Pv:s.Zp=an:=by rw[zf];exact qu
   obtain⟨c1,c2⟩:=c;simp only[go_sem,f0,f1,P2r];refine VS.mono (N:=fun F' g'=>Zk g2.size g2 g'/\F' 0=al (aa ⟨wb,0,an⟩)/\F' 1=al (aa ⟨nb,0,an⟩)/\F' 5=al (aa ⟨kb,0,an⟩)/\F' 53=aX true) ?_ ?_ (fun _ _ _ h=>h) (fun _ _ h=>h)
   .refine VS.z (g2.size) [] (.p 0 (.q 1 (.p 2 (.p 3 (.p 4 (.q 5 (.p 6 (.p 7 (.p 8 (.q 9 (.p 10 (.p 11 (.p 12 .nil))))))))))))) mixed (by kernel_rfl) ?_;simp only[go_sem,f0,f1,f5,r5a,r5b,qw,l5,Vg,c1,c2]
    try exact Zk.refl _ _
   clear f0 f1 f5;rintro F3 g3 ⟨b3,f0,f1,f5,f53⟩;have Tx:=ZU K2.Yt b3;have N3:=N2.Zo Tx;have W3:=W2.Zo Tx;have K3:=K2.trans (ZY (S:=JH i) Tx);have y5:=x5.keep Tx;obtain⟨pq,cq,zd,_⟩:=Xm.ZN N3.pt.ZB;have zd:a2.ZB=U pq s.ZB.length cq:=zd;have P3q:=(ZS N3.ZZ.2 N3.pt.store.len).ZB;rw[zd]at P3q;simp only[go_sem,f0,f1,f53,P3q];have hql:s.ZB.length<=10000000000:=by rw[C7];exact hq
   refine VS.Yq (fun F g=>F 0=al (aa ⟨wb,0,an⟩)/\F 1=al (aa ⟨nb,0,an⟩)/\F 5=al (aa ⟨kb,0,an⟩)/\F 69=U pq s.ZB.length cq/\F 70=Q O s.ZB.length/\∃(j:Nat) (o':Ow) (Js:WA),j<=s.ZB.length/\F 71=Q O j/\Kp (JH i) o h o' g/\Z6 o' g wb i nb a2 s/\Z0 o' g wb YK Js (fl++(U9 s).take j) YA ZG/\Z9 o' g kb (ak [Q O n.Zr.p.r,Q O n.Zr.p.n].toArray 63))
    (fun F _=>s.ZB.length-(vi (F 71)).toNat) rfl ⟨f0,f1,f5,rfl,rfl,0,o,Xu,by omega,rfl,K3,N3,by simpa using W3,y5⟩ ?_
   clear f0 f1 f5 f53 P3q N3 W3 K3 y5 Tx b3 x5 K2 N2 W2;rintro F4 g4 ⟨f0,f1,f5,f69,f70,j,o4,lH,hj,f71,K4,N4,W4,y5⟩;have pG:(U9 s).length=s.ZB.length:=by unfold U9;simp
   by_cases ZV:j<s.ZB.length
   .have Z4:(j:Int)<s.ZB.length:=by omega
    obtain⟨pz,cz,Co,ic⟩:=Jy N4.pt.ZB.ts;obtain⟨bb,oo,hz3,Tu,Lv⟩:=ic (by intro e;have:s.ZB=[]:=e;rw[this]at ZV;simp at ZV);have Co:a2.ZB=U pz s.ZB.length cz:=Co;rw[zd]at Co;simp only[Value.slice.injEq]at Co;obtain⟨rfl,_,rfl⟩:=Co;subst hz3;have re:rd g4 ⟨bb,oo+j*5,an⟩ 5=aa (s.ZB[j]).C:=Lv j ZV;obtain⟨x,hx⟩:=ZP (s.ZB[j]);rw[<-hx]at re;have XE:(U9 s).take (j+1)=(U9 s).take j++[⟨4,s.me,n.Zr.p.n,X2,QJ 0 X2 x,[]⟩]:=by
     rw[Y0 _ j (by rw[pG];exact ZV)]
     congr 2
     unfold U9;rw[bn,<-hx,qv]
    obtain⟨g5,zh⟩:=ZP (g4.push (ak x.C.toArray 49):Hp);have k5:Kp UN o4 g4 o4 g5:=by rw[zh];exact Yv K4.Yt _
    have x7:Z9 o4 g5 g4.size (ak x.C.toArray 49):=⟨K4.Yt _ (aF _),by rw[zh];exact Zd⟩
    have e5:=zh.symm;have N5:=N4.Zo k5;have W5:=W4.Zo k5;have z5:=y5.keep k5;have s5:hc g5 ⟨kb,1,an⟩=aa (Q O n.Zr.p.n):=Zn z5.2;have sx:rd g5 ⟨g4.size,0,an⟩ 5=aa [Q O x.k,Q O x.c,Q O x.s,Q O x.n,Q O x.v]:=ZA x7.2 rfl;have re:rd g4 ⟨bb,oo+j*5,an⟩ 5=aa [Q O x.k,Q O x.c,Q O x.s,Q O x.n,Q O x.v]:=re;have e5:g4.push (ak [Q O x.k,Q O x.c,Q O x.s,Q O x.n,Q O x.v].toArray 49)=g5:=e5;have P5:=ZS N5.ZZ.2 N5.pt.store.len;have Mg:=Za N5.ZZ.2;simp only[go_sem,f0,f1,f5,f69,f70,f71,Z4,re,e5,s5,sx];have rl:(fl++(U9 s).take j).length<=1000000000000:=by
     rw[aI,List.length_take];omega
    refine (VE T g5 o4 wb nb YK s.me lH _ YA ZG n.Zr.p.n ⟨4,0,0,X2,QJ 0 X2 x,[]⟩ (U an 0 0) k5.Yt W5 P5.me Mg (Im.nil _ _ _ _) rl).use ?_;rintro v' g6 ⟨o6,WA6,k6,_,W6⟩;simp only[go_sem,f71];unfold XI;refine⟨⟨f0,f1,f5,f69,f70,j+1,o6,WA6,ZV,rfl,(K4.trans (ZY k5)).trans (k6.mono fun t q=>by rcases q with rfl|rfl<;>simp[JH]),N5.keep k6 (by rintro t (rfl|rfl)<;>simp[Tg.of]),by rw[XE,<-a5];exact W6,z5.keep k6⟩,?_⟩;simp only[vi,Zt,↓reduceIte,f71];omega
   .have Xw:¬(j:Int)<s.ZB.length:=by omega
    obtain rfl:j=s.ZB.length:=by omega
    rw[List.take_of_length_le (by rw[pG];exact aF _)]at W4;simp only[go_sem,f70,f71,Xw];exact⟨f0,f1,Pv,o4,a2,lH,K4,N4,W4⟩
 clear f0 f1 f5 x5 K2 N2 W2 AG;rintro F3 g3 ⟨f0,f1,Pv,o3,a3,WA3,K3,N3,W3⟩;rw[if_neg (by rw[Pv];simp)];obtain⟨m,hm⟩:=ZP ((Z1 s).n);obtain⟨ls,hls⟩:=ZP ((Z1 s).ls);rw[<-hm]at Ze5 Zl4 eme Zg6 ZuX N3 Pv;rw[<-hls]at W3 els;rw[<-hm,<-hls];clear hm hls;have hmt:0<=m.Yw/\m.Yw<5:=by rw[Ze5,Ze3];exact ht
 have kT:m.ZI.length<=100000000000:=by rw[Zl4,Zg4];exact hl
 have hll:(au ls)<=10000000200:=by rw[C7]at els;omega
 refine VS.seq (VS.mono (N:=fun F' g'=>F' 0=al (aa ⟨wb,0,an⟩)/\F' 1=al (aa ⟨nb,0,an⟩)/\Kp (JH i) o h o3 g'/\Z6 o3 g' wb i nb a3 (Je m)/\Z0 o3 g' wb YK WA3 (fl++ls) YA ZG) ?_ ?_ (fun _ _ _ h=>h) (fun _ _ h=>h))
 .refine Qr _ _ _ _ _ _ rfl ?_;have P3:=ZS N3.ZZ.2 N3.pt.store.len;have P3t:=P3.Yw;have Vg:=Za N3.ZZ.2;have et:(m.Yw+1).tmod 5=(m.Yw+1)%5:=Int.tmod_eq_emod_of_nonneg (by omega);obtain⟨g4,w4,N4,k4⟩:=Ym.write (a:=a3) (n:=Je m) { N3.pt with } K3.Yt N3.ZZ ((XF N3.ZZ.2 N3.pt.store.len).Yw ((m.Yw+1)%5));simp only[go_sem,f0,f1,P3t,et,w4,Vg];exact⟨K3.trans (k4.mono fun t q=>.inr (.inr (.inr (by rw[q];rfl)))),N4,W3.keep k4 (by rintro t rfl;simp[Tg.of])⟩
 clear f0 f1 K3 N3 W3;rintro F4 g4 ⟨f0,f1,K4,N4,W4⟩;obtain⟨q,hq0⟩:=ZP (Je m);have ql:q.ZI=m.ZI:=by rw[hq0];rfl
 rw[<-hq0]at N4 ⊢;clear hq0;have P4:=ZS N4.ZZ.2 N4.pt.store.len;have P4t:=P4.Yw;have Zg8:=P4.me;have P4o:=P4.bj;have P4l:=P4.ZI;obtain⟨pl,cl,HD,_⟩:=Xm.ZN N4.pt.ZI;have HD:a3.ZI=U pl q.ZI.length cl:=HD;rw[HD]at P4l;have Vg:=Za N4.ZZ.2;rw[<-ql]at kT;refine Qr _ _ _ _ _ _ rfl ?_;simp only[go_sem];by_cases c:q.Yw≠q.me/\q.ZI.length<40
 case neg=>
  have e1:QU q=[]:=by unfold QU;rw[if_neg c]
  rw[e1,aU];refine VS.mono (N:=fun F' g'=>Zk g4.size g4 g'/\F' 109=aX false) ?_ ?_ (fun _ _ _ h=>h) (fun _ _ h=>h)
  .refine VS.z (g4.size) [] (.p 0 (.p 1 (.p 2 (.q 3 (.p 4 (.p 5 (.p 6 (.q 7 (.p 8 (.p 9 (.p 10 (.p 11 (.p 12 (.q 13 (.p 14 (.p 15 (.p 16 .nil))))))))))))))))) mixed (by kernel_rfl) ?_;by_cases c1:q.Yw=q.me
   .simp only[go_sem,f0,f1,P4t,Zg8,P4l,Vg,c1]
    try exact Zk.refl _ _
   .have c2:¬(q.ZI.length:Int)<40:=by
     intro e;exact c ⟨c1,by omega⟩
    simp only[go_sem,f0,f1,P4t,Zg8,P4l,Vg,c1,c2]
    try exact Zk.refl _ _
  rintro F5 g5 ⟨b5,f109⟩;have Dw:=ZU K4.Yt b5;simp only[go_sem,f109];exact⟨o3,a3,WA3,K4.trans (ZY Dw),N4.Zo Dw,W4.Zo Dw⟩
 have e1:QU q=[⟨5,q.me,q.Yw,Uo q,QJ q.ZI.length X2 dQ,[]⟩]:=by unfold QU;rw[if_pos c]
 rw[e1];obtain⟨c1,c2⟩:=c;have c2:(q.ZI.length:Int)<40:=by omega
 refine VS.mono (N:=fun F' g'=>Zk g4.size g4 g'/\F' 0=al (aa ⟨wb,0,an⟩)/\F' 1=al (aa ⟨nb,0,an⟩)/\F' 109=aX true) ?_ ?_ (fun _ _ _ h=>h) (fun _ _ h=>h)
 .refine VS.z (g4.size) [] (.p 0 (.p 1 (.p 2 (.q 3 (.p 4 (.p 5 (.p 6 (.q 7 (.p 8 (.p 9 (.p 10 (.p 11 (.p 12 (.q 13 (.p 14 (.p 15 (.p 16 .nil))))))))))))))))) mixed (by kernel_rfl) ?_;simp only[go_sem,f0,f1,P4t,Zg8,P4l,Vg,c1,c2]
  try exact Zk.refl _ _
 clear f0 f1;rintro F5 g5 ⟨b5,f0,f1,f109⟩;have Dw:=ZU K4.Yt b5;have N5:=N4.Zo Dw;have W5:=W4.Zo Dw;have K5:Kp (JH i) o h o3 g5:=K4.trans (ZY Dw);have P5:=ZS N5.ZZ.2 N5.pt.store.len;have P5o:=P5.bj;have Mg:=Za N5.ZZ.2;obtain⟨g6,Mh⟩:=ZP (g5.push (ak [Q O q.Zr.p.r,Q O q.Zr.p.n].toArray 63):Hp);have k6:Kp UN o3 g5 o3 g6:=by rw[Mh];exact Yv K5.Yt _
 have x8:Z9 o3 g6 g5.size (ak [Q O q.Zr.p.r,Q O q.Zr.p.n].toArray 63):=⟨K5.Yt _ (aF _),by rw[Mh];exact Zd⟩
 have e6:=Mh.symm;have N6:=N5.Zo k6;have W6:=W5.Zo k6;have K6:Kp (JH i) o h o3 g6:=K5.trans (ZY k6);have P6h:=(ZS N6.ZZ.2 N6.pt.store.len).Ye;have ze:=Za N6.ZZ.2;have l8:=Za x8.2;have r8:rd g6 ⟨g5.size,0,an⟩ 2=aa [Q O q.Zr.p.r,Q O q.Zr.p.n]:=ZA x8.2 rfl;obtain⟨kb,hkb⟩:=ZP (g5.size);simp only[go_sem,f0,f1,f109,P5o,Mg,e6];rw[<-hkb]at x8 l8 r8 ⊢;refine VS.mono (N:=fun F' g'=>Zk g6.size g6 g'/\F' 0=al (aa ⟨wb,0,an⟩)/\F' 1=al (aa ⟨nb,0,an⟩)/\F' 8=al (aa ⟨kb,0,an⟩)/\F' 120=aX (decide (Zw q.Zr.p q.Ye))) ?_ ?_ (fun _ _ _ h=>h) (fun _ _ h=>h)
 .refine VS.z (g6.size) [5] (.p 0 (.p 1 (.p 2 (.q 3 (.q 4 (.w 5 .nil)))))) mixed (by kernel_rfl) ?_;simp only[go_sem,f0,f1,P6h,r8,ze,l8];refine (Ls T g6 q.Ye q.Zr.p).use ?_;rintro _ g ⟨rfl,b⟩;simp only[go_sem,b];exact⟨f0,f1⟩
 clear f0 f1;rintro F7 g7 ⟨b7,f0,f1,f8,f120⟩;have kb7:=ZU K6.Yt b7;have N7:=N6.Zo kb7;have W7:=W6.Zo kb7;have K7:Kp (JH i) o h o3 g7:=K6.trans (ZY kb7);have y8:=x8.keep kb7;have P7h:=(ZS N7.ZZ.2 N7.pt.store.len).Ye;have Zg9:=Za N7.ZZ.2;have m8:=Za y8.2;by_cases c6:Zw q.Zr.p q.Ye
 all_goals
 first
 | (have eb:Uo q=q.Ye:=by unfold Uo;rw[if_pos c6]
    obtain⟨g8,Ev⟩:=ZP (g7.setIfInBounds kb (ak [Q O q.Ye.r,Q O q.Ye.n].toArray 63):Hp);have w8:wr g7 ⟨kb,0,an⟩ [Q O q.Ye.r,Q O q.Ye.n]=aa g8:=by rw[Yh y8.2 0 _,Ev];rfl
    have k8:Kp UN o3 g5 o3 g8:=by rw[Ev];exact (k6.trans kb7).gq (by omega) _
    have z8:Z9 o3 g8 kb (ak [Q O (Uo q).r,Q O (Uo q).n].toArray 63):=⟨y8.1,by rw[Ev,eb];exact ZQ y8.2⟩
    simp only[go_sem,f0,f1,f8,f120,c6,P7h,Zg9,w8])
 | (have eb:Uo q=q.Zr.p:=by unfold Uo;rw[if_neg c6]
    obtain⟨g8,Ev⟩:=ZP (g7:Hp);have k8:Kp UN o3 g5 o3 g8:=by rw[Ev];exact k6.trans kb7
    have z8:Z9 o3 g8 kb (ak [Q O (Uo q).r,Q O (Uo q).n].toArray 63):=⟨y8.1,by rw[Ev,eb];exact y8.2⟩
    simp only[go_sem,f120,c6];rw[<-Ev])
 all_goals
  have N8:=N5.Zo k8;have W8:=W5.Zo k8;have K8:Kp (JH i) o h o3 g8:=K5.trans (ZY k8);have P8:=ZS N8.ZZ.2 N8.pt.store.len;have P8t:=P8.Yw;have P8l:=P8.ZI;rw[HD]at P8l;have Zdg:=Za N8.ZZ.2;have n8:=Za z8.2;have s8:rd g8 ⟨kb,0,an⟩ 2=aa [Q O (Uo q).r,Q O (Uo q).n]:=ZA z8.2 rfl;refine VS.z (g8.size) [14] (.p 0 (.p 1 (.p 2 (.p 3 (.p 4 (.q 5 (.q 6 (.p 7 (.p 8 (.p 9 (.q 10 (.p 11 (.p 12 (.p 13 (.w 14 .nil))))))))))))))) mixed (by kernel_rfl) ?_;simp only[go_sem,f0,f1,f8,P8t,P8l,s8,Zdg,n8];have rl:(fl++ls).length<=1000000000000:=by rw[aI];omega
  refine (VE T g8 o3 wb nb YK q.me WA3 _ YA ZG q.Yw ⟨5,0,0,Uo q,QJ q.ZI.length X2 dQ,[]⟩ (U an 0 0) K8.Yt W8 P8.me Zdg (Im.nil _ _ _ _) rl).use ?_;rintro v' g9 ⟨o9,WA9,k9,_,W9⟩;simp only[go_sem];exact⟨o9,a3,WA9,K8.trans (k9.mono fun t q=>by rcases q with rfl|rfl<;>simp[JH]),N8.keep k9 (by rintro t (rfl|rfl)<;>simp[Tg.of]),by rw[<-a5];exact W9⟩
structure jh(n:Nd)(l:Yn)(fl ZG:Nat):Prop where
 ZH:0<=l.ZH/\l.ZH<=7
 room:fl<=1000000000000
 XO:n.Zr.l.length<=1000000
 data:(au n.data)<=1000000
 Zi:n.Zi.length<=100000000000
 ZI:n.ZI.length<=100000000000
 ZG:ZG<=100000000000
 ZB:n.ZB.length<=1000000000000
 Zq:n.Zq.length<=1000000000000
 Su:∀r s,n.Zh=aa r->((Yl r.YY s).getD []).length<=1000000
structure zi(n:Nd)(fl:Nat):Prop where
 room:fl<=800000000000
 XO:n.Zr.l.length<=1000000
 data:(au n.data)<=1000000
 Kn:∀r,n.Zh=aa r->(∀x∈r.ZL,x.2.length<=1000000)/\(∀x∈r.ZL,∀v∈x.2,v.Zs<=1000000)/\r.ZL.length<=1000000000000
 ZI:n.ZI.length<=100000000000
 ZB:n.ZB.length<=10000000000
 Yw:0<=n.Yw/\n.Yw<5
def OU:Nd->List Yn->Nat->Nat->Prop
 | _,[],_,_=>True
 | n,l :: k,f,t=>n.Zp.isSome=true\/(jh { n with Zf:=k } l f t/\OU (Zx { n with Zf:=k } l).n k (f+(Zx { n with Zf:=k } l).ls.length) (t+(Zx { n with Zf:=k } l).ts.length))
structure ji(n:Nd)(fl ZG:Nat):Prop where
 data:(au n.data)<=1000000
 room:fl<=1000000000000
 dr:n.Zp=an->OU n n.Zf fl ZG
 du:n.Zp=an->(Zy n n.Zf).n.Zp=an->zi (Zy n n.Zf).n (fl+(Zy n n.Zf).ls.length)
theorem C8(n:Nd)(l:Yn)(k:List Yn):(Zx { n with Zf:=k } l).n.Zf=k:=by
 have hL:∀(m:Nat) (x:Nd),(Yr m x).1.Zf=x.Zf:=by
  intro m
  induction m with
  | zero=>intro x;rfl
  | succ m ih=>
   intro x;unfold Yr;split
   .rfl
   .simp only;rw[ih];rfl
 have hl:∀(x:Nd) s c,(X9 x s c).n.Zf=x.Zf:=fun x s c=>by unfold X9;simp only;rw[hL];rfl
 have hn:∀x:Nd,(Xo x l).Zf=x.Zf:=fun x=>by unfold Xo;split<;>rfl
 unfold Zx;split
 .unfold Y3;split;· rfl
  split;· rfl
  split<;>rfl
 split
 .unfold Yx;split
  .rfl
  .split
   .split<;>rfl
   .split;· rfl
    split
    .rw[hl];rfl
    .rfl
 split
 .unfold asked;split;· rfl
  split;· rfl
  split<;>rfl
 split
 .unfold add;simp only;split<;>rfl
 split
 .unfold JY;split
  .simp only;rw[hn]
  .simp only;rw[hn]
 split
 .rw[hl]
 .simp only;rw[hn]
theorem Zdh{t:Tg}{v:a0}{l:Yn}{k:List Yn}(s:We o t h v (l :: k)):
  ∃w b off c,v=U (aa ⟨b,off,an⟩) ((au k)+1) c/\(au k)+1<=c/\rd h ⟨b,off,an⟩ 14=aa (XN l w)/\Tw o h w l.vs/\We o t h (U (if c=1 then aa ⟨b,off,an⟩ else aa ⟨b,off+14,an⟩) (au k) (c-1)) k:=by
 obtain⟨xs,h1,h2,h3⟩:=s
 cases xs with
 | nil=>cases h1
 | cons x xs=>
  obtain⟨l',w⟩:=x;simp only[List.map_cons,List.cons.injEq]at h1;obtain⟨rfl,rfl⟩:=h1;have h2':=h2;rcases h2 with⟨_,e,_⟩|⟨b,off,cap,pre,ZE,g1,rfl,g3,g4,g5,g6,g7⟩
  .cases e
  refine⟨w,b,off,cap,by rw[a6];rfl,by rw[a6];exact g7,?_,h3 (l',w) sW,?_⟩
  .have e1:ZT Ip ((l',w) :: xs)=XN l' w++ZT Ip xs:=by simp[ZT,Ip]
   have g5':(ZT Ip ((l',w) :: xs)).length=((au xs)+1)*14:=g5;rw[YI g3 (by simp only[aI];omega),<-g4,List.drop_left,e1,a5];rfl
  .refine⟨xs,rfl,?_,fun x hx=>h3 x (by simp[hx])⟩;have tl:=h2'.tail (k:=1) sW;have e1:ZT Ip ((l',w) :: xs)=XN l' w++ZT Ip xs:=by simp[ZT,Ip]
   rw[e1]at tl;have e2:(XN l' w++ZT Ip xs).drop (1*14)=ZT Ip xs:=rfl;rw[e2]at tl
   simpa [XL] using tl
def bL(nb:Nat)(g:Hp):Nat:=match hc g ⟨nb,54,an⟩ with
 | some (U _ m _)=>m
 | _=>0
theorem bM{i nb:Nat}{a:NA}{n:Nd}(N:Z6 o h wb i nb a n):bL nb h=n.Zf.length:=by
 obtain⟨xs,h1,h2,_⟩:=N.pt.Zf;obtain⟨p,c,h3,_⟩:=h2.ZN;have:=(ZS N.ZZ.2 N.pt.store.len).Zf;unfold bL;rw[this,h3,<-h1,a6]
theorem bN{i:Nat}(t:Tg)(q:ZgZ i t):JH i t:=by
 rcases q with rfl|rfl|rfl|rfl|rfl
 .exact .inl rfl
 .exact .inr (.inl rfl)
 all_goals exact .inr (.inr (.inr rfl))
set_option maxHeartbeats 4000000 in
theorem zj(T:bk)(h:Hp)(o:Ow)(wb i nb:Nat)(YK:Nat->Nat)(a:NA)(n:Nd)(Xu:WA)(fl:List Yn)(YA:Nat->Int)(ZG:List OS)(d:WY o h)(N:Z6 o h wb i nb a n)(W:Z0 o h wb YK Xu fl YA ZG)(tb:dS o h)(ok:ji n (au fl) (au ZG)):
  Zg bd T 25 #[Zz wb,Zz nb] h fun v' h'=>∃o' a' Js,Kp (JH i) o h o' h'/\Z6 o' h' wb i nb a' (step n).n/\Z0 o' h' wb YK Js (fl++(step n).ls) YA (ZG++(step n).ts):=by
 refine Zg.XK [_,_] Tryz.func25 ?_;unfold Zz;have P:=ZS N.ZZ.2 N.pt.store.len;have Vg:=Za N.ZZ.2;have Pu:=P.up
 cases hu:n.up with
 | false=>
  have e1:step n=⟨n,[],[]⟩:=by unfold step;rw[hu];rfl
  rw[hu]at Pu;rw[e1,aU,aU];simp only[go_sem,Pu];exact⟨o,a,Xu,Kp.refl d _,N,W⟩
 | true=>
 rw[hu]at Pu;have Pp:=P.Zp
 cases hp:n.Zp with
 | some p=>
  have e1:step n=Yp (ZJ n) p:=by unfold step;rw[hu,hp];rfl
  rw[e1];have Pn:=N.pt.Zp;rw[hp]at Pn;obtain⟨f,l,hf⟩:∃f l,a.Zp=.func (.func f) #[] l:=by
   rcases Pn.fn with⟨c,_⟩|⟨_,c⟩
   .cases c
   .exact c
  have Pp':=Pp;rw[hf]at Pp';obtain⟨pd,cd,Pv⟩:=N.pt.data.1.ZN;have Pv:a.data=U pd (au n.data) cd:=Pv;have Pt:=P.tape;rw[Pv]at Pt;have Nd:=N.pt.data;rw[Pv]at Nd;simp only[go_sem,Pu,Pp',Pt];refine (Zcf T h _ n.Y5 n.data Nd.bs (by have:=ok.data;omega)).use ?_;rintro v1 h1 ⟨b1,s1⟩;have kb:=ZU d b1;have N1:=N.Zo kb;have W1:=W.Zo kb;obtain⟨p1,c1,rfl,i1⟩:∃p1 c1,v1=.tuple [ba [U p1 (ZJ n).data.length c1,Q O (ZJ n).Y5].toArray,Q O (if YT n.data n.Y5 then 0 else 5)].toArray/\S9 o h1 (U p1 (ZJ n).data.length c1) (ZJ n).data:=by
   unfold gM at s1;by_cases c:YT n.data n.Y5
   .rw[if_pos (show (au n.data)<=100000/\0<=n.Y5/\n.Y5<=(au n.data) from c)]at s1;obtain⟨w,rfl,o1⟩:=s1;obtain⟨p1,c1,rfl,_⟩:=o1.bs.open;have e2:(ZJ n).data=n.data:=by unfold ZJ;simp only;rw[if_pos c]
    have e3:(ZJ n).Y5=(au n.data):=by unfold ZJ;simp only;rw[if_pos c]
    rw[e2,e3,if_pos c];exact⟨p1,c1,rfl,Im.Ws o1.Zr (fun b hb=>d b hb),o1.byte⟩
   .rw[if_neg (show ¬((au n.data)<=100000/\0<=n.Y5/\n.Y5<=(au n.data)) from c)]at s1;have e2:(ZJ n).data=[]:=by unfold ZJ;simp only;rw[if_neg c]
    have e3:(ZJ n).Y5=0:=by unfold ZJ;simp only;rw[if_neg c]
    rw[e2,e3,if_neg c];exact⟨an,0,s1,Im.nil _ _ _ _,fun x hx=>by cases hx⟩
  obtain⟨g2,w2,N2,k2⟩:=Ym.write (a:={ a with data:=U p1 (ZJ n).data.length c1 }) (n:={ n with data:=(ZJ n).data,Y5:=(ZJ n).Y5 }) { N1.pt with data:=i1 } kb.Yt N1.ZZ ((XF N1.ZZ.2 N1.pt.store.len).tape (U p1 (ZJ n).data.length c1) (ZJ n).Y5 rfl);have QV:=Za N1.ZZ.2;have Q3:=Za N2.ZZ.2;have jj:hc g2 ⟨nb,55,an⟩=aa a.Zp:=(ZS N2.ZZ.2 N2.pt.store.len).Zp;have pn:WQ o g2 wb i nb a.Zh .nilFunc an:=rfl;obtain⟨g3,w3,N3,k3⟩:=Ym.write (a:={ a with data:=U p1 (ZJ n).data.length c1,Zp:=.nilFunc }) (n:=ZJ n) { N2.pt with Zp:=pn } k2.Yt N2.ZZ ((XF N2.ZZ.2 N2.pt.store.len).Zp .nilFunc rfl);have K3:Kp (JH i) o h o g3:=((ZY kb).trans (k2.mono fun t q=>.inr (.inr (.inr (by rw[q];rfl))))).trans (k3.mono fun t q=>.inr (.inr (.inr (by rw[q];rfl))));have W3:=(W1.keep k2 (by rintro t rfl;simp[Tg.of])).keep k3 (by rintro t rfl;simp[Tg.of]);have Pn3:WQ o g3 wb i nb a.Zh a.Zp (aa p):=((Pn.keep kb (by rintro⟨⟩)).keep k2 tP).keep k3 tP;clear hf Pp';rw[show (Yp (ZJ n) p).ts=[] from by cases p<;>rfl,aU];have rm:=ok.room;have hns:(ZJ n).Zp=an:=rfl
  cases p with
  | Q8 acc to b vs=>
   obtain⟨b6,b4,b9,u,h1',h2',h3',h4',h5'⟩:=Pn3;have cf:=ZcY T g3 o wb i nb YK Xu fl YA ZG _ (ZJ n) acc to b vs b6 b4 b9 u k3.Yt N3 W3 rm h2' h3' h4' h5';rw[h1']at jj;unfold TH at jj;simp only[bR]at jj;unfold Zz at jj cf;simp only[go_sem,w2,QV,jj,w3,Q3];refine cf.use ?_;rintro v' h' ⟨o',a',Js,k,N',W'⟩;simp only[go_sem];exact⟨o',a',Js,K3.trans (k.mono bN),N',W'⟩
  | Wo acc to x=>
   obtain⟨b6,b4,b9,u,h1',h2',h3',h4',h5'⟩:=Pn3;have cf:=ZcZ T g3 o wb i nb YK Xu fl YA ZG _ (ZJ n) acc to x b6 b4 b9 u k3.Yt N3 W3 rm h2' h3' h4' h5';rw[h1']at jj;unfold TH at jj;simp only[bR]at jj;unfold Zz at jj cf;simp only[go_sem,w2,QV,jj,w3,Q3];refine cf.use ?_;rintro v' h' ⟨o',a',Js,k,N',W'⟩;simp only[go_sem];exact⟨o',a',Js,K3.trans (k.mono bN),N',W'⟩
  | Zr acc vs cur=>
   obtain⟨b6,b4,b7,b5,h1',cf⟩:=Zc0 T g3 o wb i nb _ (ZJ n) acc vs cur a.Zp k3.Yt N3 hns Pn3;rw[h1']at jj;unfold TH at jj;simp only[bR]at jj;unfold Zz at jj cf;rw[show (Yp (ZJ n) (.Zr acc vs cur)).ls=[] from rfl,aU];simp only[go_sem,w2,QV,jj,w3,Q3];refine cf.use ?_;rintro v' h' ⟨o',a',k,N'⟩;simp only[go_sem];exact⟨o',a',Xu,K3.trans (k.mono fun t q=>by rcases q with rfl|rfl|rfl<;>exact .inr (.inr (.inr rfl))),N',W3.keep k (fun t q=>by rcases q with rfl|rfl|rfl<;>simp[Tg.of])⟩
 | none=>
  have Pp0:a.Zp=.nilFunc:=by have:=N.pt.Zp;rw[hp]at this;exact this
  have Pp1:=P.Zp;rw[Pp0]at Pp1;simp only[go_sem,Pu,Pp1];obtain⟨D,hD⟩:=ZP (Zy n n.Zf);have dr:=ok.dr hp;have du:=ok.du hp;have e1:step n=if D.n.Zp.isSome=true then D else ⟨(YH D.n).n,D.ls++(YH D.n).ls,D.ts++(YH D.n).ts⟩:=by unfold step;rw[hu,hp,hD];rfl
  rw[<-hD]at du;rw[e1];refine VS.Yq (fun F g=>F 0=al (aa ⟨wb,0,an⟩)/\F 1=al (aa ⟨nb,0,an⟩)/\∃(o':Ow) (a':NA) (Js:WA) (m:Nd) (ls:List Yn) (ts:List OS),Kp (JH i) o h o' g/\Z6 o' g wb i nb a' m/\Z0 o' g wb YK Js (fl++ls) YA (ZG++ts)/\D=⟨(Zy m m.Zf).n,ls++(Zy m m.Zf).ls,ts++(Zy m m.Zf).ts⟩/\OU m m.Zf ((au fl)+(au ls)) ((au ZG)+(au ts)))
   (fun _ g=>bL nb g) rfl ⟨rfl,rfl,o,a,Xu,n,[],[],Kp.refl d _,N,by simpa using W,by rw[hD];rfl,by simpa using dr⟩ ?_
  clear Pu Pp Pp0 Pp1 P Vg N W d;rintro F1 g1 ⟨f0,f1,o1,a1,WA1,m,ls,ts,K1,N1,W1,hDm,dr1⟩;have P1:=ZS N1.ZZ.2 N1.pt.store.len;have QV:=Za N1.ZZ.2;have P1i:=P1.Zf;have P1p:=P1.Zp;have stop:(m.Zf=[]\/m.Zp.isSome=true)->D=⟨m,ls,ts⟩:=by
   intro q;have e2:Zy m m.Zf=⟨m,[],[]⟩:=by
    cases hmi:m.Zf with
    | nil=>unfold Zy;rw[<-hmi]
    | cons l k=>
     rcases q with q|q
     .rw[hmi]at q;cases q
     .unfold Zy;rw[if_pos q,<-hmi]
   rw[hDm,e2];simp
  rcases N1.pt.Zp.fn with⟨c1,c2⟩|⟨c1,f,fl',c2⟩
  .rw[c2]at P1p
   cases hmi:m.Zf with
   | nil=>
    have eD:=stop (.inl hmi);obtain⟨p,c,hi⟩:∃p c,a1.Zf=U p 0 c:=by
     have:=N1.pt.Zf;rw[hmi]at this;obtain⟨xs,h1,h2,_⟩:=this;obtain⟨p,c,h3,_⟩:=h2.ZN;rw[List.map_eq_nil_iff]at h1;subst h1;exact⟨p,c,h3⟩
    rw[hi]at P1i;have dok:=du (by rw[eD];exact c1);rw[eD]at dok;rw[eD,if_neg (by rw[c1];simp)];have cd:=Zdf T g1 o1 wb i nb YK a1 m WA1 (fl++ls) YA (ZG++ts) K1.Yt N1 W1 (tb.keep K1) c1 (by rw[aI];exact dok.room) dok.XO dok.data dok.Kn dok.ZI dok.ZB dok.Yw;unfold Zz at cd;simp only[go_sem,f0,f1,P1i,P1p];refine cd.use ?_;rintro v' g2 ⟨o2,a2,WA2,k2,N2,W2⟩;simp only[go_sem];have edt:(YH m).ts=[]:=by
     unfold YH;split
     .exact (Mi _).2.2.2.2.2
     .rfl
    refine⟨o2,a2,WA2,K1.trans k2,N2,?_⟩;rw[edt,aU,<-a5];exact W2
   | cons l k=>
    have NI:=N1.pt.Zf;rw[hmi]at NI;obtain⟨w,b,off,c,hi,Vx,Lv,iv,tl⟩:=Zdh NI;rw[hi]at P1i;rw[hmi]at dr1;have hk:jh { m with Zf:=k } l ((au fl)+(au ls)) ((au ZG)+(au ts))/\OU (Zx { m with Zf:=k } l).n k ((au fl)+(au ls)+(Zx { m with Zf:=k } l).ls.length) ((au ZG)+(au ts)+(Zx { m with Zf:=k } l).ts.length):=by
     rcases dr1 with q|q
     .rw[c1]at q;cases q
     .exact q
    obtain⟨hk,dr2⟩:=hk;have dU:D=⟨(Zy (Zx { m with Zf:=k } l).n k).n,(ls++(Zx { m with Zf:=k } l).ls)++(Zy (Zx { m with Zf:=k } l).n k).ls,(ts++(Zx { m with Zf:=k } l).ts)++(Zy (Zx { m with Zf:=k } l).n k).ts⟩:=by
     rw[hDm,hmi];have e2:Zy m (l :: k)=⟨(Zy (Zx { m with Zf:=k } l).n k).n,(Zx { m with Zf:=k } l).ls++(Zy (Zx { m with Zf:=k } l).n k).ls,(Zx { m with Zf:=k } l).ts++(Zy (Zx { m with Zf:=k } l).n k).ts⟩:=by
      rw[Zy];rw[if_neg (by rw[c1];simp)]
     rw[e2];simp
    have NL:=C8 m l k;clear stop dr1 hDm;obtain⟨pw,cw,rfl⟩:=iv.ZN;obtain⟨g2,U1⟩:=ZP (g1.push (ak (XN l (U pw (au l.vs) cw)).toArray 99):Hp);have k2:Kp UN o1 g1 o1 g2:=by rw[U1];exact Yv K1.Yt _
    have x5:Z9 o1 g2 g1.size (ak (XN l (U pw (au l.vs) cw)).toArray 99):=⟨K1.Yt _ (aF _),by rw[U1];exact Zd⟩
    have e2:=U1.symm;have N2:=N1.Zo k2;have W2:=W1.Zo k2;have P2i:=(ZS N2.ZZ.2 N2.pt.store.len).Zf;rw[hi]at P2i;have Q3:=Za N2.ZZ.2;obtain⟨vi',hvi⟩:∃v:a0,v=U (if c=1 then aa ⟨b,off,an⟩ else aa ⟨b,off+14,an⟩) (au k) (c-1):=⟨_,rfl⟩
    have tl2:We o1 (.Zf i) g2 vi' k:=by rw[hvi];exact tl.keep k2 (fun q=>q.elim)
    obtain⟨g3,w3,N3,k3⟩:=Ym.write (a:={ a1 with Zf:=vi' }) (n:={ m with Zf:=k }) { N2.pt with Zf:=tl2 } k2.Yt N2.ZZ ((XF N2.ZZ.2 N2.pt.store.len).Zf vi' (by rw[hvi];rfl));rw[hvi]at w3;have y5:=x5.keep k3;have W3:=W2.keep k3 (by rintro t rfl;simp[Tg.of]);have r5:rd g3 ⟨g1.size,0,an⟩ 14=aa (XN l (U pw (au l.vs) cw)):=ZA y5.2 rfl;have K3:Kp (JH i) o h o1 g3:=(K1.trans (ZY k2)).trans (k3.mono fun t q=>.inr (.inr (.inr (by rw[q];rfl))));have EO:(1:Int)<=c:=mD;have ch:=qj T g3 o1 wb i nb YK _ { m with Zf:=k } WA1 (fl++ls) YA (ZG++ts) l (U pw (au l.vs) cw) k3.Yt N3 W3 ((iv.keep k2).keep k3) (tb.keep K3) hk.ZH (by rw[aI];exact hk.room) hk.XO hk.data hk.Zi hk.ZI (by rw[aI];exact hk.ZG) hk.ZB hk.Zq hk.Su;unfold Zz XN at ch;unfold XN at Lv e2 r5;simp only[go_sem,f0,f1,P1i,P1p,Lv,e2,P2i,Q3,w3,Vx,EO,r5,Nat.add_sub_cancel];refine ch.use ?_;rintro v' g4 ⟨o4,a4,lH,k4,N4,W4⟩;simp only[go_sem];unfold XI;have in4:=bM N4;have in1:=bM N1;rw[NL]at in4;rw[hmi]at in1;refine⟨⟨f0,f1,o4,a4,lH,(Zx { m with Zf:=k } l).n,ls++(Zx { m with Zf:=k } l).ls,ts++(Zx { m with Zf:=k } l).ts,K3.trans k4,N4,by rw[<-a5,<-a5];exact W4,by rw[NL];exact dU,by rw[NL,aI,aI,<-Nat.add_assoc,<-Nat.add_assoc];exact dr2⟩,?_⟩;show bL nb g4<bL nb g1;rw[in4,in1];simp
  .rw[c2]at P1p;have eD:=stop (.inr c1);rw[eD,if_pos c1];obtain⟨p,c,hi⟩:∃p c,a1.Zf=U p m.Zf.length c:=by
    obtain⟨xs,h1,h2,_⟩:=N1.pt.Zf;obtain⟨p,c,h3,_⟩:=h2.ZN;rw[<-h1,a6];exact⟨p,c,h3⟩
   rw[hi]at P1i;by_cases hz:0<m.Zf.length
   .have BS:(0:Int)<m.Zf.length:=mD;simp only[go_sem,f0,f1,P1i,P1p,BS];exact⟨o1,a1,WA1,K1,N1,W1⟩
   .have BS:¬(0:Int)<m.Zf.length:=mD;simp only[go_sem,f0,f1,P1i,P1p,BS];exact⟨o1,a1,WA1,K1,N1,W1⟩
def Td(t:Tg):Prop:=True
def Zl7(t:Tg):Prop:=∃i,t.of=aa i
theorem YQ{S:Tg->Prop}{o':Ow}{h':Hp}(k:Kp S o h o' h'):Kp Td o h o' h':=k.mono fun _ _=>trivial
structure Qv(o:Ow)(h:Hp)(wb:Nat)(YK:Nat->Nat)(Xu:WA)(w:Wd):Prop where
 wd:Z0 o h wb YK Xu w.Zm w.YA w.ZG
 nd:∀i,i<5->∃a,Z6 o h wb i (YK i) a (w.Zc i)
theorem Qv.Zo{h':Hp}{YK:Nat->Nat}{Xu:WA}{w:Wd}{o':Ow}(A:Qv o h wb YK Xu w)(k:Kp UN o h o' h'):Qv o' h' wb YK Xu w:=
 ⟨A.wd.Zo k,fun i hi=>by obtain⟨a,N⟩:=A.nd i hi;exact⟨a,N.Zo k⟩⟩
theorem Qv.Yw{o':Ow}{h':Hp}{YK:Nat->Nat}{Xu WA1:WA}{w:Wd}{i:Nat}{a:NA}{n:Nd}{fl:List Yn}{YA:Nat->Int}{ZG:List OS}(A:Qv o h wb YK Xu w)(k:Kp (JH i) o h o' h')(N:Z6 o' h' wb i (YK i) a n)(W:Z0 o' h' wb YK WA1 fl YA ZG):Qv o' h' wb YK WA1 { Zc:=fun j=>if j=i then n else w.Zc j,Zm:=fl,YA:=YA,ZG:=ZG }:=by
 refine⟨W,fun j hj=>?_⟩;by_cases e:j=i
 .subst e;exact⟨a,by simpa using N⟩
 .obtain⟨b,M⟩:=A.nd j hj;refine⟨b,?_⟩;simp only[if_neg e];refine M.keep k fun t q hq=>?_;rcases q with rfl|rfl|rfl|q
  .cases hq
  .cases hq
  .cases hq
  .rw[hq]at q;exact e (Option.some.inj q)
theorem Te{YK:Nat->Nat}{Xu:WA}{fl:List Yn}{YA:Nat->Int}{ZG:List OS}(W:Z0 o h wb YK Xu fl YA ZG):
  ∃b off c,Xu.Zc=U (aa ⟨b,off,an⟩) 5 c/\5<=c/\b<h.size/\∀i,i<5->hc h ⟨b,off+i,an⟩=aa (Zz (YK i)):=by
 rcases W.Zc with⟨_,e,_⟩|⟨b,off,cap,pre,ZE,g1,g2,g3,g4,g5,g6,g7⟩
 .cases e
 refine⟨b,off,cap,g2,g7,Za g3,fun i hi=>?_⟩;rw[Zn g3,Y7,<-g4,List.getElem?_append_right mD,bf]
 match i,hi with
 | 0,_=>rfl
 | 1,_=>rfl
 | 2,_=>rfl
 | 3,_=>rfl
 | 4,_=>rfl
theorem qx{T:bk}{K:a0->Hp->Prop}{ty:TypeId}{t:Tg}{v:a0}{l:List Yn}{x:Yn}{w:a0}{bx:Nat}{cb:Array Bool}(s:We o t h v l)(d:WY o h)(iv:Tw o h w x.vs)(hb:h[bx]? = aa (ak (XN x w).toArray 99))(hr:(au l)<=1000000000000)(H:∀p c o' h',We o' t h' (U p ((au l)+1) c) (l++[x])->Kp (fun u=>u=t) o h o' h'->K (U p ((au l)+1) c) h'):
  Ps bd T .append #[56,56] ty cb [v,U (aa ⟨bx,0,an⟩) 1 1] K h:=by
 have src:Sl 14 h (U (aa ⟨bx,0,an⟩) 1 1) 1 (XN x w):=⟨_,1,rfl,rfl,fun _=>⟨bx,0,rfl,fun i hi=>by
  rw[Zn hb,Y7,Nat.zero_add];exact bl hi⟩⟩
 obtain⟨p,c,hw⟩:=iv.ZN;have X1:YN w=true:=by rw[hw];rfl
 obtain⟨xs,UO,NX,hO⟩:=s;have CQ:(au xs)=(au l):=by rw[<-UO,a6]
 refine Qg (E:=99) (n:=14) (bytes:=128) (k:=1) ko Tryz.underlying56 ZfW Zb3 rfl Zj3 NX d src (by rw[XN,List.all_eq_true];intro x hx;simp at hx;rcases hx with rfl|rfl|rfl|rfl|rfl|rfl|rfl|rfl|rfl|rfl|rfl|rfl|rfl|rfl<;>first|rfl|exact X1) mD mD ?_;intro v' o' h' w' k _;obtain⟨p',c',rfl,_⟩:=w'.ZN;rw[CQ];refine H p' c' o' h' ⟨xs++[(x,w)],by rw[bD,UO];rfl,?_,fun y hy=>?_⟩ k
 .rw[YV,WH,aI,<-CQ];exact w'
 .rcases List.mem_append.1 hy with hy|hy
  .exact (hO y hy).keep k
  .have:y=(x,w):=by simpa using hy
   subst this;exact iv.keep k
theorem Rc{t:Tg}{v:a0}{l:List Yn}(s:We o t h v l):∃p c,v=U p (au l) c/\(au l)<=c:=by
 obtain⟨xs,h1,h2,_⟩:=s;obtain⟨p,c,h3,h4⟩:=h2.ZN;rw[<-h1,a6];exact⟨p,c,h3,h4⟩
set_option maxHeartbeats 4000000 in
theorem C9(T:bk)(h:Hp)(o:Ow)(wb:Nat)(YK:Nat->Nat)(Xu:WA)(w:Wd)(l:Yn)(v:a0)(d:WY o h)(A:Qv o h wb YK Xu w)(iv:Tw o h v l.vs)(hto:0<=l.to/\l.to<5)(NL:∀i,i<5->(w.Zc i).Zf.length<=1000000000000):
  Zg bd T 27 #[Zz wb,ba (XN l v).toArray] h fun v' h'=>∃o',Kp Zl7 o h o' h'/\Qv o' h' wb YK Xu (JP w l):=by
 obtain⟨pw,cw,rfl⟩:=iv.ZN;obtain⟨j,hj⟩:∃j:Nat,(j:Int)=l.to:=⟨l.to.toNat,mD⟩
 have hj5:j<5:=mD;have hjn:l.to.toNat=j:=mD;refine Zg.XK [_,_] Tryz.func27 ?_;unfold Zz XN;obtain⟨h1,Xp⟩:=ZP (h.push (ak (XN l (U pw (au l.vs) cw)).toArray 99):Hp);have k1:Kp UN o h o h1:=by rw[Xp];exact Yv d _
 have x3:Z9 o h1 h.size (ak (XN l (U pw (au l.vs) cw)).toArray 99):=⟨d _ (aF _),by rw[Xp];exact Zd⟩
 have e0:=Xp.symm;unfold XN at e0;have A1:=A.Zo k1;have R1:=XP A1.wd.ZZ.2;obtain⟨b,off,c,hn,hc5,hb,Lv⟩:=Te A1.wd;have Rn:=R1.Zc;rw[hn]at Rn;have C3:=Za A1.wd.ZZ.2;have r3:hc h1 ⟨h.size,2,an⟩=aa (Q O j):=by rw[hj];exact Zn x3.2
 have l3:=Za x3.2;have rj:=Lv j hj5;unfold Zz at rj;have Zva:(j:Int)<5:=mD;simp only[go_sem,e0];refine VS.mono (N:=fun F' g'=>Zk h1.size h1 g'/\F' 3=al (aa ⟨h.size,0,an⟩)/\F' 4=al (aa ⟨YK j,0,an⟩)) ?_ ?_ (fun _ _ _ h=>h) (fun _ _ h=>h)
 .refine VS.z (h1.size) [] (.p 0 (.p 1 (.p 2 (.q 3 (.p 4 (.q 5 (.p 6 (.q 7 (.p 8 .nil))))))))) mixed sV ?_;simp only[go_sem,Rn,r3,C3,l3,hb,Zva,rj]
  try exact Zk.refl _ _
 rintro F1 g1 ⟨b1,f3,f4⟩;have kb:=ZU k1.Yt b1;have A2:=A1.Zo kb;have K2:=k1.trans kb;have y3:=x3.keep kb;obtain⟨a,N2⟩:=A2.nd j hj5;have P2:=ZS N2.ZZ.2 N2.pt.store.len;have lI:=P2.up;have Vg:=Za N2.ZZ.2;unfold JP;rw[hjn]
 cases hu:(w.Zc j).up with
 | false=>
  rw[hu]at lI;rw[if_neg sW];simp only[go_sem,f4,lI];exact⟨o,ZY K2,A2⟩
 | true=>
  rw[hu]at lI;rw[if_pos rfl];obtain⟨pi,ci,hi,_⟩:=Rc N2.pt.Zf;have P2i:=P2.Zf;rw[hi]at P2i;have r3:rd g1 ⟨h.size,0,an⟩ 14=aa (XN l (U pw (au l.vs) cw)):=ZA y3.2 rfl;unfold XN at r3;have l3:=Za y3.2;simp only[go_sem,f4,lI];refine VS.z (g1.size) [7,10] (.p 0 (.p 1 (.p 2 (.p 3 (.q 4 (.q 5 (.s 6 (.w 7 (.p 8 (.p 9 (.w 10 .nil))))))))))) mixed sV ?_;simp only[go_sem,f3,f4,P2i,r3,Vg,l3];obtain⟨g2,U1⟩:=ZP (g1.push (ak (XN l (U pw (au l.vs) cw)).toArray 99):Hp);have k2:Kp UN o g1 o g2:=by rw[U1];exact Yv K2.Yt _
  have e2:=U1.symm;unfold XN at e2;rw[e2];have N3:=N2.Zo k2;have A3:=A2.Zo k2;have K3:=K2.trans k2;have LI:=N3.pt.Zf;rw[hi]at LI;refine qx LI K3.Yt ((iv.keep K2).keep k2) (by rw[U1];exact Zd) (NL j hj5) ?_;intro p3 c3 o3 g3 L3 k3;have k3:Kp (fun t=>t=.Zf j) o g2 o3 g3:=k3;have N4:=Ym.pY N3.pt k3 L3;have B4:=N3.ZZ.keep k3 tP;have W4:=A3.wd.keep k3 (by rintro t rfl;simp[Tg.of]);obtain⟨g5,w5,N5,k5⟩:=Ym.write N4 k3.Yt B4 ((XF B4.2 N3.pt.store.len).Zf (U p3 ((w.Zc j).Zf.length+1) c3) rfl);have IW:=Za B4.2;simp only[go_sem,w5,IW];have W5:=W4.keep k5 (by rintro t rfl;simp[Tg.of]);have kk:Kp (fun t=>t.of=aa j) o g2 o3 g5:=(k3.mono fun t q=>by rw[q];rfl).trans (k5.mono fun t q=>by rw[q];rfl);exact⟨o3,(ZY K3).trans (kk.mono fun t q=>⟨j,q⟩),A3.Yw (kk.mono fun t q=>.inr (.inr (.inr q))) N5 W5⟩
theorem lJ{t:Tg}{v:a0}{l:List Yn}(s:We o t h v l)(k:Nat)(hk:k<(au l)):
  ∃w b off c,v=U (aa ⟨b,off,an⟩) (au l) c/\(au l)<=c/\b<h.size/\rd h ⟨b,off+k*14,an⟩ 14=aa (XN l[k] w)/\Tw o h w l[k].vs:=by
 obtain⟨xs,rfl,h2,h3⟩:=s;rw[a6]at hk;rcases h2 with⟨_,e,_⟩|⟨b,off,cap,pre,ZE,g1,rfl,g3,g4,g5,g6,g7⟩
 .omega
 refine⟨xs[k].2,b,off,cap,by rw[a6],by rw[a6];exact g7,Za g3,?_,?_⟩
 .have hlen:∀x,(Ip x).length=14:=fun x=>rfl;have hle:k*14+14<=(au xs)*14:=by omega
  rw[YI g3 (by simp only[aI];omega),<-g4,List.drop_append,List.drop_of_length_le (by omega),bG,bf];rw[List.drop_append_of_le_length (by omega),List.take_append_of_le_length (by rw[List.length_drop];omega)];rw[Rb hlen xs k (by omega),List.drop_eq_getElem_cons hk];have e1:ZT Ip (xs[k] :: xs.drop (k+1))=XN xs[k].1 xs[k].2++ZT Ip (xs.drop (k+1)):=by simp[ZT,Ip]
  rw[e1,bn];rfl
 .rw[bn];exact h3 _ (bz hk)
theorem qA{o':Ow}{t:Tg}{h':Hp}{xs:List (Yn × a0)}{v:a0}{k:Nat}(hk:k<(au xs))(h2:Xm o' t 99 14 h' v ((au xs)-1) ((ZT Ip xs).take (k*14)++(ZT Ip xs).drop ((k+1)*14)))(h3:∀x∈xs,Tw o' h' x.2 x.1.vs):
  We o' t h' v ((xs.map (·.1)).eraseIdx k):=by
 have hlen:∀x,(Ip x).length=14:=fun x=>rfl;have el:(xs.eraseIdx k).length=(au xs)-1:=by rw[List.length_eraseIdx_of_lt hk]
 refine⟨xs.eraseIdx k,?_,?_,fun x hx=>h3 x (List.mem_of_mem_eraseIdx hx)⟩
 .rw[bc,bc,bD,List.map_take,List.map_drop]
 .rw[el];have e1:ZT Ip (xs.eraseIdx k)=(ZT Ip xs).take (k*14)++(ZT Ip xs).drop ((k+1)*14):=by
   rw[OT hlen xs k mD,Rb hlen xs (k+1) mD,<-YV,bc]
  rw[e1];exact h2
theorem Z0.DB{o1:Ow}{h1:Hp}{nb:Nat->Nat}{a:WA}{fl fl':List Yn}{YA:Nat->Int}{ZG:List OS}{v:a0}(W:Z0 o h wb nb a fl YA ZG)(k:Kp (fun t=>t=.Zm) o h o1 h1)(hv:We o1 .Zm h1 v fl'){e:Option Hp}(w:e=aa (h1.setIfInBounds wb (ak (X6 YA { a with Zm:=v }).toArray 58))):
  ∃g,e=aa g/\Z0 o1 g wb nb { a with Zm:=v } fl' YA ZG/\Kp (fun t=>t=.world) o1 h1 o1 g:=by
 have b:=W.ZZ.keep k tP;have kk:Kp (fun t=>t=.world) o1 h1 o1 (h1.setIfInBounds wb (ak (X6 YA { a with Zm:=v }).toArray 58)):=(Kp.refl k.Yt (fun t=>t=.world)).set b.1 rfl _;exact⟨_,w,⟨⟨b.1,ZQ b.2⟩,(W.Zc.keep k tP).keep kk tP,hv.keep kk tP,(W.ZG.keep k tP).keep kk tP⟩,kk⟩
theorem Qv.Zdj{S:Tg->Prop}{o':Ow}{h':Hp}{YK:Nat->Nat}{Xu WA1:WA}{w:Wd}{fl:List Yn}{YA:Nat->Int}{ZG:List OS}(A:Qv o h wb YK Xu w)(k:Kp S o h o' h')(hn:∀t,S t->t.of=an)(W:Z0 o' h' wb YK WA1 fl YA ZG):
  Qv o' h' wb YK WA1 { w with Zm:=fl,YA:=YA,ZG:=ZG }:=
 ⟨W,fun i hi=>by obtain⟨a,N⟩:=A.nd i hi;exact⟨a,N.keep k fun t q e=>by rw[hn t q]at e;cases e⟩⟩
theorem Zdk:∀(xs:List (Yn × a0)),(∀x∈xs,Tw o h x.2 x.1.vs)->(ZT Ip xs).all YN=true:=by
 intro xs
 induction xs with
 | nil=>intro _;rfl
 | cons x xs ih=>
  intro hx;have e1:ZT Ip (x :: xs)=Ip x++ZT Ip xs:=by simp[ZT]
  obtain⟨p,c,hw⟩:=(hx x sW).ZN;rw[e1,List.all_append,ih (fun y hy=>hx y (by simp[hy])),Bool.and_true];unfold Ip;rw[hw];rfl
set_option maxHeartbeats 4000000 in
theorem zk(T:bk)(h:Hp)(o:Ow)(wb:Nat)(YK:Nat->Nat)(Xu:WA)(w:Wd)(at':Nat)(comes stays:Bool)(d:WY o h)(A:Qv o h wb YK Xu w)(hto:∀l∈w.Zm,0<=l.to/\l.to<5)(pG:w.Zm.length<=1000000000000)(NL:∀i,i<5->(w.Zc i).Zf.length<=1000000000000):
  Zg bd T 26 #[Zz wb,Q O at',aX comes,aX stays] h fun v' h'=>∃o' Js,Kp Td o h o' h'/\Qv o' h' wb YK Js (pick w at' comes stays):=by
 refine Zg.XK [_,_,_,_] Tryz.func26 ?_;unfold Zz;have R:=XP A.wd.ZZ.2;have Rf:=R.Zm;have C3:=Za A.wd.ZZ.2;obtain⟨pf,cf,hf,hfc⟩:=Rc A.wd.Zm;rw[hf]at Rf;by_cases hz:w.Zm.length=0
 .have hp:pick w at' comes stays=w:=by
   unfold pick;rw[List.getElem?_eq_none (by rw[hz];exact Nat.zero_le _)]
  rw[hp];have BS:(w.Zm.length:Int)=0:=mD;simp only[go_sem,Rf,BS];exact⟨o,Xu,Kp.refl d _,A⟩
 have BS:¬(w.Zm.length:Int)=0:=mD;obtain⟨k,hk⟩:=ZP (at'%w.Zm.length);have hkl:k<w.Zm.length:=by rw[hk];exact Nat.mod_lt _ mD
 have ek:(at':Int).tmod (w.Zm.length:Int)=(k:Int):=by rw[hk];rfl
 have Zhb:(k:Int)<w.Zm.length:=mD;obtain⟨v,b,off,c,hv,hvc,hb,Lv,iv⟩:=lJ A.wd.Zm k hkl;rw[hf]at hv;simp only[Value.slice.injEq]at hv;obtain⟨rfl,_,rfl⟩:=hv;obtain⟨l,hl⟩:=ZP (w.Zm[k]);rw[<-hl]at Lv iv;have qr:l∈w.Zm:=by rw[hl];exact bz hkl
 obtain⟨pw,cw,rfl⟩:=iv.ZN;obtain⟨h1,Xp⟩:=ZP (h.push (ak (XN l (U pw (au l.vs) cw)).toArray 99):Hp);have k1:Kp UN o h o h1:=by rw[Xp];exact Yv d _
 have x9:Z9 o h1 h.size (ak (XN l (U pw (au l.vs) cw)).toArray 99):=⟨d _ (aF _),by rw[Xp];exact Zd⟩
 have e0:=Xp.symm;unfold XN at e0 Lv;have A1:=A.Zo k1;have R1:=XP A1.wd.ZZ.2;have R1f:=R1.Zm;rw[hf]at R1f;have Zhc:=Za A1.wd.ZZ.2;have r9:rd h1 ⟨h.size,0,an⟩ 14=aa (XN l (U pw (au l.vs) cw)):=ZA x9.2 rfl;unfold XN at r9;have eg:w.Zm[at'%w.Zm.length]? = aa l:=by rw[<-hk,hl];exact bl hkl
 have ep:pick w at' comes stays=if comes=true then JP (if stays=true then w else { w with Zm:=w.Zm.eraseIdx k }) l else (if stays=true then w else { w with Zm:=w.Zm.eraseIdx k }):=by
  unfold pick;rw[eg,hk]
 rw[ep]
 cases stays with
 | true=>
  rw[if_pos rfl]
  cases comes with
  | false=>
   rw[if_neg sW];simp only[go_sem,Rf,BS,ek,Zhb,Lv,e0];exact⟨o,Xu,YQ k1,A1⟩
  | true=>
   rw[if_pos rfl];have cc:=C9 T h1 o wb YK Xu w l (U pw (au l.vs) cw) k1.Yt A1 (iv.keep k1) (hto l qr) NL;unfold Zz XN at cc;simp only[go_sem,Rf,BS,ek,Zhb,Lv,e0,r9];refine cc.use ?_;rintro v' g ⟨o',kk,A'⟩;simp only[go_sem];exact⟨o',Xu,(YQ k1).trans (YQ kk),A'⟩
 | false=>
  rw[if_neg (show ¬(false=true) by simp)];obtain⟨xs,UO,NX,hO⟩:=A1.wd.Zm;have CQ:(au xs)=w.Zm.length:=by rw[<-UO,a6]
  have cd:=bq T h1 o .Zm Xu.Zm (au xs) k (ZT Ip xs) NX k1.Yt (Zdk xs hO) mD mD;rw[hf]at cd;have ek2:(k:Int)+1=((k:Int)+1):=rfl;simp only[go_sem,Rf,BS,ek,Zhb,Lv,e0,R1f];refine cd.use ?_;rintro v2 g2 ⟨L2,k2⟩;have k2:Kp (fun t=>t=.Zm) o h1 o g2:=k2;have L3:We o .Zm g2 v2 (w.Zm.eraseIdx k):=by
   rw[<-UO];exact qA mD L2 (fun x hx=>(hO x hx).keep k2)
  have B2:=A1.wd.ZZ.keep k2 tP;obtain⟨p2,c2,rfl,_⟩:=Rc L3;obtain⟨g3,w3,W3,k3⟩:=A1.wd.DB k2 L3 ((XP B2.2).C1 (U p2 (w.Zm.eraseIdx k).length c2) rfl);have A3:Qv o g3 wb YK { Xu with Zm:=U p2 (w.Zm.eraseIdx k).length c2 } { w with Zm:=w.Zm.eraseIdx k }:=
   A1.Zdj (S:=fun t=>t=.Zm\/t=.world) ((k2.mono fun t q=>.inl q).trans (k3.mono fun t q=>.inr q)) (by rintro t (rfl|rfl)<;>rfl) W3
  have Zhd:=Za B2.2;have y9:=(x9.keep k2).keep k3;have r9:rd g3 ⟨h.size,0,an⟩ 14=aa (XN l (U pw (au l.vs) cw)):=ZA y9.2 rfl;unfold XN at r9;have K3:Kp Td o h o g3:=((YQ k1).trans (YQ k2)).trans (YQ k3)
  cases comes with
  | false=>
   rw[if_neg (show ¬(false=true) by simp)];simp only[go_sem,w3,Zhd];exact⟨o,_,K3,A3⟩
  | true=>
   rw[if_pos rfl];have cc:=C9 T g3 o wb YK _ _ l (U pw (au l.vs) cw) k3.Yt A3 (((iv.keep k1).keep k2).keep k3) (hto l qr) NL;unfold Zz XN at cc;simp only[go_sem,w3,Zhd,r9];refine cc.use ?_;rintro v' g ⟨o',kk,A'⟩;simp only[go_sem];exact⟨o',_,K3.trans (YQ kk),A'⟩
theorem Zdl(rc:List Nat)(now:Int):bi rc now=(J2 rc now).C:=by
 unfold bi J2;split<;>rfl
theorem Zhe{YA:Nat->Int}{a:WA}(H:h[wb]? = aa (ak (X6 YA a).toArray 58))(i:Nat)(hi:i<5):
  hc h ⟨wb,9+i,an⟩=aa (Q O (YA i))/\∀k,QF h ⟨wb,9+i,an⟩ (Q O k)=aa (h.setIfInBounds wb (ak (X6 (fun j=>if j=i then k else YA j) a).toArray 58)):=by
 match i,hi with
 | 0,_=>exact⟨Zn H,fun k=>by rw[Xk H,if_pos ⟨by simp[X6],rfl⟩];rfl⟩
 | 1,_=>exact⟨Zn H,fun k=>by rw[Xk H,if_pos ⟨by simp[X6],rfl⟩];rfl⟩
 | 2,_=>exact⟨Zn H,fun k=>by rw[Xk H,if_pos ⟨by simp[X6],rfl⟩];rfl⟩
 | 3,_=>exact⟨Zn H,fun k=>by rw[Xk H,if_pos ⟨by simp[X6],rfl⟩];rfl⟩
 | 4,_=>exact⟨Zn H,fun k=>by rw[Xk H,if_pos ⟨by simp[X6],rfl⟩];rfl⟩
theorem zm{i:Nat}(t:Tg)(q:ZgW i t):JH i t:=by
 rcases q with rfl|rfl<;>exact .inr (.inr (.inr rfl))
theorem add_same(n:Nd)(x:Cm):(add n x).Zq=n.Zq/\(add n x).me=n.me:=by
 unfold add;split<;>exact⟨rfl,rfl⟩
set_option maxHeartbeats 4000000 in
theorem qB(T:bk)(h:Hp)(o:Ow)(wb:Nat)(YK:Nat->Nat)(Xu:WA)(w:Wd)(i:Nat)(rc:List Nat)(v:a0)(d:WY o h)(A:Qv o h wb YK Xu w)(hi:i<5)(Hj:(w.Zc i).me=i)(iv:S9 o h v rc)(U3:Pj v)(hrl:(au rc)<=140737488355328)(tb:dS o h)(hq:(w.Zc i).ZB.length<=1000000000000)(hl:(w.Zc i).ZI.length<=1000000000000)(DU:(w.Zc i).Zq.length<=1000000000000)(ht:w.ZG.length<=1000000000000)(hb:0<=w.YA i/\w.YA i<=1000000000000):
  Zg bd T 23 #[Zz wb,Zz (YK i),v] h fun v' h'=>∃o' Js,Kp Td o h o' h'/\Qv o' h' wb YK Js (Wq w i rc):=by
 obtain⟨pv,cv,rfl⟩:=iv.1.ZN;refine Zg.XK [_,_,_] Tryz.func23 ?_;unfold Zz;obtain⟨a,N⟩:=A.nd i hi;obtain⟨n,hn⟩:=ZP (w.Zc i);unfold Wq;rw[<-hn]at N Hj hq hl DU ⊢;have P:=ZS N.ZZ.2 N.pt.store.len;have Vg:=Za N.ZZ.2;have Pu:=P.up
 cases hu:n.up with
 | false=>
  rw[hu]at Pu;rw[if_neg sW];simp only[go_sem,Pu];exact⟨o,Xu,Kp.refl d _,A⟩
 | true=>
 rw[hu]at Pu;rw[if_pos rfl];have Pl:=P.ZI;obtain⟨pl,cl,HD,_⟩:=Xm.ZN N.pt.ZI;have HD:a.ZI=U pl n.ZI.length cl:=HD;rw[HD]at Pl;obtain⟨E,hE⟩:=ZP (Xg rc n.ZI.length);obtain⟨x,hx⟩:=ZP (J2 rc n.ZI.length);have co:=yv T h (U pv (au rc) cv) rc n.ZI.length iv.bs U3 hrl tb.tk tb.tn;rw[Zdl,<-hE,<-hx]at co;rw[<-hE,<-hx];simp only[go_sem,Pu,Pl];refine co.use ?_;rintro _ g ⟨rfl,b⟩;have kb:=ZU d b;obtain⟨g1,LO⟩:=ZP (g.push (ak x.C.toArray 49):Hp);have e1:=LO.symm;have k1:Kp UN o h o g1:=by rw[LO];exact kb.push _
 have x6:Z9 o g1 g.size (ak x.C.toArray 49):=⟨kb.Yt _ (aF _),by rw[LO];exact Zd⟩
 have A1:=A.Zo k1;have N1:=N.Zo k1;have P1:=ZS N1.ZZ.2 N1.pt.store.len;have Zhf:=P1.me;rw[Hj]at Zhf;have QV:=Za N1.ZZ.2;have Zhc:=Za A1.wd.ZZ.2;obtain⟨br,bw⟩:=Zhe A1.wd.ZZ.2 i hi;have r6:rd g1 ⟨g.size,0,an⟩ 5=aa x.C:=ZA x6.2 rfl;have l6:=Za x6.2;have CI:(i:Int)<5:=mD;by_cases hz:E=0
 case neg=>
  rw[if_pos (by simpa using hz)];simp only[go_sem,e1,hz];refine VS.z (g1.size) [15] (.p 0 (.p 1 (.p 2 (.p 3 (.q 4 (.p 5 (.p 6 (.p 7 (.p 8 (.q 9 (.p 10 (.p 11 (.p 12 (.p 13 (.p 14 (.w 15 .nil)))))))))))))))) mixed sV ?_;simp only[go_sem,Zhf,QV,Zhc,CI,br,bw];have kk:Kp (fun t=>t=.world) o g1 o (g1.setIfInBounds wb (ak (X6 (fun j=>if j=i then w.YA i+1 else w.YA j) Xu).toArray 58)):=(Kp.refl k1.Yt (fun t=>t=.world)).set A1.wd.ZZ.1 rfl _;exact⟨o,Xu,(YQ k1).trans (YQ kk),A1.Zdj kk (by rintro t rfl;rfl) ⟨⟨A1.wd.ZZ.1,ZQ A1.wd.ZZ.2⟩,A1.wd.Zc.keep kk tP,A1.wd.Zm.keep kk tP,A1.wd.ZG.keep kk tP⟩⟩
 rw[if_neg (by simpa using hz)];have P1l:hc g1 ⟨YK i,11,an⟩=aa a.ZI:=P1.ZI;simp only[go_sem,e1,hz];obtain⟨J,hJ⟩:=ZP (Ra n.ZI x);refine VS.mono (N:=fun F' g'=>Zk g1.size g1 g'/\F' 0=al (aa ⟨wb,0,an⟩)/\F' 1=al (aa ⟨YK i,0,an⟩)/\F' 6=al (aa ⟨g.size,0,an⟩)/\F' 8=Q O J) ?_ ?_ (fun _ _ _ h=>h) (fun _ _ h=>h)
 .refine VS.z (g1.size) [5] (.p 0 (.p 1 (.p 2 (.q 3 (.q 4 (.w 5 (.p 6 .nil))))))) mixed sV ?_;simp only[go_sem,P1l,r6,QV,l6];refine (GR T g1 _ n.ZI x N1.pt.ZI.ts mD).use ?_;rintro _ g2 ⟨rfl,b2⟩;simp only[go_sem,b2,hJ]
 rintro F2 g2 ⟨b2,f0,f1,f6,f8⟩;have Ng:=ZU k1.Yt b2;have A2:=A1.Zo Ng;have N2:=N1.Zo Ng;have y6:=x6.keep Ng;have K2:Kp UN o h o g2:=k1.trans Ng;have P2:=ZS N2.ZZ.2 N2.pt.store.len;have qw:=P2.me;rw[Hj]at qw;have Q3:=Za N2.ZZ.2;have Zhd:=Za A2.wd.ZZ.2;have r62:rd g2 ⟨g.size,0,an⟩ 5=aa x.C:=ZA y6.2 rfl;have l62:=Za y6.2;clear r6 l6 QV Zhc br bw P1 Zhf P1l e1;by_cases hm:x∈n.ZI
 .have hJ0:0<=J:=by rw[hJ];exact (Lr _ _).2 hm
  rw[if_pos hm];have call:=fun G=>kZ T G n.store N2.pt.store x;have P2s:rd g2 ⟨YK i,12,an⟩ 40=aa n.store:=P2.store;obtain⟨D,hDe⟩:=ZP (CZ n.store x);obtain⟨E2,qg⟩:=ZP (Lm n.store x);obtain⟨c1,Vx⟩:=ZP (Md n.store x);obtain⟨c2,EO⟩:=ZP (GN n.store x);have hD:=N2.pt.store.do x
  rw[<-hDe]at hD;rw[<-hDe,<-qg,<-Vx,<-EO]at call;rw[<-Vx,<-EO];have It:=hD.len;have dU:=hD.one;unfold Sc at call;have FT:=Yb (zs:=QO) (vs:=D) (by rw[It];rfl);unfold QO at FT;simp only[rep,List.cons_append,bG]at FT;have wA:∀(G:Hp) (k:Nat),G[k]? = aa (ak QO.toArray 75)->wr G ⟨k,0,an⟩ D=aa (G.setIfInBounds k (ak D.toArray 75)):=fun G k hx=>by
   rw[Yh hx 0 D,Yb (by rw[It];rfl),if_pos ⟨by rw[It];simp[QO,rep],dU⟩]
  have wB:∀(G:Hp) (k:Nat),G[k]? = aa (ak [Q O 0,Q O 0].toArray 71)->wr G ⟨k,0,an⟩ [Q O c1,Q O c2]=aa (G.setIfInBounds k (ak [Q O c1,Q O c2].toArray 71)):=fun G k hx=>by
   rw[Yh hx 0 _];rfl
  have gl:∀(G:Hp) (X Y:Obj),((G.push X).push Y)[G.size]? = aa X:=fun G X Y=>by rw[ZF sW,Zd]
  have gs:∀(G:Hp) (k:Nat) (X Y:Obj),((G.setIfInBounds k X).push Y)[G.size]? = aa Y:=fun G k X Y=>by
   have:=Zd (h:=G.setIfInBounds k X) (o:=Y);rwa [Array.size_setIfInBounds]at this
  have gl':=gs;have gr:∀(G:Hp) (X Y:Obj),((G.push X).push Y)[G.size+1]? = aa Y:=fun G X Y=>by
   have:=Zd (h:=G.push X) (o:=Y);rwa [aK]at this
  simp only[go_sem,f8,hJ0];refine VS.mono (N:=fun F' g'=>Zk g2.size g2 g'/\F' 0=al (aa ⟨wb,0,an⟩)/\F' 1=al (aa ⟨YK i,0,an⟩)/\F' 6=al (aa ⟨g.size,0,an⟩)/\∃B,F' 10=al (aa ⟨B,0,an⟩)/\g2.size<=B/\g'[B]? = aa (ak [Q O c1,Q O c2].toArray 71)) ?_ ?_ (fun _ _ _ h=>h) (fun _ _ h=>h)
  .refine VS.z (g2.size) [5,12,13] (.p 0 (.p 1 (.p 2 (.q 3 (.q 4 (.or 5 (.p 6 (.p 7 (.p 8 (.p 9 (.or 10 (.s 11 (.w 12 (.w 13 (.p 14 .nil)))) (.s 11 (.s 10 (.w 12 (.w 13 (.p 14 .nil)))))))))) (.or 10 (.or 5 (.p 6 (.p 7 (.p 8 (.p 9 (.s 11 (.w 12 (.w 13 (.p 14 .nil)))))))) (.s 11 (.w 5 (.p 6 (.p 7 (.p 8 (.p 9 (.w 12 (.w 13 (.p 14 .nil)))))))))) (.s 11 (.or 5 (.p 6 (.p 7 (.p 8 (.p 9 (.s 10 (.w 12 (.w 13 (.p 14 .nil)))))))) (.s 10 (.w 5 (.p 6 (.p 7 (.p 8 (.p 9 (.w 12 (.w 13 (.p 14 .nil)))))))))))))))))) mixed sV ?_;simp only[go_sem,f0,f1,f6,P2s,Q3,l62,r62]
   repeat' (first|with_reducible exact Zk.refl _ _|with_reducible exact Zk.push mD _|with_reducible refine bS ?_ ?_)
   all_goals first
    | (refine (call g2).use ?_
       rintro _ g5 ⟨rfl,b5⟩;have s5:=b5.size;simp only[go_sem,b5,It,dU,FT];refine⟨⟨f0,f1,f6,_,rfl,mD,gr _ _ _⟩,⟨f0,f1,f6,_,rfl,s5,gl _ _ _⟩⟩)
    | (refine (call (g2.push (ak _ 75))).use ?_
       rintro _ g5 ⟨rfl,b5⟩;have s5:=b5.size;rw[aK]at s5;have B5:Zk g2.size g2 g5:=(Zk.push (aF _) _).trans (b5.mono sW);have xA:=b5.get (k:=g2.size) sW Zd;have Pc:=wA _ _ xA;have zA:=Za xA;simp only[go_sem,B5,It,dU,Pc,zA];exact⟨f0,f1,f6,_,rfl,mD,gs _ _ _ _⟩)
    | (refine (call (g2.push (ak _ 71))).use ?_
       rintro _ g5 ⟨rfl,b5⟩;have s5:=b5.size;rw[aK]at s5;have B5:Zk g2.size g2 g5:=(Zk.push (aF _) _).trans (b5.mono sW);have xB:=b5.get (k:=g2.size) sW Zd;have GX:=wB _ _ xB;have zB:=Za xB;have gB:=ZQ (o:=ak [Q O c1,Q O c2].toArray 71) xB;simp only[go_sem,B5,It,dU,GX,FT,zB];exact⟨f0,f1,f6,_,rfl,aF _,by rw[ZF (by simpa using zB)];exact gB⟩)
    | (refine (call ((g2.push (ak _ 75)).push (ak _ 71))).use ?_
       rintro _ g5 ⟨rfl,b5⟩;have s5:=b5.size;rw[aK,aK]at s5;have B5:Zk g2.size g2 g5:=((Zk.push (aF _) _).Y1 sW _).trans (b5.mono vI);have xA:=b5.get (k:=g2.size) vI (gl _ _ _);have xB:=b5.get (k:=g2.size+1) sW (gr _ _ _);have Pc:=wA _ _ xA;have zA:=Za xA;have Kl:=(Y2 (o:=ak D.toArray 75) (show g2.size≠g2.size+1 by omega)).trans xB;have GX:=wB _ _ Kl;have zB:=Za Kl;simp only[go_sem,B5,It,dU,Pc,zA,GX,zB];exact⟨f0,f1,f6,_,rfl,mD,ZQ Kl⟩)
    | (refine (call ((g2.push (ak _ 71)).push (ak _ 75))).use ?_
       rintro _ g5 ⟨rfl,b5⟩;have s5:=b5.size;rw[aK,aK]at s5;have B5:Zk g2.size g2 g5:=((Zk.push (aF _) _).Y1 sW _).trans (b5.mono vI);have xB:=b5.get (k:=g2.size) vI (gl _ _ _);have xA:=b5.get (k:=g2.size+1) sW (gr _ _ _);have Pc:=wA _ _ xA;have zA:=Za xA;have Kl:=(Y2 (o:=ak D.toArray 75) (show g2.size+1≠g2.size by omega)).trans xB;have GX:=wB _ _ Kl;have zB:=Za Kl;simp only[go_sem,B5,It,dU,Pc,zA,GX,zB];exact⟨f0,f1,f6,_,rfl,mD,ZQ Kl⟩)
  clear f0 f1 f6 f8;rintro F5 g5 ⟨b5,f0,f1,f6,B,f10,hB,yB⟩;have Dw:=ZU K2.Yt b5;have A5:=A2.Zo Dw;have N5:=N2.Zo Dw;have z6:=y6.keep Dw;have K5:Kp UN o h o g5:=K2.trans Dw;have xB:Z9 o g5 B (ak [Q O c1,Q O c2].toArray 71):=⟨K2.Yt _ hB,yB⟩
  have Zvc:=(ZS N5.ZZ.2 N5.pt.store.len).me;have Mg:=Za N5.ZZ.2;have U5:=XP A5.wd.ZZ.2;have jk:=Za A5.wd.ZZ.2;have rx1:hc g5 ⟨g.size,1,an⟩=aa (Q O x.c):=Zn z6.2;have rx2:hc g5 ⟨g.size,2,an⟩=aa (Q O x.s):=Zn z6.2;have rB:rd g5 ⟨B,0,an⟩ 2=aa [Q O c1,Q O c2]:=ZA yB rfl;have zx:=Za z6.2;have zB:=Za yB;refine VS.z (g5.size) [17,21] (.p 0 (.p 1 (.p 2 (.p 3 (.p 4 (.q 5 (.p 6 (.p 7 (.p 8 (.q 9 (.p 10 (.q 11 (.p 12 (.q 13 (.q 14 (.p 15 (.s 16 (.w 17 (.p 18 (.p 19 (.p 20 (.w 21 .nil)))))))))))))))))))))) mixed sV ?_;simp only[go_sem,f0,f1,f6,f10,U5.ZG,Zvc,rx1,rx2,rB,Mg,jk,zx,zB];have k6:=Yv K5.Yt (ak (GQ ⟨n.me,x.c,x.s,c1,c2⟩).toArray 120);have A6:=A5.Zo k6;refine Is (l:=w.ZG) (x:=⟨n.me,x.c,x.s,c1,c2⟩) A6.wd.ZG k6.Yt Zd ht ?_;intro p7 c7 o7 g7 q7 k7;have b7:=A6.wd.ZZ.keep k7 tP;obtain⟨g8,w8,W8,k8⟩:=A6.wd.lj k7 q7 ((XP b7.2).ZeV (U p7 _ c7) rfl);have z7:=Za b7.2;simp only[go_sem,w8,z7];have A8:=A6.Zdj (S:=fun t=>t=.ZG\/t=.world) ((k7.mono fun t q=>.inl q).trans (k8.mono fun t q=>.inr q)) (by rintro t (rfl|rfl)<;>rfl) W8;exact⟨o7,_,(((YQ K5).trans (YQ k6)).trans (YQ k7)).trans (YQ k8),A8⟩
 .have hJ0:¬0<=J:=by rw[hJ];exact fun e=>hm ((Lr _ _).1 e)
  rw[if_neg hm];have ca:=yL T g2 o wb i (YK i) a n x K2.Yt N2 hq hl;unfold Zz Sc at ca;simp only[go_sem,f1,f6,f8,hJ0,r62];refine ca.use ?_;rintro v3 g3 ⟨o3,a3,k3,N3⟩;have k3a:Kp (JH i) o g2 o3 g3:=k3.mono zm;obtain⟨aw,am⟩:=add_same n x;obtain⟨m,xF⟩:=ZP (add n x);rw[<-xF]at N3 aw am ⊢;have W3:=A2.wd.keep k3 (by rintro t (rfl|rfl)<;>simp[Tg.of]);have z6:=y6.keep k3;have P3:=ZS N3.ZZ.2 N3.pt.store.len;have P3w:hc g3 ⟨YK i,53,an⟩=aa a3.Zq:=P3.Zq;have Mf:=Za N3.ZZ.2;have r63:rd g3 ⟨g.size,0,an⟩ 5=aa x.C:=ZA z6.2 rfl;have l63:=Za z6.2;have hmw:m.Zq.length<=1000000000000:=by rw[aw];exact DU
  have K3:Kp Td o h o3 g3:=(YQ K2).trans (YQ k3);simp only[go_sem];refine VS.mono (N:=fun F' g'=>Zk g3.size g3 g'/\F' 1=al (aa ⟨YK i,0,an⟩)/\F' 6=al (aa ⟨g.size,0,an⟩)/\F' 92=aX (!decide (x∈m.Zq))) ?_ ?_ (fun _ _ _ h=>h) (fun _ _ h=>h)
  .refine VS.z (g3.size) [5] (.p 0 (.p 1 (.p 2 (.q 3 (.q 4 (.w 5 (.p 6 .nil))))))) mixed sV ?_;simp only[go_sem,f1,f6,P3w,r63,Mf,l63];refine (Sv T g3 _ m.Zq x N3.pt.Zq.ts mD).use ?_;rintro _ g4 ⟨rfl,b4⟩;simp only[go_sem,b4];exact⟨f1,f6⟩
  clear f0 f1 f6;rintro F4 g4 ⟨b4,f1,f6,f92⟩;have kb4:=ZU K3.Yt b4;have N4:=N3.Zo kb4;have W4:=W3.Zo kb4;have k4a:Kp (JH i) o g2 o3 g4:=k3a.trans (ZY kb4);have K4:Kp Td o h o3 g4:=K3.trans (YQ kb4);by_cases Zdm:x∈m.Zq
  .have e5:Of m x=m:=by unfold Of;rw[if_pos Zdm]
   rw[e5];simp only[go_sem,f92,Zdm];exact⟨o3,_,K4,A2.Yw k4a N4 W4⟩
  .have e5:Of m x = { m with Zq:=m.Zq++[x] }:=by unfold Of;rw[if_neg Zdm]
   rw[e5];have q6:=z6.keep kb4;have P4w:=(ZS N4.ZZ.2 N4.pt.store.len).Zq;obtain⟨pw,cw,hpw,_⟩:=Xm.ZN N4.pt.Zq;have hpw:a3.Zq=U pw m.Zq.length cw:=hpw;have P4w:hc g4 ⟨YK i,53,an⟩=aa (U pw m.Zq.length cw):=by rw[<-hpw];exact P4w
   have IW:=Za N4.ZZ.2;have r64:rd g4 ⟨g.size,0,an⟩ 5=aa x.C:=ZA q6.2 rfl;have l64:=Za q6.2;simp only[go_sem,f92,Zdm];refine VS.z (g4.size) [7,10] (.p 0 (.p 1 (.p 2 (.p 3 (.q 4 (.q 5 (.s 6 (.w 7 (.p 8 (.p 9 (.w 10 .nil))))))))))) mixed sV ?_;simp only[go_sem,f1,f6,P4w,r64,IW,l64];have k5:=Yv K4.Yt (ak x.C.toArray 49);have N5:=N4.Zo k5;have W5:=W4.Zo k5;have Q5:=N5.pt.Zq;rw[hpw]at Q5;refine Kk (l:=m.Zq) Q5 k5.Yt Zd hmw ?_;intro p6 c6 o6 g6 q7 k6;have b6:=N5.ZZ.keep k6 tP;obtain⟨g7,w7,N7,k7⟩:=(N5.pt.Iq k6 q7).write k6.Yt b6 ((XF b6.2 N5.pt.store.len).Zq (U p6 (m.Zq.length+1) c6) rfl);have ze:=Za b6.2;simp only[go_sem,w7,ze];have kk:Kp (JH i) o g2 o6 g7:=((k4a.trans (ZY k5)).trans (k6.mono fun t q=>.inr (.inr (.inr (by rw[q];rfl))))).trans (k7.mono fun t q=>.inr (.inr (.inr (by rw[q];rfl))));exact⟨o6,_,(YQ K2).trans (YQ kk),A2.Yw kk N7 ((W5.keep k6 (by rintro t rfl;simp[Tg.of])).keep k7 (by rintro t rfl;simp[Tg.of]))⟩
def G7(i:Nat)(t:Tg):Prop:=t=.ZX i\/t=.Zi i
set_option maxHeartbeats 4000000 in
theorem G8(T:bk)(h:Hp)(o:Ow)(wb i:Nat)(dv:a0)(jl:List Nat)(Y5:Int)(vv:a0)(TJ:Qo)(d:WY o h)(iD:S9 o h dv jl)(iV:Tw o h vv TJ.l):
  Zg bd T 22 #[Q O i,ba #[dv,Q O Y5],ba #[Q O TJ.p.r,Q O TJ.p.n,vv]] h fun v' h'=>∃nb o' a',v'=Zz nb/\Zk h.size h h'/\Kp (G7 i) o h o' h'/\Z6 o' h' wb i nb a' (Yk i true jl Y5 TJ):=by
 obtain⟨pd,cd,rfl⟩:=iD.1.ZN;obtain⟨pv,cv,rfl⟩:=iV.ZN;refine Zg.XK [_,_,_] Tryz.func22 ?_;unfold Zz;obtain⟨h1,Xp⟩:=ZP ((h.push (ak [U pd (au jl) cd,Q O Y5].toArray 61)).push (ak [Q O TJ.p.r,Q O TJ.p.n,U pv (au TJ.l) cv].toArray 66):Hp);have k1:Kp UN o h o h1:=by rw[Xp];exact ((Kp.refl d _).push _).push _
 have x4:Z9 o h1 h.size (ak [U pd (au jl) cd,Q O Y5].toArray 61):=⟨d _ (aF _),by rw[Xp];exact qf _ _ _⟩
 have x5:Z9 o h1 (h.size+1) (ak [Q O TJ.p.r,Q O TJ.p.n,U pv (au TJ.l) cv].toArray 66):=⟨d _ mD,by rw[Xp];exact tE _ _ _⟩
 have e0:=Xp.symm;have r4:rd h1 ⟨h.size,0,an⟩ 2=aa [U pd (au jl) cd,Q O Y5]:=ZA x4.2 rfl;have r5:rd h1 ⟨h.size+1,0,an⟩ 3=aa [Q O TJ.p.r,Q O TJ.p.n,U pv (au TJ.l) cv]:=ZA x5.2 rfl;simp only[go_sem,e0,r4,r5];obtain⟨A,hA⟩:∃A:NA,A=⟨U pd (au jl) cd,U pv (au TJ.l) cv,an,h1.size,U an 0 0,U an 0 0,U an 0 0,U an 0 0,.nilFunc⟩:=⟨_,rfl⟩
 obtain⟨h2,Tv⟩:=ZP (h1.push (Jk []):Hp);obtain⟨h3,kW⟩:=ZP (h2.push (Ja (Yk i true jl Y5 TJ) A):Hp);have s2:h2.size=h1.size+1:=by rw[Tv];simp
 have ee:h3=(h1.push (.map #[] 0)).push (Ja (Yk i true jl Y5 TJ) A):=by rw[kW,Tv];rfl
 rw[hA]at ee;refine⟨h1.size+1,QI (QI o h1.size (.Zi i)) (h1.size+1) (.ZX i),A,rfl,?_⟩;have k2:Kp (G7 i) o h1 (QI o h1.size (.Zi i)) h2:=by rw[Tv];exact ((Kp.refl k1.Yt _).push _).PI (aF _) sW (.inr rfl)
 have k3:Kp (G7 i) o h1 (QI (QI o h1.size (.Zi i)) (h1.size+1) (.ZX i)) h3:=by rw[kW];exact (k2.push _).PI mD (by rw[aK];omega) (.inl rfl)
 have kx:Kp (fun t=>t=.ZX i) (QI o h1.size (.Zi i)) h2 (QI (QI o h1.size (.Zi i)) (h1.size+1) (.ZX i)) h3:=by rw[kW];exact ((Kp.refl k2.Yt _).push _).PI mD (by rw[aK];omega) rfl
 have m2:UF (QI o h1.size (.Zi i)) (.Zi i) h2 h1.size (Vh Sc []):=⟨XR,by rw[Tv];exact Zd⟩
 have iD3:=(iD.keep k1).keep k3;have iV3:=(iV.keep k1).keep k3;have K3:Kp (G7 i) o h (QI (QI o h1.size (.Zi i)) (h1.size+1) (.ZX i)) h3:=(ZY k1).trans k3;have st:Lp QO:=Lp.yN sV;show Zk h.size h ((h1.push (.map #[] 0)).push (Ja (Yk i true jl Y5 TJ) ⟨U pd (au jl) cd,U pv (au TJ.l) cv,an,h1.size,U an 0 0,U an 0 0,U an 0 0,U an 0 0,.nilFunc⟩))/\Kp (G7 i) o h _ ((h1.push (.map #[] 0)).push (Ja (Yk i true jl Y5 TJ) ⟨U pd (au jl) cd,U pv (au TJ.l) cv,an,h1.size,U an 0 0,U an 0 0,U an 0 0,U an 0 0,.nilFunc⟩))/\Z6 _ ((h1.push (.map #[] 0)).push (Ja (Yk i true jl Y5 TJ) ⟨U pd (au jl) cd,U pv (au TJ.l) cv,an,h1.size,U an 0 0,U an 0 0,U an 0 0,U an 0 0,.nilFunc⟩)) wb i (h1.size+1) A (Yk i true jl Y5 TJ);rw[<-ee];refine⟨by rw[kW,Tv,Xp];exact ((((Zk.refl _ _).add _).add _).add _).add _,K3,⟨XR,by rw[kW,<-s2];exact Zd⟩,?_⟩;rw[hA];exact⟨iD3,iV3,trivial,m2.keep kx tP,Xm.nil _ _ _ _ _,Xm.nil _ _ _ _ _,Xm.nil _ _ _ _ _,⟨[],rfl,Xm.nil _ _ _ _ _,fun x hx=>by cases hx⟩,rfl,st⟩
theorem bO{S:Tg->Prop}{o':Ow}{h':Hp}(k:Kp S o h o' h'){b:Nat}{t u:Tg}(hb:o' b=aa t)(ht:S t)(hu:S u):Kp S o h (QI o' b u) h':=by
 refine⟨k.size,fun c hc hn=>⟨(k.keep c hc hn).1,?_⟩,fun c hc v hv hs=>?_,fun c hc v hv=>?_,fun c hc=>?_⟩
 .by_cases e:c=b
  .subst e;have:=(k.keep c hc hn).2;rw[hb]at this;exact (hn t this.symm ht).elim
  .rw[XY e];exact (k.keep c hc hn).2
 .by_cases e:c=b
  .subst e;exact⟨u,XR,hu⟩
  .rw[XY e];exact k.stay c hc v hv hs
 .by_cases e:c=b
  .subst e;rw[XR]at hv;cases hv;exact hu
  .rw[XY e]at hv;exact k.new c hc v hv
 .by_cases e:c=b
  .subst e;rw[k.Yt c hc]at hb;cases hb
  .rw[XY e];exact k.Yt c hc
def G9(i:Nat)(t:Tg):Prop:=t=.Zh i\/t=.ZL i\/t=.Xz i
theorem qC{i nb:Nat}{a:NA}{n:Nd}(d:WY o h)(N:Z6 o h wb i nb a n):
  ∃o',Kp (G9 i) o h o' h/\Ym o' h wb i nb { a with Zh:=an } { n with Zh:=an,Zp:=Xz n.Zp }/\o' nb=aa (.ZX i):=by
 have key:∀o',Kp (G9 i) o h o' h->WQ o' h wb i nb an a.Zp (Xz n.Zp)->Ym o' h wb i nb { a with Zh:=an } { n with Zh:=an,Zp:=Xz n.Zp }:=fun o' k p=>
  ⟨N.pt.data.keep k,N.pt.XO.keep k,trivial,N.pt.Zi.keep k (by rintro (e|e|e)<;>cases e),N.pt.ZI.keep k (by rintro (e|e|e)<;>cases e),N.pt.ZB.keep k (by rintro (e|e|e)<;>cases e),N.pt.Zq.keep k (by rintro (e|e|e)<;>cases e),N.pt.Zf.keep k (by rintro (e|e|e)<;>cases e),p,N.pt.store⟩
 have hp:=N.pt.Zp;have hR:=N.pt.Zh
 cases Km:a.Zh with
 | none=>
  rw[Km]at hp;refine⟨o,Kp.refl d _,key o (Kp.refl d _) ?_,N.ZZ.1⟩
  match hn:n.Zp,hp with
  | none,hp=>exact hp
  | some (.Q8 _ _ _ _),hp=>exact hp
  | some (.Wo _ _ _),hp=>exact hp
  | some (.Zr _ _ false),hp=>exact hp
  | some (.Zr _ _ true),⟨b6,b4,b7,b5,w,rb,h1,h2,h3,h4,h5,h6,a',h7,_⟩=>cases h7
 | some ra=>
  rw[Km]at hp hR;obtain⟨r,hr⟩:∃r,n.Zh=aa r:=by
   cases hx:n.Zh with
   | none=>rw[hx]at hR;exact hR.elim
   | some r=>exact⟨r,rfl⟩
  rw[hr]at hR;have hR:XA o i h ra r:=hR;have Xb:ra.rb≠ra.pb:=fun e=>by
   have h1:=hR.ZZ.1;have h2:=hR.ZL.1;rw[e,h2]at h1;cases h1
  have k1:Kp (G9 i) o h (QI o ra.rb (.Xz i)) h:=bO (Kp.refl d (G9 i)) hR.ZZ.1 (.inl rfl) (.inr (.inr rfl));have nM:QI o ra.rb (.Xz i) ra.pb=aa (.ZL i):=by rw[XY (fun e=>Xb e.symm)];exact hR.ZL.1
  have k2:Kp (G9 i) o h (QI (QI o ra.rb (.Xz i)) ra.pb (.Xz i)) h:=bO k1 nM (.inr (.inl rfl)) (.inr (.inr rfl));obtain⟨o2,ho2⟩:=ZP (QI (QI o ra.rb (.Xz i)) ra.pb (.Xz i));rw[<-ho2]at k2;have s1:o2 ra.rb=aa (.Xz i):=by rw[ho2,XY Xb];exact XR
  have s2:o2 ra.pb=aa (.Xz i):=by rw[ho2];exact XR
  have so:∀b,b≠ra.rb->b≠ra.pb->o2 b=o b:=fun b e1 e2=>by rw[ho2,XY e2,XY e1]
  have sst:∀b,o b=aa (.Xz i)->o2 b=aa (.Xz i):=fun b hb=>by
   by_cases e1:b=ra.rb
   .rw[e1];exact s1
   .by_cases e2:b=ra.pb
    .rw[e2];exact s2
    .rw[so b e1 e2];exact hb
  have Vg:o2 nb=aa (.ZX i):=by
   rw[so nb (fun e=>by have:=N.ZZ.1;rw[e,hR.ZZ.1]at this;cases this) (fun e=>by have:=N.ZZ.1;rw[e,hR.ZL.1]at this;cases this)];exact N.ZZ.1
  refine⟨o2,k2,key o2 k2 ?_,Vg⟩
  match hn:n.Zp,hp with
  | none,hp=>exact hp
  | some (.Q8 a to b vs),⟨b6,b4,b9,u,h1,h2,h3,h4,h5⟩=>exact⟨b6,b4,b9,u,h1,h2.keep k2,h3.keep k2,h4.keep k2,h5.keep k2⟩
  | some (.Wo a to x),⟨b6,b4,b9,u,h1,h2,h3,h4,h5⟩=>exact⟨b6,b4,b9,u,h1,h2.keep k2,h3.keep k2,h4.keep k2,h5.keep k2⟩
  | some (.Zr a vs cur),⟨b6,b4,b7,b5,w,rb,h1,h2,h3,h4,h5,h6,h7⟩=>
   refine⟨b6,b4,b7,b5,w,rb,h1,h2.keep k2,h3.keep k2,h4.keep k2,h5.keep k2,h6.keep k2,?_⟩;rw[if_neg sW]
   cases cur with
   | false=>
    rw[if_neg sW]at h7;obtain⟨cs,pb,pv,g1,g2,g3⟩:=h7;exact⟨cs,pb,pv,⟨sst _ g1.1,g1.2⟩,g2,sst _ g3.1,g3.2⟩
   | true=>
    rw[if_pos rfl]at h7;obtain⟨a',q1,q2⟩:=h7;obtain rfl:=Option.some.inj q1;rw[<-q2];exact⟨_,ra.pb,ra.pv,⟨s1,hR.ZZ.2⟩,rfl,s2,hR.ZL.2⟩
theorem Zdn{i nb:Nat}{ra:Option RA}{v:a0}{p:Option Ny}(s:WQ o h wb i nb an v (Xz p)):WQ o h wb i nb ra v (Xz p):=by
 match p,s with
 | none,s=>exact s
 | some (.Q8 _ _ _ _),s=>exact s
 | some (.Wo _ _ _),s=>exact s
 | some (.Zr _ _ _),s=>exact s
set_option maxHeartbeats 4000000 in
theorem Zdo(T:bk)(h:Hp)(o:Ow)(wb i nb:Nat)(a:NA)(n:Nd)(d:WY o h)(N:Z6 o h wb i nb a n)(hb:n.Zr.p.r<=1000000000000/\n.Ye.r<=1000000000000 /\ -1000000000000<=n.Zr.p.r /\ -1000000000000<=n.Ye.r)(hr:∀r,n.Zh=aa r->r.b.r<=1000000000000 /\ -1000000000000<=r.b.r):
  Zg bd T 24 #[Zz wb,Zz nb] h fun v' h'=>∃o' a',Kp (fun t=>t.of=aa i) o h o' h'/\Z6 o' h' wb i nb a' (lead n):=by
 refine Zg.I4 (args:=#[_,_]) Tryz.func24 rfl rfl rfl ?_;obtain⟨M,hM⟩:=ZP (max n.Zr.p.r n.Ye.r+1);refine VS.seq (VS.mono (N:=fun F' g'=>F' 1=al (aa ⟨nb,0,an⟩)/\Zk h.size h g'/\∃kb,h.size<=kb/\F' 4=al (aa ⟨kb,0,an⟩)/\g'[kb]? = aa (ak [Q O M,Q O n.me].toArray 63)) ?_ ?_ (fun _ _ _ h=>h) (fun _ _ h=>h))
 .refine Qr _ _ _ _ _ _ rfl ?_;unfold Zz;have P:=ZS N.ZZ.2 N.pt.store.len;have Vg:=Za N.ZZ.2;simp only[go_sem];refine VS.z (h.size) [19] (.p 0 (.p 1 (.p 2 (.p 3 (.p 4 (.q 5 (.p 6 (.p 7 (.p 8 (.p 9 (.q 10 (.p 11 (.p 12 (.p 13 (.p 14 (.p 15 (.q 16 (.p 17 (.s 18 (.w 19 .nil)))))))))))))))))))) mixed sV ?_;simp only[go_sem,P.Zt9,P.ZgT,P.me,Vg];have em:(if n.Ye.r>n.Zr.p.r then n.Ye.r else n.Zr.p.r)+1=M:=by
   rw[hM];split<;>omega
  rw[em];exact⟨_,aF _,rfl,Zd⟩
 rintro F1 g1 ⟨f1,b1,kb,hkb,f4,y4⟩;refine VS.seq (VS.mono (N:=fun F' g'=>F' 1=al (aa ⟨nb,0,an⟩)/\F' 4=al (aa ⟨kb,0,an⟩)/\Zk h.size h g'/\g'[kb]? = aa (ak [Q O (YM n).r,Q O n.me].toArray 63)) ?_ ?_ (fun _ _ _ h=>h) (fun _ _ h=>h))
 .refine Qr _ _ _ _ _ _ rfl ?_;have k1:=ZU d b1;have N1:=N.Zo k1;have P1:=ZS N1.ZZ.2 N1.pt.store.len;have P1r:=P1.Zh;have QV:=Za N1.ZZ.2;have l4:=Za y4;have r4:hc g1 ⟨kb,0,an⟩=aa (Q O M):=Zn y4
  cases Km:a.Zh with
  | none=>
   rw[Km]at P1r;unfold Me at P1r;have hn:n.Zh=an:=by
    have:=N.pt.Zh;rw[Km]at this
    cases hx:n.Zh with
    | none=>rfl
    | some r=>rw[hx]at this;exact this.elim
   have e1:(YM n).r=M:=by unfold YM;rw[hn,hM]
   rw[e1];simp only[go_sem,f1,P1r];exact⟨f4,b1,y4⟩
  | some ra=>
   rw[Km]at P1r;unfold Me Zz at P1r;obtain⟨r,hn⟩:∃r,n.Zh=aa r:=by
    have:=N.pt.Zh;rw[Km]at this
    cases hx:n.Zh with
    | none=>rw[hx]at this;exact this.elim
    | some r=>exact⟨r,rfl⟩
   have R1:XA o i g1 ra r:=by have:=N1.pt.Zh;rw[Km,hn]at this;exact this
   have dV:=Za R1.ZZ.2;have rr0:hc g1 ⟨ra.rb,0,an⟩=aa (Q O r.b.r):=Zn R1.ZZ.2;have e1:(YM n).r=max M (r.b.r+1):=by unfold YM;rw[hn,hM]
   obtain⟨BG,hr2⟩:=hr r hn;obtain⟨Z,hZ⟩:=ZP ((YM n).r);have hz:(if r.b.r+1>M then r.b.r+1 else M)=Z:=by
    rw[hZ,e1];split<;>omega
   rw[<-hZ];have w4:QF g1 ⟨kb,0,an⟩ (Q O Z)=aa (g1.setIfInBounds kb (ak [Q O Z,Q O n.me].toArray 63)):=by rw[Xk y4 0 _];rfl
   simp only[go_sem,f1,P1r];refine VS.z (g1.size) [10] (.p 0 (.q 1 (.p 2 (.p 3 (.p 4 (.p 5 (.q 6 (.p 7 (.p 8 (.p 9 (.w 10 .nil))))))))))) mixed sV ?_;simp only[go_sem,f1,f4,P1r,r4,rr0,dV,l4,hz,w4];exact⟨b1.Zu hkb _,ZQ y4⟩
 clear f1 f4 y4 b1;rintro F3 g3 ⟨f1,f4,b3,y4⟩;refine Qr _ _ _ _ _ _ rfl ?_;have k3:=ZU d b3;have N3:=N.Zo k3;have P3:=ZS N3.ZZ.2 N3.pt.store.len;have P3u:=P3.up;have Mf:=Za N3.ZZ.2;have l4:=Za y4;have r4a:hc g3 ⟨kb,0,an⟩=aa (Q O (YM n).r):=Zn y4
 cases hu:n.up with
 | false=>
  rw[hu]at P3u;have e1:lead n=n:=by unfold lead;rw[if_pos (.inl hu)]
  rw[e1];simp only[go_sem,f1,P3u];exact⟨o,a,ZY k3,N3⟩
 | true=>
 rw[hu]at P3u;by_cases c:65536<(YM n).r
 .have e1:lead n=n:=by unfold lead;rw[if_pos (.inr c)]
  rw[e1];have c':(YM n).r>65536:=c;simp only[go_sem,f1,f4,P3u,r4a,c,c'];exact⟨o,a,ZY k3,N3⟩
 have e1:lead n = { n with Zh:=aa ⟨YM n,[],false,[],[]⟩,Zp:=Xz n.Zp }:=by
  unfold lead;rw[if_neg];rintro (e|e)
  .rw[hu]at e;cases e
  .exact c e
 rw[e1];have c':¬(YM n).r>65536:=c;have r4:rd g3 ⟨kb,0,an⟩ 2=aa [Q O (YM n).r,Q O n.me]:=ZA y4 rfl;obtain⟨o2,k2,pt2,Q3⟩:=qC k3.Yt N3;obtain⟨ra,Km⟩:∃ra:RA,ra=⟨g3.size+3,g3.size,g3.size+1,g3.size+2,[],[]⟩:=⟨_,rfl⟩
 obtain⟨r,hr0⟩:∃r:XM,r=⟨YM n,[],false,[],[]⟩:=⟨_,rfl⟩
 obtain⟨p1,nM⟩:=ZP (g3.push (Jk []):Hp);obtain⟨p2,vF⟩:=ZP (p1.push (Jk []):Hp);obtain⟨p3,hp3⟩:=ZP (p2.push (Jk []):Hp);obtain⟨p4,hp4⟩:=ZP (p3.push (ak (iS r ra).toArray 126):Hp);have s1:p1.size=g3.size+1:=by rw[nM];simp
 have s2:p2.size=g3.size+2:=by rw[vF,aK,s1]
 have s3:p3.size=g3.size+3:=by rw[hp3,aK,s2]
 have s4:p4.size=g3.size+4:=by rw[hp4,aK,s3]
 have q1:p4[g3.size]? = aa (Jk []):=by rw[hp4,ZF mD,hp3,ZF mD,vF,ZF mD,nM];exact Zd
 have q2:p4[g3.size+1]? = aa (Jk []):=by rw[hp4,ZF mD,hp3,ZF mD,vF,<-s1];exact Zd
 have q3:p4[g3.size+2]? = aa (Jk []):=by rw[hp4,ZF mD,hp3,<-s2];exact Zd
 have q4:p4[g3.size+3]? = aa (ak (iS r ra).toArray 126):=by rw[hp4,<-s3];exact Zd
 have kp:Kp (JL i) o2 g3 o2 p4:=by rw[hp4,hp3,vF,nM];exact ((((Kp.refl k2.Yt _).push _).push _).push _).push _
 have ka:=kp.PI (b:=g3.size) (t:=.ZL i) (aF _) mD (.inr (.inl rfl));have kb':=ka.PI (b:=g3.size+1) (t:=.Yj i) mD mD (.inr (.inr (.inl rfl)));have kc:=kb'.PI (b:=g3.size+2) (t:=.YY i) mD mD (.inr (.inr (.inr (.inl rfl))));have k5:=kc.PI (b:=g3.size+3) (t:=.Zh i) mD mD (.inl rfl);obtain⟨o5,ho5⟩:=ZP (QI (QI (QI (QI o2 g3.size (.ZL i)) (g3.size+1) (.Yj i)) (g3.size+2) (.YY i)) (g3.size+3) (.Zh i));rw[<-ho5]at k5;clear ka kb' kc kp;have t1:o5 g3.size=aa (.ZL i):=by rw[ho5,XY mD,XY mD,XY mD];exact XR
 have t2:o5 (g3.size+1)=aa (.Yj i):=by rw[ho5,XY mD,XY mD];exact XR
 have t3:o5 (g3.size+2)=aa (.YY i):=by rw[ho5,XY mD];exact XR
 have t4:o5 (g3.size+3)=aa (.Zh i):=by rw[ho5];exact XR
 have R5:XA o5 i p4 ra r:=by
  rw[Km,hr0];rw[Km,hr0]at q4;exact⟨⟨t4,q4⟩,⟨t1,q1⟩,.nil,⟨t2,q2⟩,⟨t3,q3⟩,.nil,sW⟩
 have en:∀t:Tg,(t=.Zi i\/t=.ZI i\/t=.ZB i\/t=.Zq i\/t=.Zf i\/t=.Xz i\/t=.ZX i)->¬JL i t:=by
  intro t ht hr;rcases ht with rfl|rfl|rfl|rfl|rfl|rfl|rfl<;>rcases hr with e|e|e|e|⟨s,e⟩<;>cases e
 have pn:WQ o5 p4 wb i nb (aa ra) a.Zp (Xz n.Zp):=Zdn (pt2.Zp.keep k5 (en _ sW));have pt5:Ym o5 p4 wb i nb { a with Zh:=aa ra } { n with Zh:=aa r,Zp:=Xz n.Zp }:=
  ⟨pt2.data.keep k5,pt2.XO.keep k5,R5,pt2.Zi.keep k5 (en _ sW),pt2.ZI.keep k5 (en _ sW),pt2.ZB.keep k5 (en _ sW),pt2.Zq.keep k5 (en _ sW),pt2.Zf.keep k5 (en _ sW),pn,pt2.store⟩
 have B5:Wf o5 (.ZX i) p4 nb (Ja n a):=Wf.keep (o:=o2) ⟨Q3,N3.ZZ.2⟩ k5 (en _ sW);obtain⟨g6,w6,N6,k6⟩:=Ym.write pt5 k5.Yt B5 ((XF B5.2 N.pt.store.len).Zh (aa ra));have Mg:=Za B5.2;have ee:p4=(((g3.push (.map #[] 0)).push (.map #[] 0)).push (.map #[] 0)).push (ak #[Q O (YM n).r,Q O n.me,.map (aa g3.size),aX false,.map (aa (g3.size+1)),.map (aa (g3.size+2))] 126):=by
  rw[hp4,hp3,vF,nM,Km,hr0];rfl
 have w6':QF p4 ⟨nb,9,an⟩ (al (aa ⟨g3.size+3,0,an⟩))=aa g6:=by rw[<-w6,Km];rfl
 have ee':=ee.symm;rw[hr0]at N6;simp only[go_sem,f1,f4,P3u,r4a,c,c',r4,ee',w6',Mg];refine⟨o5,_,((ZY k3).trans (k2.mono fun t q=>?_)).trans ((k5.mono fun t q=>Kj q).trans (k6.mono fun t q=>by rw[q];rfl)),N6⟩;rcases q with rfl|rfl|rfl<;>rfl
theorem Zhj{l:List Nat}{a r:Qo}{k j:Nat}(h:Rec l a k r j):∀f,(au l)+1<=k+f->GO l f a k=(r,j):=by
 induction h with
 | stop e=>
  intro f hf
  cases f with
  | zero=>rfl
  | succ f=>unfold GO;rw[e]
 | @go a a' r k k' j e _ ih=>
  intro f hf;have e':=e;unfold Y6 at e';split at e'
  .rename_i q;rw[Option.map_eq_some_iff]at e';obtain⟨x,_,hx⟩:=e';have hk:k'=k+(WP l k+4):=(congrArg Prod.snd hx).symm
   cases f with
   | zero=>omega
   | succ f=>
    unfold GO;rw[e];exact ih f mD
  .cases e'
theorem OV{l:List Nat}{r:Qo}{k:Nat}(h:Rec l JG 0 r k):Tb l=(r,k):=Zhj h _ mD
theorem DC{YK:Nat->Nat}{Xu:WA}{fl:List Yn}{YA:Nat->Int}{ZG:List OS}(d:WY o h)(W:Z0 o h wb YK Xu fl YA ZG)(i nb:Nat)(hi:i<5):
  ∃b off c g,Xu.Zc=U (aa ⟨b,off,an⟩) 5 c/\QF h ⟨b,off+i,an⟩ (Zz nb)=aa g/\Kp (fun t=>t=.Zc) o h o g/\Z0 o g wb (fun j=>if j=i then nb else YK j) Xu fl YA ZG:=by
 rcases hw:W.Zc with⟨_,e,_⟩|⟨b,off,cap,pre,ZE,g1,g2,g3,g4,g5,g6,g7⟩
 .cases e
 have hw':QF h ⟨b,off+i,an⟩ (Zz nb)=aa (h.setIfInBounds b (ak (pre++([Zz (YK 0),Zz (YK 1),Zz (YK 2),Zz (YK 3),Zz (YK 4)].set i (Zz nb)++ZE)).toArray 59)):=by
  rw[Xk g3,if_pos ⟨by simp only[aI,bA];omega,rfl⟩];rw[<-g4,List.set_append_right _ _ mD,bf,List.set_append_left _ _ (by simpa using hi)]
 have kk:Kp (fun t=>t=.Zc) o h o (h.setIfInBounds b (ak (pre++([Zz (YK 0),Zz (YK 1),Zz (YK 2),Zz (YK 3),Zz (YK 4)].set i (Zz nb)++ZE)).toArray 59)):=(Kp.refl d (fun t=>t=.Zc)).set g1 rfl _;refine⟨b,off,cap,_,g2,hw',kk,W.ZZ.keep kk tP,?_,W.Zm.keep kk tP,W.ZG.keep kk tP⟩;refine .inr ⟨b,off,cap,pre,ZE,g1,g2,?_,g4,rfl,g6,g7⟩;rw[ZQ g3]
 match i,hi with
 | 0,_=>rfl
 | 1,_=>rfl
 | 2,_=>rfl
 | 3,_=>rfl
 | 4,_=>rfl
def Rd(k n a b:Int)(d:a0):List a0:=[Q O k,Q O n,Q O a,Q O b,d]
structure WOk(w:Wd):Prop where
 me:∀i,i<5->(w.Zc i).me=i
 step:∀i,i<5->ji (w.Zc i) w.Zm.length w.ZG.length
 ZB:∀i,i<5->(w.Zc i).ZB.length<=100000000000
 ZI:∀i,i<5->(w.Zc i).ZI.length<=100000000000
 Zq:∀i,i<5->(w.Zc i).Zq.length<=100000000000
 Zf:∀i,i<5->(w.Zc i).Zf.length<=100000000000
 data:∀i,i<5->(w.Zc i).data.length<=1000000
 ZG:w.ZG.length<=100000000000
 YA:∀i,i<5->0<=w.YA i/\w.YA i<=1000000000000
 Zvf:∀i,i<5->(w.Zc i).Zr.p.r<=1000000000000/\(w.Zc i).Ye.r<=1000000000000 /\ -1000000000000<=(w.Zc i).Zr.p.r /\ -1000000000000<=(w.Zc i).Ye.r
 Kn:∀i,i<5->∀r,(w.Zc i).Zh=aa r->r.b.r<=1000000000000 /\ -1000000000000<=r.b.r
 to:∀l∈w.Zm,0<=l.to/\l.to<5
 room:w.Zm.length<=100000000000
theorem Qv.fresh{o':Ow}{h':Hp}{YK:Nat->Nat}{Xu:WA}{w:Wd}{i nb:Nat}{a:NA}{n:Nd}(A:Qv o h wb YK Xu w)(k:Kp (fun t=>t=.Zc\/t.of=aa i) o h o' h')(N:Z6 o' h' wb i nb a n)(W:Z0 o' h' wb (fun j=>if j=i then nb else YK j) Xu w.Zm w.YA w.ZG):Qv o' h' wb (fun j=>if j=i then nb else YK j) Xu (w.set i n):=by
 refine⟨W,fun j hj=>?_⟩;by_cases e:j=i
 .subst e;refine⟨a,?_⟩;unfold Wd.set
  simpa using N
 .obtain⟨b,M⟩:=A.nd j hj;refine⟨b,?_⟩;unfold Wd.set;simp only[if_neg e];refine M.keep k fun t q hq=>?_;rcases q with rfl|q
  .cases hq
  .rw[hq]at q;exact e (Option.some.inj q)
theorem bP(w:Wd)(i:Nat):w.set i (w.Zc i)=w:=by
 unfold Wd.set;have:(fun j=>if j=i then w.Zc i else w.Zc j)=w.Zc:=by
  funext j;split
  .next e=>rw[e]
  .rfl
 rw[this]
theorem Fa{h':Hp}{p:Option Addr}{c:Nat}{L:List Nat}(d:WY o h')(hb:Bs h' (U p (au L) c) L)(hc:(au L)<=c)(hf:∀b,Ya (U p (au L) c)=aa b->o b=an/\b<h'.size):S9 o h' (U p (au L) c) L:=
 ⟨⟨hb.sl,⟨p,c,rfl,hc⟩,fun b q=>⟨(hf b q).2,(hf b q).1⟩⟩,hb.byte⟩
theorem bQ{v:a0}{l:List Nat}{k:Nat}(d:WY o h)(s:S9 o h v l)(hk:k<h.size)(hv:∀b,Ya v=aa b->b≠k)(x:Obj):S9 o (h.setIfInBounds k x) v l:=by
 have d2:WY (QI o k Tg.Zc) h:=fun b hb=>by rw[XY mD];exact d b hb
 have s2:S9 (QI o k Tg.Zc) h v l:=⟨⟨s.1.sl,s.1.fits,fun b hb=>⟨(s.1.free b hb).1,by rw[XY (hv b hb)];exact (s.1.free b hb).2⟩⟩,s.2⟩
 have k2:Kp (fun t=>t=Tg.Zc) (QI o k Tg.Zc) h (QI o k Tg.Zc) (h.setIfInBounds k x):=(Kp.refl d2 (fun t=>t=Tg.Zc)).set XR rfl x;have s3:=s2.keep k2;exact⟨⟨s3.1.sl,s3.1.fits,fun b hb=>⟨(s3.1.free b hb).1,(s.1.free b hb).2⟩⟩,s3.2⟩
theorem jm(i:Nat)(n:Nd)(k:Int)(L:List Nat)(Z E:Int)(hu:n.up=true)(h:PT n.data n.Y5 k=(L,Z,E)):Yo i n k = { Yk i true L Z JG with up:=false }:=by
 unfold Yo;rw[if_pos hu];unfold PT at h;by_cases c:YT n.data n.Y5
 .rw[if_pos (show (au n.data)<=100000/\0<=n.Y5/\n.Y5<=(au n.data) from c)]at h;by_cases q:k<0
  .rw[if_pos q]at h
   cases h
   rw[if_neg (fun e=>by have:=e.2;omega)];rfl
  .rw[if_neg q]at h
   cases h
   rw[if_pos ⟨c,mD⟩];rfl
 .rw[if_neg (show ¬((au n.data)<=100000/\0<=n.Y5/\n.Y5<=(au n.data)) from c)]at h
  cases h
  rw[if_neg (fun e=>c e.1)];rfl
theorem jn(w:Wd)(l:Yn)(i:Nat):((JP w l).Zc i).Zf.length<=(w.Zc i).Zf.length+1:=by
 unfold JP;split
 .unfold Wd.set;simp only;split
  .next e=>subst e;simp
  .omega
 .omega
theorem bT(i:Nat):∀(ls:List Yn) (w:Wd),((ls.foldl JP w).Zc i).Zf.length<=(w.Zc i).Zf.length+(au ls):=by
 intro ls
 induction ls with
 | nil=>intro w;simp
 | cons l ls ih=>
  intro w;have h1:=ih (JP w l);have h2:=jn w l i;simp only[List.foldl_cons,bA];omega
end Go.Proofs.YtnhfdnlcpdbjlaaGreatDoor
