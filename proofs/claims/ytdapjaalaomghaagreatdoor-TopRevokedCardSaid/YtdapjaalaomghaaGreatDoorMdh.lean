import Derived.Test.YtdapjaalaomghaaGreatDoorMoy
open Go.Value renaming int→Q,slice→U,pointer→ae,bool→a6,agg→be
open Go.IntKind renaming i64→O
open Go.Obj renaming cells→ab
open Go.Proofs.Tryz renaming prog→bg
open List renaming length→ao,length_append→aU,append_nil→a5,append_assoc→a8,length_map→a9,range→ba,eraseIdx_eq_take_drop_succ→bf,getElem?_eq_getElem→bo,getElem_map→bp,getElem_mem→bC,length_cons→bG,map_append→bP,nil_append→bQ,map→bR
open Nat renaming le_refl→aq,add_sub_cancel_left→bh
open Option renaming isSome_none→bc,isSome_some→bd,getD_none→bk,getD_some→bl,map_none→bt,map_some→bA,some→aa,none→al
open Array renaming size_push→a0
open And renaming intro→bS
open Go renaming Value→a7,World→bn
namespace Go.Proofs.YtdapjaalaomghaaGreatDoor
open Go Go.V
set_option linter.all false
set_option maxRecDepth 100000
variable{h:Hp}{o:Ow}{wb:Nat}
theorem UP{α:Type}(f:Nat->List α)(m:Nat):(ba (m+1)).flatMap f=(ba m).flatMap f++f m:=by
 rw[List.range_succ,List.flatMap_append];simp
theorem TG{α:Type}(f:Nat->List α)(k m:Nat)(h:∀i,(f i).length<=k):((ba m).flatMap f).length<=m*k:=by
 induction m with
 | zero=>simp
 | succ m ih=>rw[UP,aU,Nat.add_mul];have:=h m;omega
theorem rL{n n':Nd}(hk:n.Zh=n'.Zh)(r:Xw)(x:Cm):∀k s,Qe n r x k s=Qe n' r x k s:=by
 intro k
 induction k with
 | zero=>intro s;rfl
 | succ k ih=>intro s;unfold Qe;rw[hk,ih]
theorem BT{n n':Nd}(hk:n.Zh=n'.Zh)(hl:n.Zw=n'.Zw)(r:Xw)(x:Cm):free n r x=free n' r x:=by
 unfold free;rw[hl,rL hk]
theorem zZ{n n':Nd}(hk:n.Zh=n'.Zh)(hl:n.Zw=n'.Zw)(r:Xw)(x:Cm):J4 n r x=J4 n' r x:=by
 unfold J4;rw[BT hk hl]
theorem jD{n n':Nd}(hk:n.Zh=n'.Zh)(hl:n.Zw=n'.Zw):∀(l:List Cm) (r:Xw),Jb n r l=Jb n' r l:=by
 intro l
 induction l with
 | nil=>intro r;rfl
 | cons x l ih=>intro r;show Jb n (J4 n r x) l=Jb n' (J4 n' r x) l;rw[zZ hk hl,ih]
theorem rM{n n':Nd}(hk:n.Zh=n'.Zh)(LL:List (List Vt)):J2 n LL=J2 n' LL:=by
 funext pr s;unfold J2;rw[hk]
theorem rN{n n':Nd}(hk:n.Zh=n'.Zh)(hl:n.Zw=n'.Zw)(r:Xw):Wq n r=Wq n' r:=by
 unfold Wq;rw[hl,rM hk]
theorem ZdQ{n n':Nd}(hk:n.Zh=n'.Zh)(hm:n.me=n'.me)(r:Xw):WU n r=WU n' r:=by
 funext s;unfold WU Pe;rw[hk,hm]
theorem Zaa{n n':Nd}(hk:n.Zh=n'.Zh)(hm:n.me=n'.me)(r:Xw):Wr n r=Wr n' r:=by
 unfold Wr;rw[ZdQ hk hm]
set_option maxHeartbeats 4000000 in
theorem ZdR(T:bn)(h:Hp)(o:Ow)(wb i nb:Nat)(YM:Nat->Nat)(a:NA)(n:Nd)(ra:RA)(r:Xw)(Xt:WA)(fl:List YF)(Yw:Nat->Int)(ZA:List PS)(d:Vx o h)(N:Z5 o h wb i nb { a with Zg:=aa ra } { n with Zg:=aa r })(W:ZY o h wb YM Xt fl Yw ZA)(tb:fK o h)(Y5:(ao fl)<=900000000000)(zf:n.Zm.l.length<=1000000)(uy:(ao n.data)<=1000000)(hp:∀x∈r.ZF,x.2.length<=1000000)(hs:∀x∈r.ZF,∀v∈x.2,v.Zt<=1000000)(MG:r.ZF.length<=1000000000000)(hl:n.Zw.length<=1000000000000)(hq:n.Zr.length<=1000000000000):
  Zd bg T 91 #[Zx wb,Zx nb,Zx ra.rb] h fun v' h'=>∃o' a' Jv,Kp (JR i) o h o' h'/\Z5 o' h' wb i nb a' (Js { n with Zg:=aa r } r).n/\ZY o' h' wb YM Jv (fl++(Js { n with Zg:=aa r } r).ls) Yw ZA:=by
 refine Zd.XT [_,_,_] Tryz.func91 ?_;obtain⟨h1,Xm⟩:=ZN ((h.push (ab [Zx nb].toArray 97)).push (ab [Zx ra.rb].toArray 105):Hp);have k1:Kp WL o h o h1:=by rw[Xm];exact ((Kp.refl d _).push _).push _
 have x4:Ya o h1 h.size (ab [Zx nb].toArray 97):=⟨d _ (aq _),by rw[Xm];exact rD _ _ _⟩
 have x5:Ya o h1 (h.size+1) (ab [Zx ra.rb].toArray 105):=⟨d _ nT,by rw[Xm];exact uC _ _ _⟩
 have e0:=Xm.symm;unfold Zx at e0 ⊢;have N1:=N.Zn k1;have W1:=W.Zn k1;have R1:Xx o i h1 ra r:=N1.pt.Zg;obtain⟨q0,q2,q3,q4,q5⟩:=R1.rr;have P1:=ZP N1.ZW.2 N1.pt.store.len;have l4:=Za x4.2;have l5:=Za x5.2;have fM:=Za R1.ZW.2;have Q3:=Za N1.ZW.2;have r4:hc h1 ⟨h.size,0,al⟩=aa (Zx nb):=Zl x4.2;have r5:hc h1 ⟨h.size+1,0,al⟩=aa (Zx ra.rb):=Zl x5.2;unfold Zx at r4 r5;have P1p:rd h1 ⟨nb,4,al⟩ 2=aa (Qz n.Zm.p):=P1.cN;simp only[go_sem,e0];refine VS.mono (N:=fun F' g'=>Zj h1.size h1 g'/\F' 0=ae (aa ⟨wb,0,al⟩)/\F' 4=ae (aa ⟨h.size,0,al⟩)/\F' 5=ae (aa ⟨h.size+1,0,al⟩)/\F' 35=a6 (decide (ZE n.Zm.p r.b))) ?_ ?_ (fun _ _ _ h=>h) (fun _ _ h=>h)
 .refine VS.z (h1.size) [9] (.q 0 (.p 1 (.p 2 (.q 3 (.q 4 (.p 5 (.p 6 (.p 7 (.q 8 (.w 9 .nil)))))))))) mixed uj ?_;simp only[go_sem,r4,r5,q0,P1p,l4,l5,fM,Q3];refine (LQ T h1 r.b n.Zm.p).use ?_;rintro _ g ⟨rfl,b⟩;simp only[go_sem,b]
 rintro F1 g1 ⟨b1,f0,f4,f5,f35⟩;have kb:=ZX k1.Yp b1
 replace N1:=N1.Zn kb
 replace W1:=W1.Zn kb
 replace k1:=k1.trans kb
 replace x4:=x4.Ze kb
 replace x5:=x5.Ze kb
 have tb1:=tb.Ze k1;clear R1 q0 q2 q3 q4 q5 P1 P1p l4 l5 fM Q3 r4 r5 e0;have R1:Xx o i g1 ra r:=N1.pt.Zg;obtain⟨q0,q2,q3,q4,q5⟩:=R1.rr;have P1:=ZP N1.ZW.2 N1.pt.store.len;have l4:=Za x4.2;have l5:=Za x5.2;have fM:=Za R1.ZW.2;have Q3:=Za N1.ZW.2;have r4:hc g1 ⟨h.size,0,al⟩=aa (Zx nb):=Zl x4.2;have r5:hc g1 ⟨h.size+1,0,al⟩=aa (Zx ra.rb):=Zl x5.2;unfold Zx at r4 r5;by_cases c1:ZE n.Zm.p r.b
 .have Zab:=P1.Zm;obtain⟨pv,cv,uD⟩:=N1.pt.XO.ZO;have uD:a.XO=U pv n.Zm.l.length cv:=uD;have Zab:rd g1 ⟨nb,4,al⟩ 3=aa [Q O n.Zm.p.r,Q O n.Zm.p.n,U pv n.Zm.l.length cv]:=by rw[<-uD];exact Zab
  have N1v:TO o g1 (U pv n.Zm.l.length cv) n.Zm.l:=by rw[<-uD];exact N1.pt.XO
  unfold Qz at q0;have call:∀G,Zj g1.size g1 G->Zd bg T 93 #[be #[Q O n.Zm.p.r,Q O n.Zm.p.n,U pv n.Zm.l.length cv],be #[Q O r.b.r,Q O r.b.n]] G fun v' h'=>aT G.size h' v' n.Zm.p n.Zm.l r.b/\Zj G.size G h':=fun G hG=>
   RX T G n.Zm.p _ n.Zm.l r.b (N1v.ts.Yz hG) nT
  obtain⟨E,hE⟩:=ZN (YG n.Zm.p n.Zm.l r.b);have wA:∀(G:Hp) (k:Nat) (r m:Int) (p:Option Addr) (L c:Nat),G[k]? = aa (ab [Q O 0,Q O 0,U al 0 0].toArray 104)->wr G ⟨k,0,al⟩ [Q O r,Q O m,U p L c]=aa (G.setIfInBounds k (ab [Q O r,Q O m,U p L c].toArray 104)):=fun G k r m p L c hx=>by
   rw[Yd hx 0 _];rfl
  have wB:∀(G:Hp) (k:Nat) (p:Option Addr) (L c:Nat),G[k]? = aa (ab [U al 0 0].toArray 102)->QQ G ⟨k,0,al⟩ (U p L c)=aa (G.setIfInBounds k (ab [U p L c].toArray 102)):=fun G k p L c hx=>by
   rw[Xh hx 0 _];rfl
  simp only[go_sem,f35,c1];refine VS.mono (N:=fun F' g'=>Zj g1.size g1 g'/\F' 4=ae (aa ⟨h.size,0,al⟩)/\F' 5=ae (aa ⟨h.size+1,0,al⟩)/\mT g1.size g' (F' 6) (F' 7) n.Zm.p n.Zm.l r.b) ?_ ?_ (fun _ _ _ h=>h) (fun _ _ h=>h)
  .refine VS.z (g1.size) [8,15,16] (.q 0 (.p 1 (.p 2 (.q 3 (.q 4 (.p 5 (.p 6 (.q 7 (.or 8 (.p 9 (.p 10 (.p 11 (.p 12 (.or 13 (.s 14 (.w 15 (.w 16 (.p 17 .nil)))) (.s 14 (.s 13 (.w 15 (.w 16 (.p 17 .nil)))))))))) (.or 13 (.or 8 (.p 9 (.p 10 (.p 11 (.p 12 (.s 14 (.w 15 (.w 16 (.p 17 .nil)))))))) (.s 14 (.w 8 (.p 9 (.p 10 (.p 11 (.p 12 (.w 15 (.w 16 (.p 17 .nil)))))))))) (.s 14 (.or 8 (.p 9 (.p 10 (.p 11 (.p 12 (.s 13 (.w 15 (.w 16 (.p 17 .nil)))))))) (.s 13 (.w 8 (.p 9 (.p 10 (.p 11 (.p 12 (.w 15 (.w 16 (.p 17 .nil))))))))))))))))))))) mixed uj ?_;simp only[go_sem,f4,f5,r4,r5,Zab,q0,Q3,fM,l4,l5];unfold mT Zx Xy
   repeat' (first|with_reducible exact Zj.refl _ _|with_reducible exact Zj.push nT _|with_reducible refine bS ?_ ?_)
   all_goals first
    | (refine (call g1 (Zj.refl _ _)).use ?_
       rintro _ g5 ⟨⟨w1,w2,rfl,o1,o2⟩,b5⟩;obtain⟨p1,c1,rfl,_⟩:=o1.open;obtain⟨p2,c2,rfl,_⟩:=o2.open;rw[<-hE]at *;have s5:=b5.size;unfold Xy;simp only[go_sem,b5];refine⟨⟨f4,f5,_,_,_,_,rfl,rfl,s5,nT,rD _ _ _,uC _ _ _,(o1.push _).push _,(o2.push _).push _⟩,⟨f4,f5,_,_,_,_,rfl,rfl,nT,s5,uC _ _ _,rD _ _ _,(o1.push _).push _,(o2.push _).push _⟩⟩)
    | (refine (call (g1.push (ab _ 104)) (Zj.push (aq _) _)).use ?_
       rintro _ g5 ⟨⟨w1,w2,rfl,o1,o2⟩,b5⟩;obtain⟨p1,c1,rfl,_⟩:=o1.open;obtain⟨p2,c2,rfl,_⟩:=o2.open;rw[<-hE]at *;have s5:=b5.size;rw[a0]at s5;have B5:Zj g1.size g1 g5:=(Zj.push (aq _) _).trans (b5.mono uK);have xA:=b5.get (k:=g1.size) uK Zc;have PC:=wA _ _ (if E=0 then r.b else ⟨0,0⟩).r (if E=0 then r.b else ⟨0,0⟩).n p1 (if E=0 then n.Zm.l else []).length c1 xA;have zA:=Za xA;unfold Xy;simp only[go_sem,B5,PC,zA];exact⟨f4,f5,_,_,_,_,rfl,rfl,aq _,nT,by rw[ZI (by simpa using zA)];exact ZQ xA,gs2 _ _ _ _,((o1.Z9 uK _).push _).mono uK,((o2.Z9 uK _).push _).mono uK⟩)
    | (refine (call (g1.push (ab _ 102)) (Zj.push (aq _) _)).use ?_
       rintro _ g5 ⟨⟨w1,w2,rfl,o1,o2⟩,b5⟩;obtain⟨p1,c1,rfl,_⟩:=o1.open;obtain⟨p2,c2,rfl,_⟩:=o2.open;rw[<-hE]at *;have s5:=b5.size;rw[a0]at s5;have B5:Zj g1.size g1 g5:=(Zj.push (aq _) _).trans (b5.mono uK);have xB:=b5.get (k:=g1.size) uK Zc;have FD:=wB _ _ p2 (if E=0 then n.Zm.l else []).length c2 xB;have zB:=Za xB;unfold Xy;simp only[go_sem,B5,FD,zB];exact⟨f4,f5,_,_,_,_,rfl,rfl,nT,aq _,gs2 _ _ _ _,by rw[ZI (by simpa using zB)];exact ZQ xB,((o1.Z9 uK _).push _).mono uK,((o2.Z9 uK _).push _).mono uK⟩)
    | (refine (call ((g1.push (ab _ 104)).push (ab _ 102)) ((Zj.push (aq _) _).YU uK _)).use ?_
       rintro _ g5 ⟨⟨w1,w2,rfl,o1,o2⟩,b5⟩;obtain⟨p1,c1,rfl,_⟩:=o1.open;obtain⟨p2,c2,rfl,_⟩:=o2.open;rw[<-hE]at *;have s5:=b5.size;rw[a0,a0]at s5;have B5:Zj g1.size g1 g5:=((Zj.push (aq _) _).YU uK _).trans (b5.mono Ig);have xA:=b5.get (k:=g1.size) Ig (rD _ _ _);have xB:=b5.get (k:=g1.size+1) uK (uC _ _ _);have PC:=wA _ _ (if E=0 then r.b else ⟨0,0⟩).r (if E=0 then r.b else ⟨0,0⟩).n p1 (if E=0 then n.Zm.l else []).length c1 xA;have zA:=Za xA;have KO:=fun o:Obj=>(Y7 (o:=o) (show g1.size≠g1.size+1 by omega)).trans xB;have FD:=fun o:Obj=>wB _ _ p2 (if E=0 then n.Zm.l else []).length c2 (KO o);have zB:g1.size+1<g5.size:=Za xB;unfold Xy;simp only[go_sem,B5,PC,zA,FD,zB];exact⟨f4,f5,_,_,_,_,rfl,rfl,nT,nT,(Y7 nT).trans (ZQ xA),ZQ (KO _),((o1.Z9 Ig _).Z9 uK _).mono Ig,((o2.Z9 Ig _).Z9 uK _).mono Ig⟩)
    | (refine (call ((g1.push (ab _ 102)).push (ab _ 104)) ((Zj.push (aq _) _).YU uK _)).use ?_
       rintro _ g5 ⟨⟨w1,w2,rfl,o1,o2⟩,b5⟩;obtain⟨p1,c1,rfl,_⟩:=o1.open;obtain⟨p2,c2,rfl,_⟩:=o2.open;rw[<-hE]at *;have s5:=b5.size;rw[a0,a0]at s5;have B5:Zj g1.size g1 g5:=((Zj.push (aq _) _).YU uK _).trans (b5.mono Ig);have xB:=b5.get (k:=g1.size) Ig (rD _ _ _);have xA:=b5.get (k:=g1.size+1) uK (uC _ _ _);have PC:=wA _ _ (if E=0 then r.b else ⟨0,0⟩).r (if E=0 then r.b else ⟨0,0⟩).n p1 (if E=0 then n.Zm.l else []).length c1 xA;have zA:=Za xA;have KO:=fun o:Obj=>(Y7 (o:=o) (show g1.size+1≠g1.size by omega)).trans xB;have FD:=fun o:Obj=>wB _ _ p2 (if E=0 then n.Zm.l else []).length c2 (KO o);have zB:g1.size<g5.size:=Za xB;unfold Xy;simp only[go_sem,B5,PC,zA,FD,zB];exact⟨f4,f5,_,_,_,_,rfl,rfl,nT,nT,(Y7 nT).trans (ZQ xA),ZQ (KO _),((o1.Z9 uK _).Z9 Ig _).mono Ig,((o2.Z9 uK _).Z9 Ig _).mono Ig⟩)
  rintro F2 g2 ⟨b2,f4,f5,ka,kc,w1,w2,fA,fC,ge1,ge2,yA,yC,o1,o2⟩;rw[<-hE]at yA o1 o2;obtain⟨A,hA⟩:∃A:UH,A=if E=0 then ⟨r.b,n.Zm.l⟩ else JJ:=⟨_,rfl⟩
  obtain⟨V,hV⟩:∃V:List Vt,V=if E=0 then n.Zm.l else []:=⟨_,rfl⟩
  have hAp:(if E=0 then r.b else ⟨0,0⟩)=A.p:=by rw[hA];split<;>rfl
  have hAl:(if E=0 then n.Zm.l else [])=A.l:=by rw[hA];split<;>rfl
  have hVl:(if E=0 then n.Zm.l else [])=V:=hV.symm;rw[hAp]at yA;rw[hAl]at o1;rw[hVl]at o2;have Nw:=ZX k1.Yp b2;have N2:=N1.Zn Nw;have W2:=W1.Zn Nw;have K2:=k1.trans Nw;have z4:=x4.Ze Nw;have z5:=x5.Ze Nw;have io:=tb1.Ze Nw;have R2:Xx o i g2 ra r:=N2.pt.Zg;obtain⟨u0,_,_,_,_⟩:=R2.rr;unfold Qz at u0;have iv7:TO o g2 w2 V:=Im.WV o2.Zm (fun b hb=>k1.Yp b hb);have iv6:TO o g2 w1 A.l:=Im.WV o1.Zm (fun b hb=>k1.Yp b hb);have z6:Ya o g2 ka _:=⟨k1.Yp ka ge1,yA⟩
  have z7:Ya o g2 kc _:=⟨k1.Yp kc ge2,yC⟩
  have P2:=ZP N2.ZW.2 N2.pt.store.len;have m4:=Za z4.2;have m5:=Za z5.2;have mr:=Za R2.ZW.2;have Ug:=Za N2.ZW.2;have s4:hc g2 ⟨h.size,0,al⟩=aa (Zx nb):=Zl z4.2;have s5:hc g2 ⟨h.size+1,0,al⟩=aa (Zx ra.rb):=Zl z5.2;unfold Zx at s4 s5 fA fC;have zN:=P2.tape;obtain⟨pd,cd,PZ⟩:=N2.pt.data.1.ZO;have PZ:a.data=U pd (ao n.data) cd:=PZ;have zN:rd g2 ⟨nb,2,al⟩ 2=aa [U pd (ao n.data) cd,Q O n.YS]:=by rw[<-PZ];exact zN
  have N2d:PT o g2 (U pd (ao n.data) cd) n.data:=by rw[<-PZ];exact N2.pt.data
  obtain⟨E2,rE⟩:=ZN (Jj n.data n.YS r.b);have call2:∀G,Zj g2.size g2 G->Zd bg T 105 #[be #[U pd (ao n.data) cd,Q O n.YS],be #[Q O r.b.r,Q O r.b.n]] G fun v' h'=>R7 G.size h' v' n.data n.YS E2 (YR (JQ r.b))/\Zj G.size G h':=fun G hG=>by
   rw[rE];exact IL T G _ n.YS n.data r.b (N2d.bs.Yz hG) nT (io.tk.Qx hG)
  have wT:∀(G:Hp) (k:Nat) (m:Int) (p:Option Addr) (L c:Nat),G[k]? = aa (ab [U al 0 0,Q O 0].toArray 99)->wr G ⟨k,0,al⟩ [U p L c,Q O m]=aa (G.setIfInBounds k (ab [U p L c,Q O m].toArray 99)):=fun G k m p L c hx=>by
   rw[Yd hx 0 _];rfl
  refine VS.mono (N:=fun F' g'=>Zj g2.size g2 g'/\F' 4=ae (aa ⟨h.size,0,al⟩)/\F' 5=ae (aa ⟨h.size+1,0,al⟩)/\F' 6=ae (aa ⟨ka,0,al⟩)/\F' 7=ae (aa ⟨kc,0,al⟩)/\F' 10=Q O E2/\D4 g2.size g' (F' 9) n.data n.YS E2 (YR (JQ r.b))) ?_ ?_ (fun _ _ _ h=>h) (fun _ _ h=>h)
  .refine VS.z (g2.size) [8,13] (.q 0 (.p 1 (.p 2 (.q 3 (.q 4 (.p 5 (.p 6 (.q 7 (.or 8 (.p 9 (.p 10 (.p 11 (.s 12 (.w 13 (.p 14 .nil)))))) (.s 12 (.w 8 (.p 9 (.p 10 (.p 11 (.w 13 (.p 14 .nil)))))))))))))))) mixed uj ?_;simp only[go_sem,f4,f5,fA,fC,s4,s5,zN,u0,m4,m5,mr,Ug];unfold D4
   repeat' (first|with_reducible exact Zj.refl _ _|with_reducible exact Zj.push nT _|with_reducible refine bS ?_ ?_)
   all_goals first
    | (refine (call2 g2 (Zj.refl _ _)).use ?_
       rintro _ g5 ⟨⟨w,rfl,o1⟩,b5⟩;obtain⟨p1,c1,rfl,_⟩:=o1.bs.open;have s5:=b5.size;simp only[go_sem,b5];exact⟨f4,f5,fA,fC,_,_,rfl,s5,Zc,o1.push _⟩)
    | (refine (call2 (g2.push (ab _ 99)) (Zj.push (aq _) _)).use ?_
       rintro _ g5 ⟨⟨w,rfl,o1⟩,b5⟩;obtain⟨p1,c1,rfl,_⟩:=o1.bs.open;have B5:Zj g2.size g2 g5:=(Zj.push (aq _) _).trans (b5.mono uK);have xA:=b5.get (k:=g2.size) uK Zc;have PC:=wT _ _ (if E2=0 then n.YS else 0) p1 (if E2=0 then n.data++YR (JQ r.b) else []).length c1 xA;have zA:=Za xA;simp only[go_sem,B5,PC,zA];exact⟨f4,f5,fA,fC,_,_,rfl,aq _,ZQ xA,(o1.Z9 uK _).mono uK⟩)
  rintro F3 g3 ⟨b3,f4,f5,f6,f7,f10,kt,wt,fT,ge3,yT,oT⟩;have TQ:=ZX K2.Yp b3;have N4:=N2.Zn TQ;have W4:=W2.Zn TQ;have K4:Kp WL o h o g3:=K2.Yz b3;by_cases e2:E2=0
  case neg=>
   have eP:Js { n with Zg:=aa r } r=⟨{ n with Zg:=aa r },[],[]⟩:=by unfold Js;rw[if_pos c1,if_pos (by rw[<-rE];exact e2)]
   rw[eP,a5];simp only[go_sem,f10,e2];exact⟨o,_,Xt,Z0 K4,N4,W4⟩
  rw[if_pos e2]at yT oT;have u4:=z4.Ze TQ;have u5:=z5.Ze TQ;have u6:=z6.Ze TQ;have u7:=z7.Ze TQ;have iu6:=iv6.Ze TQ;have iu7:=iv7.Ze TQ;have iT:PT o g3 wt (n.data++YR (JQ r.b)):=⟨Im.WV oT.Zm (fun b hb=>K2.Yp b hb),oT.byte⟩
  have eP:Js { n with Zg:=aa r } r=⟨{ n with Zg:=aa r,data:=n.data++YR (JQ r.b),Zp:=aa (.Zm A V true) },[],[]⟩:=by
   unfold Js;rw[if_pos c1,if_neg (by rw[<-rE];simpa using e2),hA,hV,hE]
  rw[eP,a5];obtain⟨pt,ct,rfl,_⟩:=oT.bs.open;have v4:hc g3 ⟨h.size,0,al⟩=aa (Zx nb):=Zl u4.2;have vT:rd g3 ⟨kt,0,al⟩ 2=aa [U pt (n.data++YR (JQ r.b)).length ct,Q O n.YS]:=Zz yT rfl;have Hx:=Za N4.ZW.2;obtain⟨g4,w4,N5,k5⟩:=Yh.write (a:={ a with Zg:=aa ra,data:=U pt (n.data++YR (JQ r.b)).length ct }) (n:={ n with Zg:=aa r,data:=n.data++YR (JQ r.b) }) { N4.pt with data:=iT } K4.Yp N4.ZW ((XH N4.ZW.2 N4.pt.store.len).tape (U pt (n.data++YR (JQ r.b)).length ct) n.YS rfl);have v4':hc g4 ⟨h.size,0,al⟩=aa (Zx nb):=Zl (u4.Ze k5).2;have Mx:=Za N5.ZW.2;have pn:Vu o g4 wb i nb (aa ra) (T6 113 [ka,h.size,kc,h.size+1]) (aa (.Zm A V true)):=
   ⟨ka,h.size,kc,h.size+1,w2,ra.rb,rfl,⟨_,u6.Ze k5,iu6.Ze k5⟩,u4.Ze k5,u7.Ze k5,iu7.Ze k5,u5.Ze k5,by rw[if_pos rfl];exact⟨ra,rfl,rfl⟩⟩
  obtain⟨g6,w6,N6,k6⟩:=Yh.write (a:={ a with Zg:=aa ra,data:=U pt (n.data++YR (JQ r.b)).length ct,Zp:=T6 113 [ka,h.size,kc,h.size+1] }) (n:={ n with Zg:=aa r,data:=n.data++YR (JQ r.b),Zp:=aa (.Zm A V true) }) { N5.pt with Zp:=pn } k5.Yp N5.ZW ((XH N5.ZW.2 N5.pt.store.len).Zp (T6 113 [ka,h.size,kc,h.size+1]) rfl);unfold T6 at w6;simp only[bR]at w6;unfold Zx at v4 v4' w6;simp only[go_sem,f10,e2,f4,f5,f6,f7,fT,v4,vT,w4,Hx,v4',w6,Mx];have K6:Kp (JR i) o h o g6:=((Z0 K4).trans (k5.mono fun t q=>.inr (.inr (.inr (by rw[q];rfl))))).trans (k6.mono fun t q=>.inr (.inr (.inr (by rw[q];rfl))));exact⟨o,_,Xt,K6,N6,(W4.Ze k5 (by rintro t rfl;simp[Tg.of])).Ze k6 (by rintro t rfl;simp[Tg.of])⟩
 by_cases c2:5<2*r.ZF.length
 case neg=>
  have eP:Js { n with Zg:=aa r } r=⟨{ n with Zg:=aa r },SP n r,[]⟩:=by unfold Js;rw[if_neg c1,if_pos c2];rfl
  rw[eP];have lm:=fun (K:a7->Hp->Prop) (cs:Array Bool) (ty:TypeId)=>RS (T:=T) (K:=K) (ty:=ty) (cs:=cs) IP R1.ZF.2;rw[R1.OI.length]at lm;simp only[go_sem,f0,f4,f5,f35,c1,r4,r5,q2,lm];refine (H6 T g1 r.ZF.length MG).use ?_;rintro _ _ ⟨rfl,rfl⟩;simp only[go_sem,c2,f0,f4,f5];obtain⟨pf,hpf⟩:∃pf:Nat->List YF,pf=fun (m:Nat)=>if Yg r.ZF (m:Int)=al then [⟨0,n.me,m,r.b,SM,[]⟩] else []:=⟨_,rfl⟩
  have ZmW:SP n r=(ba 5).flatMap pf:=by rw[hpf];rfl
  have ZvH:∀m,(pf m).length<=1:=fun m=>by rw[hpf];simp only;split<;>simp
  rw[ZmW];clear r4 r5 q0 q2 q3 q4 q5 l4 l5 fM Q3 P1 R1 lm ZmW;refine VS.Yk (fun F g=>F 0=ae (aa ⟨wb,0,al⟩)/\F 4=ae (aa ⟨h.size,0,al⟩)/\F 5=ae (aa ⟨h.size+1,0,al⟩)/\∃(m:Nat) (o':Ow) (Jv:WA),m<=5/\F 78=Q O m/\Kp mL o h o' g/\Z5 o' g wb i nb { a with Zg:=aa ra } { n with Zg:=aa r }/\ZY o' g wb YM Jv (fl++(ba m).flatMap pf) Yw ZA/\Ya o' g h.size (ab [Zx nb].toArray 97)/\Ya o' g (h.size+1) (ab [Zx ra.rb].toArray 105))
   (fun F _=>5-(vi (F 78)).toNat) rfl ⟨f0,f4,f5,0,o,Xt,nT,rfl,Z0 k1,N1,by simpa using W1,x4,x5⟩ ?_
  rintro F2 g2 ⟨f0,f4,f5,m,o2,WA2,hm,f78,K2,N2,W2,x4,x5⟩;by_cases ZS:m<5
  .have Z7:(m:Int)<5:=nT;have R2:Xx o2 i g2 ra r:=N2.pt.Zg;obtain⟨q0,q2,q3,q4,q5⟩:=R2.rr;have P2:=ZP N2.ZW.2 N2.pt.store.len;have l4:=Za x4.2;have l5:=Za x5.2;have fM:=Za R2.ZW.2;have Ug:=Za N2.ZW.2;have r4:hc g2 ⟨h.size,0,al⟩=aa (Zx nb):=Zl x4.2;have r5:hc g2 ⟨h.size+1,0,al⟩=aa (Zx ra.rb):=Zl x5.2;unfold Zx at r4 r5;unfold Qz at q0;have lk:=fun (K:a7->Hp->Prop)=>Y9 (K:=K) (n:=(m:Int)) (c:=true) IP zw R2.ZF.2;have hpm:pf m=if Yg r.ZF (m:Int)=al then [⟨0,n.me,m,r.b,SM,[]⟩] else []:=by rw[hpf]
   rcases R2.OI.Yg (m:Int) with⟨z1,z2⟩|⟨w,vs,z1,z2,iv⟩
   .rw[if_pos z2]at hpm;simp only[z1,bk,bc,↓reduceIte]at lk;simp only[go_sem,f0,f4,f5,f78,Z7,r5,q2,lk];refine VS.z (g2.size) [8] (.p 0 (.q 1 (.p 2 (.q 3 (.p 4 (.p 5 (.q 6 (.p 7 (.w 8 .nil))))))))) mixed uj ?_;simp only[go_sem,f0,f4,f5,f78,r4,r5,q0,l4,l5,fM];have rl:(fl++(ba m).flatMap pf).length<=1000000000000:=by
     have:=TG pf 1 m ZvH;rw[aU];omega
    refine (V0 T g2 o2 wb nb YM n.me WA2 _ Yw ZA (m:Int) ⟨0,0,0,r.b,SM,[]⟩ (U al 0 0) K2.Yp W2 P2.me Ug (Im.nil _ _ _ _) rl).use ?_;rintro v' g3 ⟨o3,WA3,k3,_,W3⟩;simp only[go_sem,f78];unfold XU;refine⟨⟨f0,f4,f5,m+1,o3,WA3,ZS,rfl,K2.trans k3,N2.Ze k3 (by rintro t (rfl|rfl)<;>simp[Tg.of]),by rw[UP,hpm,<-a8];exact W3,x4.Ze k3,x5.Ze k3⟩,?_⟩;simp only[vi,Zq,↓reduceIte,f78];omega
   .rw[if_neg (by rw[z2];simp)]at hpm;obtain⟨pw,cw,rfl⟩:=iv.ZO;simp only[z1,bl,bd,↓reduceIte]at lk;simp only[go_sem,f0,f4,f5,f78,Z7,r5,q2,lk];unfold XU;refine⟨⟨f0,f4,f5,m+1,o2,WA2,ZS,rfl,K2,N2,by rw[UP,hpm,a5];exact W2,x4,x5⟩,?_⟩;simp only[vi,Zq,↓reduceIte,f78];omega
  .have Xv:¬(m:Int)<5:=nT;obtain rfl:m=5:=nT;simp only[go_sem,f78,Xv];exact⟨o2,_,WA2,K2.mono (fun t q=>by rcases q with rfl|rfl<;>simp[JR]),N2,W2⟩
 have lm:=fun (K:a7->Hp->Prop) (cs:Array Bool) (ty:TypeId)=>RS (T:=T) (K:=K) (ty:=ty) (cs:=cs) IP R1.ZF.2;rw[R1.OI.length]at lm;obtain⟨r1,HU⟩:=ZN (if r.Xg=true then r else Wq n r);have eP:Js { n with Zg:=aa r } r=⟨{ n with Zg:=aa (Jb n r1 n.Zr) },Wr n (Jb n r1 n.Zr),[]⟩:=by
  unfold Js;rw[if_neg c1,if_neg (by simpa using c2)];have e1:XJ { n with Zg:=aa r } r=Jb n r1 n.Zr:=by
   unfold XJ;rw[HU,rN (n:={ n with Zg:=aa r }) (n':=n) rfl rfl,jD (n:={ n with Zg:=aa r }) (n':=n) rfl rfl]
  rw[e1,Zaa (n:={ n with Zg:=aa r }) (n':=n) rfl rfl]
 rw[eP];simp only[go_sem,f0,f4,f5,f35,c1,r4,r5,q2,lm];refine (H6 T g1 r.ZF.length MG).use ?_;rintro _ g' ⟨rfl,Eu⟩;rw[Eu]
 cases cb:r.Xg
 all_goals
 first
 | (rw[cb,if_neg uK]at HU
    rw[cb]at q3;simp only[go_sem,c2,f0,f4,f5,r4,r5,q3];refine (zY T g1 o wb i nb a n ra r k1.Yp N1 hp hs hl).use ?_;rintro v' g2 ⟨ra1,LN,kx,N3⟩;rw[<-HU]at N3;have kx':Kp (JR i) o g1 o g2:=kx.mono fun t q=>.inr (.inr (.inr (KL q)));have W3:=W1.Ze kx (by intro t q;rw[KL q];simp);have y4:=x4.Ze kx;have y5:=x5.Ze kx;have K3:Kp (JR i) o h o g2:=(Z0 k1).trans kx')
 | (rw[cb,if_pos rfl]at HU
    rw[cb]at q3;simp only[go_sem,c2,f0,f4,f5,r4,r5,q3];obtain⟨g2,WB⟩:=ZN (g1);obtain⟨ra1,ry⟩:=ZN (ra);have LN:ra1.rb=ra.rb:=by rw[ry]
    have N3:Z5 o g2 wb i nb { a with Zg:=aa ra1 } { n with Zg:=aa r1 }:=by rw[ry,HU,WB];exact N1
    have W3:ZY o g2 wb YM Xt fl Yw ZA:=by rw[WB];exact W1
    have y4:Ya o g2 h.size (ab [Zx nb].toArray 97):=by rw[WB];exact x4
    have y5:Ya o g2 (h.size+1) (ab [Zx ra.rb].toArray 105):=by rw[WB];exact x5
    have K3:Kp (JR i) o h o g2:=by rw[WB];exact Z0 k1
    rw[<-WB])
 all_goals
  clear r4 r5 q0 q2 q3 q4 q5 l4 l5 fM Q3 P1 R1 lm;have P3:=ZP N3.ZW.2 N3.pt.store.len;obtain⟨pq,cq,hpq,_⟩:=XC.ZO N3.pt.Zr;have hpq:a.Zr=U pq n.Zr.length cq:=hpq;have P3q:hc g2 ⟨nb,52,al⟩=aa (U pq n.Zr.length cq):=by rw[<-hpq];exact P3.Zr
  have r4:hc g2 ⟨h.size,0,al⟩=aa (Zx nb):=Zl y4.2;have r5:hc g2 ⟨h.size+1,0,al⟩=aa (Zx ra.rb):=Zl y5.2;unfold Zx at r4 r5;simp only[go_sem,f0,f4,f5,r4,r5,P3q];clear r4 r5 P3q P3;refine VS.Yk (fun F g=>F 0=ae (aa ⟨wb,0,al⟩)/\F 4=ae (aa ⟨h.size,0,al⟩)/\F 5=ae (aa ⟨h.size+1,0,al⟩)/\F 113=U pq n.Zr.length cq/\F 114=Q O n.Zr.length/\∃(j:Nat) (ra':RA),j<=n.Zr.length/\F 115=Q O j/\Kp (JR i) o h o g/\ra'.rb=ra.rb/\Z5 o g wb i nb { a with Zg:=aa ra' } { n with Zg:=aa (Jb n r1 (n.Zr.take j)) }/\ZY o g wb YM Xt fl Yw ZA/\Ya o g h.size (ab [Zx nb].toArray 97)/\Ya o g (h.size+1) (ab [Zx ra.rb].toArray 105))
   (fun F _=>n.Zr.length-(vi (F 115)).toNat) rfl ⟨f0,f4,f5,rfl,rfl,0,ra1,nT,rfl,K3,LN,N3,W3,y4,y5⟩ ?_
  clear f0 f4 f5 y4 y5 K3 N3 W3 LN;rintro F3 g3 ⟨f0,f4,f5,f113,f114,j,ra',hj,f115,K3,LN,N3,W3,y4,y5⟩;obtain⟨rj,hrj⟩:=ZN (Jb n r1 (n.Zr.take j));rw[<-hrj]at N3;have r4:hc g3 ⟨h.size,0,al⟩=aa (Zx nb):=Zl y4.2;have r5:hc g3 ⟨h.size+1,0,al⟩=aa (Zx ra.rb):=Zl y5.2;unfold Zx at r4 r5;have l4:=Za y4.2;have l5:=Za y5.2;by_cases ZS:j<n.Zr.length
  .have Z7:(j:Int)<n.Zr.length:=nT;obtain⟨pz,cz,Bc,iS⟩:=Q2 N3.pt.Zr.ts;obtain⟨bb,oo,hz3,T5,PH⟩:=iS (by intro e;have:n.Zr=[]:=e;rw[this]at ZS;simp at ZS);have Bc:a.Zr=U pz n.Zr.length cz:=Bc;rw[hpq]at Bc;simp only[Value.slice.injEq]at Bc;obtain⟨rfl,_,rfl⟩:=Bc;subst hz3;have re:rd g3 ⟨bb,oo+j*5,al⟩ 5=aa (n.Zr[j]).C:=PH j ZS;obtain⟨x,hx⟩:=ZN (n.Zr[j]);rw[<-hx]at re;have XE:Jb n r1 (n.Zr.take (j+1))=J4 n rj x:=by
    rw[Y1 _ j ZS,<-hx,hrj];unfold Jb;rw[List.foldl_append];rfl
   obtain⟨g4,Hw⟩:=ZN (g3.push (ab x.C.toArray 24):Hp);have k4:Kp WL o g3 o g4:=by rw[Hw];exact Yu K3.Yp _
   have x4':Ya o g4 g3.size (ab x.C.toArray 24):=⟨K3.Yp _ (aq _),by rw[Hw];exact Zc⟩
   have e4:=Hw.symm;have N4:=N3.Zn k4;have R4:Xx o i g4 ra' rj:=N4.pt.Zg;have z4:=y4.Ze k4;have z5:=y5.Ze k4;have s4:hc g4 ⟨h.size,0,al⟩=aa (Zx nb):=Zl z4.2;have s5:hc g4 ⟨h.size+1,0,al⟩=aa (Zx ra'.rb):=by rw[LN];exact Zl z5.2
   have sx:rd g4 ⟨g3.size,0,al⟩ 5=aa x.C:=Zz x4'.2 rfl;have cf:=ZdN T g4 o wb i nb { a with Zg:=aa ra' } { n with Zg:=aa rj } ra' rj x k4.Yp N4 R4 hl;rw[show VM { n with Zg:=aa rj } rj x=VM n rj x from by unfold VM;rw[BT (n:={ n with Zg:=aa rj }) (n':=n) rfl rfl],BT (n:={ n with Zg:=aa rj }) (n':=n) rfl rfl]at cf;unfold Sv Zx at cf;unfold Zx at s4 s5;simp only[go_sem,f0,f4,f5,f113,f114,f115,Z7,re,e4,s4,s5,sx];refine cf.use ?_;rintro _ g5 ⟨rfl,b5⟩;have k5:=ZX k4.Yp b5;have K5:Kp (JR i) o h o g5:=(K3.trans (Z0 k4)).trans (Z0 k5);have N5:=N4.Zn k5;have R5:Xx o i g5 ra' rj:=N5.pt.Zg;have W5:=(W3.Zn k4).Zn k5;have u4:=z4.Ze k5;have u5:=z5.Ze k5;have ux:=x4'.Ze k5
   cases hf:free n rj x with
   | none=>
    have e1:J4 n rj x=rj:=by unfold J4;rw[hf]
    simp only[go_sem,bc,f115];unfold XU;refine⟨⟨f0,f4,f5,f113,f114,j+1,ra',ZS,rfl,K5,LN,by rw[XE,e1];exact N5,W5,u4,u5⟩,?_⟩;simp only[vi,Zq,↓reduceIte,f115];omega
   | some sl=>
    have e1:J4 n rj x = { rj with ZT:=ins rj.ZT (sl:Int) x }:=by unfold J4;rw[hf]
    have e2:VM n rj x=sl:=by unfold VM;rw[hf]
    rw[e2];simp only[go_sem,bd];have t5:hc g5 ⟨h.size+1,0,al⟩=aa (Zx ra'.rb):=by rw[LN];exact Zl u5.2
    unfold Zx at t5;have tx:rd g5 ⟨g3.size,0,al⟩ 5=aa x.C:=Zz ux.2 rfl;obtain⟨_,_,_,t4,_⟩:=R5.rr;have m5:=Za u5.2;have mr:=Za R5.ZW.2;have mx:=Za ux.2;refine VS.z (g5.size) [6] (.q 0 (.p 1 (.p 2 (.q 3 (.p 4 (.q 5 (.w 6 .nil))))))) mixed uj ?_;simp only[go_sem,f5,t5,t4,tx,m5,mr,mx];rw[Qa Rv R5.ZT.2];obtain⟨k6,R6⟩:=R5.mV K5.Yp (k:=(sl:Int)) (x:=x);have k6':Kp (JV i) o g5 o _:=k6.mono fun t q=>.inr (.inr (.inl q));have k6a:Kp (JR i) o g5 o _:=k6.mono fun t q=>.inr (.inr (.inr (by rw[q];rfl)));simp only[go_sem,f115];unfold XU;refine⟨⟨f0,f4,f5,f113,f114,j+1,ra',ZS,rfl,K5.trans k6a,LN,?_,W5.Ze k6 (by rintro t rfl;simp[Tg.of]),u4.Ze k6,u5.Ze k6⟩,?_⟩
    .rw[XE,e1];exact⟨N5.ZW.Ze k6 Hy,Yh.U7 N5.pt k6' rfl rfl R6⟩
    .simp only[vi,Zq,↓reduceIte,f115];omega
  .have Xv:¬(j:Int)<n.Zr.length:=nT;obtain rfl:j=n.Zr.length:=nT;rw[List.take_length]at hrj;simp only[go_sem,f114,f115,Xv];rw[<-hrj];obtain⟨r2,hr2⟩:=ZN (rj);rw[<-hr2]at N3 ⊢;have ZmY:∀s x m,(Pe n r2 s x m).length<=1:=fun s x m=>by unfold Pe;split<;>simp
   have ZmZ:∀s,(WU n r2 s).length<=5:=fun s=>by
    unfold WU;split
    .split
     .exact TG _ 1 5 (ZmY s _)
     .simp
    .simp
   clear r4 r5 l4 l5;refine VS.Yk (fun F g=>F 0=ae (aa ⟨wb,0,al⟩)/\F 4=ae (aa ⟨h.size,0,al⟩)/\F 5=ae (aa ⟨h.size+1,0,al⟩)/\∃(s:Nat) (o':Ow) (Jv:WA),s<=40/\F 134=Q O s/\Kp (JR i) o h o' g/\Z5 o' g wb i nb { a with Zg:=aa ra' } { n with Zg:=aa r2 }/\ZY o' g wb YM Jv (fl++(ba s).flatMap (WU n r2)) Yw ZA/\Ya o' g h.size (ab [Zx nb].toArray 97)/\Ya o' g (h.size+1) (ab [Zx ra.rb].toArray 105))
    (fun F _=>40-(vi (F 134)).toNat) rfl ⟨f0,f4,f5,0,o,Xt,nT,rfl,K3,N3,by simpa using W3,y4,y5⟩ ?_
   clear f0 f4 f5 y4 y5 K3 N3 W3;rintro F4 g4 ⟨f0,f4,f5,s,o4,mW,hs4,f134,K4,N4,W4,y4,y5⟩;by_cases pV:s<40
   case neg=>
    have ZgL:¬(s:Int)<40:=nT;obtain rfl:s=40:=nT;simp only[go_sem,f134,ZgL];exact⟨o4,_,mW,K4,N4,W4⟩
   have DB:(s:Int)<40:=nT;have R4:Xx o4 i g4 ra' r2:=N4.pt.Zg;obtain⟨_,_,_,t4,t5⟩:=R4.rr;have P4:=ZP N4.ZW.2 N4.pt.store.len;have r4:hc g4 ⟨h.size,0,al⟩=aa (Zx nb):=Zl y4.2;have r5:hc g4 ⟨h.size+1,0,al⟩=aa (Zx ra'.rb):=by rw[LN];exact Zl y5.2
   unfold Zx at r4 r5;have l4:=Za y4.2;have l5:=Za y5.2;have n4:¬h.size=g4.size:=nT;have n5:¬h.size+1=g4.size:=nT;have nnb:¬nb=g4.size:=by have:=Za N4.ZW.2;omega
   have D6:=fun (K:a7->Hp->Prop)=>Y9 (K:=K) (n:=(s:Int)) (c:=true) Rv LJ R4.ZT.2;rw[Jl]at D6;have SV:=fun (K:a7->Hp->Prop) (z:Obj)=>Y9 (h:=g4.push z) (K:=K) (n:=(s:Int)) (c:=true) Rv LJ ((ZI (Za N4.pt.Zh.2)).trans N4.pt.Zh.2);simp only[Jl,show ({ n with Zg:=aa r2 }:Nd).Zh=n.Zh from rfl]at SV;have nb4:∀x y:Obj,Kp WL o4 g4 o4 ((g4.push x).push y):=fun x y=>(Yu K4.Yp _).push _;have skip:∀(x y:Obj),WU n r2 s=[]->Z5 o4 ((g4.push x).push y) wb i nb { a with Zg:=aa ra' } { n with Zg:=aa r2 }/\ZY o4 ((g4.push x).push y) wb YM mW (fl++(ba (s+1)).flatMap (WU n r2)) Yw ZA/\Ya o4 ((g4.push x).push y) h.size (ab [Zx nb].toArray 97)/\Ya o4 ((g4.push x).push y) (h.size+1) (ab [Zx ra.rb].toArray 105):=fun x y hz=>
    ⟨N4.Zn (nb4 x y),by rw[UP,hz,a5];exact W4.Zn (nb4 x y),y4.Ze (nb4 x y),y5.Ze (nb4 x y)⟩
   cases c3:Yg r2.ZT (s:Int) with
   | none=>
    have hz:WU n r2 s=[]:=by unfold WU;rw[c3]
    simp only[c3,bt,bk,bc,↓reduceIte]at D6
    cases c4:Yg n.Zh (s:Int) with
    | none=>
     simp only[c4,bt,bk,bc,↓reduceIte]at SV;simp only[go_sem,f0,f4,f5,f134,DB,r5,t4,r4,n4,n5,nnb,D6,SV,P4.Zh];unfold XU;refine⟨⟨f0,f4,f5,s+1,o4,mW,pV,rfl,K4.trans (Z0 (nb4 _ _)),skip _ _ hz⟩,?_⟩;simp only[vi,Zq,↓reduceIte,f134];omega
    | some y=>
     simp only[c4,bA,bl,bd,↓reduceIte]at SV;simp only[go_sem,f0,f4,f5,f134,DB,r5,t4,r4,n4,n5,nnb,D6,SV,P4.Zh,Sv];unfold XU;refine⟨⟨f0,f4,f5,s+1,o4,mW,pV,rfl,K4.trans (Z0 (nb4 _ _)),skip _ _ hz⟩,?_⟩;simp only[vi,Zq,↓reduceIte,f134];omega
   | some x=>
    simp only[c3,bA,bl,bd,↓reduceIte]at D6
    cases c4:Yg n.Zh (s:Int) with
    | some y=>
     have hz:WU n r2 s=[]:=by unfold WU;rw[c3];simp only;rw[if_neg (by rw[c4];simp)]
     simp only[c4,bA,bl,bd,↓reduceIte]at SV;simp only[go_sem,f0,f4,f5,f134,DB,r5,t4,r4,n4,n5,nnb,D6,SV,P4.Zh,Sv];unfold XU;refine⟨⟨f0,f4,f5,s+1,o4,mW,pV,rfl,K4.trans (Z0 (nb4 _ _)),skip _ _ hz⟩,?_⟩;simp only[vi,Zq,↓reduceIte,f134];omega
    | none=>
     have hz:WU n r2 s=(ba 5).flatMap (Pe n r2 s x):=by unfold WU;rw[c3];simp only;rw[if_pos c4]
     simp only[c4,bt,bk,bc,↓reduceIte]at SV;simp only[go_sem,f0,f4,f5,f134,DB,r5,t4,r4,n4,n5,nnb,D6,SV,P4.Zh,Sv];obtain⟨fs,hfs⟩:=ZN (fl++(ba s).flatMap (WU n r2));have ZH1:(ao fs)<=900000001000:=by
      have:=TG (WU n r2) 5 s ZmZ;rw[hfs,aU];omega
     have hnx:fl++(ba (s+1)).flatMap (WU n r2)=fs++(ba 5).flatMap (Pe n r2 s x):=by rw[UP,hz,<-a8,<-hfs]
     rw[<-hfs]at W4;have kz:=nb4 (ab x.C.toArray 24) (ab Nv.C.toArray 24);have xb:Ya o4 ((g4.push (ab x.C.toArray 24)).push (ab Nv.C.toArray 24)) g4.size (ab x.C.toArray 24):=⟨K4.Yp _ (aq _),rD _ _ _⟩
     refine VS.Yk (fun F g=>F 0=ae (aa ⟨wb,0,al⟩)/\F 4=ae (aa ⟨h.size,0,al⟩)/\F 5=ae (aa ⟨h.size+1,0,al⟩)/\F 134=Q O s/\F 18=Q O s/\F 19=ae (aa ⟨g4.size,0,al⟩)/\∃(m:Nat) (o':Ow) (Jv:WA),m<=5/\F 160=Q O m/\Kp (JR i) o h o' g/\Z5 o' g wb i nb { a with Zg:=aa ra' } { n with Zg:=aa r2 }/\ZY o' g wb YM Jv (fs++(ba m).flatMap (Pe n r2 s x)) Yw ZA/\Ya o' g h.size (ab [Zx nb].toArray 97)/\Ya o' g (h.size+1) (ab [Zx ra.rb].toArray 105)/\Ya o' g g4.size (ab x.C.toArray 24))
      (fun F _=>5-(vi (F 160)).toNat) rfl ⟨f0,f4,f5,f134,rfl,rfl,0,o4,mW,nT,rfl,K4.trans (Z0 kz),N4.Zn kz,by simpa using W4.Zn kz,y4.Ze kz,y5.Ze kz,xb⟩ ?_
     clear f0 f4 f5 f134 y4 y5 r4 r5 t4 t5 P4 D6 SV skip nb4 kz xb l4 l5 n4 n5 nnb R4;rintro F5 g5 ⟨f0,f4,f5,f134,f18,f19,m,o5,WA5,hm,f160,K5,N5,W5,y4,y5,xb⟩;by_cases mG:m<5
     case neg=>
      have hgm:¬(m:Int)<5:=nT;obtain rfl:m=5:=nT;simp only[go_sem,f160,hgm,f134];unfold XU;refine⟨⟨f0,f4,f5,s+1,o5,WA5,pV,rfl,K5,N5,by rw[hnx];exact W5,y4,y5⟩,?_⟩;simp only[vi,Zq,↓reduceIte,f134];omega
     have Zm1:(m:Int)<5:=nT;have R5:Xx o5 i g5 ra' r2:=N5.pt.Zg;obtain⟨v0,_,_,_,v5⟩:=R5.rr;unfold Qz at v0;have r5:hc g5 ⟨h.size+1,0,al⟩=aa (Zx ra'.rb):=by rw[LN];exact Zl y5.2
     unfold Zx at r5;have lkv:=fun (K:a7->Hp->Prop)=>Y9 (K:=K) (n:=(s:Int)) (c:=false) Fx DW R5.YZ.2;rw[Jl]at lkv;simp only[Bool.false_eq_true,if_false]at lkv;obtain⟨g6,LS⟩:=ZN (g5.push (ab [].toArray 201):Hp);have e6:=LS.symm;have k6:Kp WL o5 g5 o5 g6:=by rw[LS];exact Yu K5.Yp _
     have w6:wr g6 ⟨g5.size,0,al⟩ []=aa g6:=by
      have hx:g6[g5.size]? = aa (ab [].toArray 201):=by rw[LS];exact Zc
      rw[Yd hx 0 [],if_pos ⟨uK,rfl⟩]
      congr 1
      exact G9 hx
     have N6:=N5.Zn k6;have W6:=W5.Zn k6;have z4:=y4.Ze k6;have z5:=y5.Ze k6;have zx:=xb.Ze k6;have K6:Kp (JR i) o h o5 g6:=K5.trans (Z0 k6);have P6:=ZP N6.ZW.2 N6.pt.store.len;have R6:Xx o5 i g6 ra' r2:=N6.pt.Zg;obtain⟨u0,_,_,_,_⟩:=R6.rr;unfold Qz at u0;have s4:hc g6 ⟨h.size,0,al⟩=aa (Zx nb):=Zl z4.2;have s5:hc g6 ⟨h.size+1,0,al⟩=aa (Zx ra'.rb):=by rw[LN];exact Zl z5.2
     unfold Zx at s4 s5;have sx:rd g6 ⟨g4.size,0,al⟩ 5=aa [Q O x.k,Q O x.c,Q O x.s,Q O x.n,Q O x.v]:=Zz zx.2 rfl;have m4:=Za z4.2;have m5:=Za z5.2;have mx:=Za zx.2;have mr:=Za R6.ZW.2;have Zac:=Za N6.ZW.2;obtain⟨S,hS⟩:=ZN ((Yg r2.YZ (s:Int)).getD []);have Up:Pe n r2 s x m=if Yg S (m:Int)=al then [⟨2,n.me,m,Jg,QC s r2.b x,[]⟩] else []:=by unfold Pe;rw[hS]
     obtain⟨mv,hmv,lki⟩:∃mv,(Option.map mpV (Yg ra'.sv (s:Int))).getD (.map al)=mv/\∀K:a7->Hp->Prop,It bg 200 mv (Q O (m:Int)) true K g5=K (.tuple #[be #[],a6 (Yg S (m:Int)).isSome]) g5:=by
      rcases R5.Rw.Yg (s:Int) with⟨z1,z2⟩|⟨sb,S',z1,z2,hsb⟩
      .refine⟨.map al,by rw[z1];rfl,fun K=>?_⟩;rw[Ba DU Zfv,hS,z2];rfl
      .refine⟨.map (aa sb),by rw[z1];rfl,fun K=>?_⟩;have:=Y9 (K:=K) (n:=(m:Int)) (c:=true) DU Zfv hsb.2;have hSS:S=S':=by rw[hS,z2];rfl
       rw[this];unfold Ht;rw[Jl,<-hSS]
       cases Yg S (m:Int)<;>rfl
     rw[hmv]at lkv
     cases cS:Yg S (m:Int) with
     | some uu=>
      rw[if_neg (by rw[cS];simp)]at Up;simp only[cS,bd]at lki;simp only[go_sem,f0,f4,f5,f18,f19,f160,Zm1,r5,v5,lkv,lki,e6,w6];unfold XU;refine⟨⟨f0,f4,f5,f134,f18,f19,m+1,o5,WA5,mG,rfl,K6,N6,by rw[UP,Up,a5];exact W6,z4,z5,zx⟩,?_⟩;simp only[vi,Zq,↓reduceIte,f160];omega
     | none=>
      rw[if_pos cS]at Up;simp only[cS,bc]at lki;simp only[go_sem,f0,f4,f5,f18,f19,f160,Zm1,r5,v5,lkv,lki,e6,w6];refine VS.z (g6.size) [11] (.p 0 (.q 1 (.p 2 (.p 3 (.q 4 (.p 5 (.p 6 (.q 7 (.q 8 (.p 9 (.p 10 (.w 11 .nil)))))))))))) mixed uj ?_;simp only[go_sem,f0,f4,f5,f18,f19,f160,s4,s5,u0,sx,m4,m5,mx,mr];have rl:(fs++(ba m).flatMap (Pe n r2 s x)).length<=1000000000000:=by
       have:=TG (Pe n r2 s x) 1 m (ZmY s x);rw[aU];omega
      refine (V0 T g6 o5 wb nb YM n.me WA5 _ Yw ZA (m:Int) ⟨2,0,0,Jg,QC s r2.b x,[]⟩ (U al 0 0) K6.Yp W6 P6.me Zac (Im.nil _ _ _ _) rl).use ?_;rintro v' g7 ⟨o7,WA7,k7,_,W7⟩;simp only[go_sem,f160];unfold XU;refine⟨⟨f0,f4,f5,f134,f18,f19,m+1,o7,WA7,mG,rfl,K6.trans (k7.mono fun t q=>by rcases q with rfl|rfl<;>simp[JR]),N6.Ze k7 (by rintro t (rfl|rfl)<;>simp[Tg.of]),by rw[UP,Up,<-a8];exact W7,z4.Ze k7,z5.Ze k7,zx.Ze k7⟩,?_⟩;simp only[vi,Zq,↓reduceIte,f160];omega
theorem Vu.fn{i nb:Nat}{ra:Option RA}{v:a7}{p:Option Kf}(s:Vu o h wb i nb ra v p):(p=al/\v=.nilFunc)\/(p.isSome=true/\∃f l,v=.func (.func f) #[] l):=by
 match p,s with
 | none,s=>exact .inl ⟨rfl,s⟩
 | some (.Vy _ _ _ _),⟨_,_,_,_,e,_⟩=>exact .inr ⟨rfl,_,_,e⟩
 | some (.TC _ _ _),⟨_,_,_,_,e,_⟩=>exact .inr ⟨rfl,_,_,e⟩
 | some (.Zm _ _ _),⟨_,_,_,_,_,_,e,_⟩=>exact .inr ⟨rfl,_,_,e⟩
theorem rO(n:Nd)(r:Xw):(Js n r).n.Yt=n.Yt/\(Js n r).n.Zw=n.Zw/\(Js n r).n.me=n.me/\(Js n r).n.Z8=n.Z8/\(Js n r).n.Zm=n.Zm/\(Js n r).ts=[]:=by
 unfold Js;split
 .split<;>exact⟨rfl,rfl,rfl,rfl,rfl,rfl⟩
 .split<;>exact⟨rfl,rfl,rfl,rfl,rfl,rfl⟩
theorem jE(n:Nd)(r:Xw):(SP n r).length<=5:=by
 have:=TG (fun (m:Nat)=>if Yg r.ZF (m:Int)=al then [(⟨0,n.me,m,r.b,SM,[]⟩:YF)] else []) 1 5 (fun m=>by split<;>simp);exact this
theorem rP(n:Nd)(r:Xw):(Wr n r).length<=200:=by
 have h1:∀s x m,(Pe n r s x m).length<=1:=fun s x m=>by unfold Pe;split<;>simp
 have h2:∀s,(WU n r s).length<=5:=fun s=>by
  unfold WU;split
  .split
   .exact TG _ 1 5 (h1 s _)
   .simp
  .simp
 exact TG _ 5 40 h2
theorem ZdV(n:Nd)(r:Xw):(Js n r).ls.length<=200:=by
 unfold Js;split
 .split<;>simp
 .split
  .have:=jE n r;simp only;omega
  .exact rP n _
theorem jF(n:Nd):(Zn n).Yt=n.Yt/\(Zn n).Zw=n.Zw/\(Zn n).me=n.me/\(Zn n).Z8=n.Z8/\(Zn n).Zm=n.Zm/\(Zn n).Zr=n.Zr/\(Zn n).Zp=n.Zp/\(Zn n).data=n.data/\(Zn n).YS=n.YS:=by
 unfold Zn;split
 .split<;>exact⟨rfl,rfl,rfl,rfl,rfl,rfl,rfl,rfl,rfl⟩
 .exact⟨rfl,rfl,rfl,rfl,rfl,rfl,rfl,rfl,rfl⟩
theorem df(n:Nd):(Zn n).Zg=al\/(Zn n).Zg=n.Zg:=by
 unfold Zn;split
 .split
  .exact .inl rfl
  .exact .inr rfl
 .exact .inr rfl
theorem My(n:Nd):(Z2 n).n.Yt=n.Yt/\(Z2 n).n.Zw=n.Zw/\(Z2 n).n.me=n.me/\(Z2 n).n.Z8=n.Z8/\(Z2 n).n.Zm=n.Zm/\(Z2 n).ts=[]:=by
 unfold Z2;split
 .exact rO _ _
 .split<;>exact⟨rfl,rfl,rfl,rfl,rfl,rfl⟩
theorem dg(n:Nd):(Z2 n).ls.length<=200+n.Zr.length:=by
 unfold Z2;split
 .next r _=>have:=ZdV n r;omega
 .split
  .simp[U3]
  .simp
set_option maxHeartbeats 4000000 in
theorem ZdW(T:bn)(h:Hp)(o:Ow)(wb i nb:Nat)(YM:Nat->Nat)(a:NA)(n:Nd)(Xt:WA)(fl:List YF)(Yw:Nat->Int)(ZA:List PS)(d:Vx o h)(N:Z5 o h wb i nb a n)(W:ZY o h wb YM Xt fl Yw ZA)(tb:fK o h)(uF:n.Zp=al)(Y5:(ao fl)<=800000000000)(zf:n.Zm.l.length<=1000000)(uy:(ao n.data)<=1000000)(hr:∀r,n.Zg=aa r->(∀x∈r.ZF,x.2.length<=1000000)/\(∀x∈r.ZF,∀v∈x.2,v.Zt<=1000000)/\r.ZF.length<=1000000000000)(hl:n.Zw.length<=100000000000)(hq:n.Zr.length<=10000000000)(ht:0<=n.Yt/\n.Yt<5):
  Zd bg T 70 #[Zx wb,Zx nb] h fun v' h'=>∃o' a' Jv,Kp (JR i) o h o' h'/\Z5 o' h' wb i nb a' (Yi n).n/\ZY o' h' wb YM Jv (fl++(Yi n).ls) Yw ZA:=by
 refine Zd.HF (args:=#[_,_]) Tryz.func70 rfl rfl rfl ?_;obtain⟨ZfC,ZhM,sme,ZhN,rQ,BU,Zad,ZfD,ZvK⟩:=jF n;refine VS.seq (VS.mono (N:=fun F' g'=>F' 0=ae (aa ⟨wb,0,al⟩)/\F' 1=ae (aa ⟨nb,0,al⟩)/\∃a1,Kp (JR i) o h o g'/\Z5 o g' wb i nb a1 (Zn n)/\ZY o g' wb YM Xt fl Yw ZA) ?_ ?_ (fun _ _ _ h=>h) (fun _ _ h=>h))
 .refine Qw _ _ _ _ _ _ rfl ?_;unfold Zx;have P:=ZP N.ZW.2 N.pt.store.len;have TU:=Za N.ZW.2;have Pr:=P.Zg;have Po:=P.cN
  cases KP:a.Zg with
  | none=>
   rw[KP]at Pr;have hn:n.Zg=al:=by
    have:=N.pt.Zg;rw[KP]at this
    cases hx:n.Zg with
    | none=>rfl
    | some r=>rw[hx]at this;exact this.elim
   have es:Zn n=n:=by unfold Zn;rw[hn]
   rw[es];unfold Mv at Pr;simp only[go_sem,Pr];refine VS.mono (N:=fun F' g'=>Zj h.size h g'/\F' 0=ae (aa ⟨wb,0,al⟩)/\F' 1=ae (aa ⟨nb,0,al⟩)/\F' 26=a6 false) ?_ ?_ (fun _ _ _ h=>h) (fun _ _ h=>h)
   .refine VS.z (h.size) [12] (.p 0 (.p 1 (.p 2 (.p 3 (.p 4 (.p 5 (.p 6 (.q 7 (.p 8 (.p 9 (.p 10 (.q 11 (.w 12 (.p 13 .nil)))))))))))))) mixed (by kernel_rfl) ?_;simp only[go_sem,Pr,Po,TU]
    try exact Zj.refl _ _
   rintro F1 g1 ⟨b1,f0,f1,f26⟩;have kb:=ZX d b1;simp only[go_sem,f26];exact⟨f0,f1,a,Z0 kb,N.Zn kb,W.Zn kb⟩
  | some ra=>
   obtain⟨r,hn⟩:∃r,n.Zg=aa r:=by
    have:=N.pt.Zg;rw[KP]at this
    cases hx:n.Zg with
    | none=>rw[hx]at this;exact this.elim
    | some r=>exact⟨r,rfl⟩
   rw[KP]at Pr;unfold Mv Zx at Pr;have R:Xx o i h ra r:=by have:=N.pt.Zg;rw[KP,hn]at this;exact this
   obtain⟨q0,_,_,_,_⟩:=R.rr;have fM:=Za R.ZW.2;simp only[go_sem,Pr];refine VS.mono (N:=fun F' g'=>Zj h.size h g'/\F' 0=ae (aa ⟨wb,0,al⟩)/\F' 1=ae (aa ⟨nb,0,al⟩)/\F' 26=a6 (decide (ZE r.b n.Zm.p))) ?_ ?_ (fun _ _ _ h=>h) (fun _ _ h=>h)
   .refine VS.z (h.size) [12] (.p 0 (.p 1 (.p 2 (.p 3 (.p 4 (.p 5 (.p 6 (.q 7 (.p 8 (.p 9 (.p 10 (.q 11 (.w 12 (.p 13 .nil)))))))))))))) mixed (by kernel_rfl) ?_;simp only[go_sem,Pr,Po,q0,TU,fM];refine (LQ T h n.Zm.p r.b).use ?_;rintro _ g ⟨rfl,b⟩;simp only[go_sem,b]
   rintro F1 g1 ⟨b1,f0,f1,f26⟩;have kb:=ZX d b1;have N1:=N.Zn kb;have W1:=W.Zn kb;by_cases c:ZE r.b n.Zm.p
   .have es:Zn n = { n with Zg:=al }:=by unfold Zn;rw[hn];simp only;rw[if_pos c]
    rw[es];have hpn:a.Zp=.nilFunc:=by
     have:=N.pt.Zp;rw[uF]at this;exact this
    have pn:Vu o g1 wb i nb al a.Zp n.Zp:=by rw[uF];exact hpn
    obtain⟨g2,w2,N2,k2⟩:=Yh.write (a:={ a with Zg:=al }) (n:={ n with Zg:=al }) { N1.pt with Zg:=trivial,Zp:=pn } kb.Yp N1.ZW ((XH N1.ZW.2 N1.pt.store.len).Zg al);have Q3:=Za N1.ZW.2;unfold Mv at w2;simp only[go_sem,f0,f1,f26,c,w2,Q3];exact⟨_,(Z0 kb).trans (k2.mono fun t q=>.inr (.inr (.inr (by rw[q];rfl)))),N2,W1.Ze k2 (by rintro t rfl;simp[Tg.of])⟩
   .have es:Zn n=n:=by unfold Zn;rw[hn];simp only;rw[if_neg c]
    rw[es];simp only[go_sem,f26,c];exact⟨f0,f1,a,Z0 kb,N1,W1⟩
 rintro F1 g1 ⟨f0,f1,a1,K1,N1,W1⟩;obtain⟨s,hs⟩:=ZN (Zn n);rw[<-hs]at N1 ZfC ZhM sme ZhN rQ BU Zad ZfD ZvK;have srg:s.Zg=al\/s.Zg=n.Zg:=by rw[hs];exact df n
 obtain⟨ZfE,Zm3,eme,ZhO,ZvL,ets⟩:=My s;have els:=dg s;unfold Yi;rw[<-hs];clear hs;refine VS.seq (VS.mono (N:=fun F' g'=>F' 0=ae (aa ⟨wb,0,al⟩)/\F' 1=ae (aa ⟨nb,0,al⟩)/\∃kb a1,F' 5=ae (aa ⟨kb,0,al⟩)/\Ya o g' kb (ab [Q O n.Zm.p.r,Q O n.Zm.p.n].toArray 101)/\Kp (JR i) o h o g'/\Z5 o g' wb i nb a1 s/\ZY o g' wb YM Xt fl Yw ZA) ?_ ?_ (fun _ _ _ h=>h) (fun _ _ h=>h))
 .refine Qw _ _ _ _ _ _ rfl ?_;have P1:=ZP N1.ZW.2 N1.pt.store.len;have P1o:=P1.cN;rw[rQ]at P1o;have TU:=Za N1.ZW.2;obtain⟨g2,WB⟩:=ZN (g1.push (ab [Q O n.Zm.p.r,Q O n.Zm.p.n].toArray 101):Hp);have k2:Kp WL o g1 o g2:=by rw[WB];exact Yu K1.Yp _
  have x5:Ya o g2 g1.size (ab [Q O n.Zm.p.r,Q O n.Zm.p.n].toArray 101):=⟨K1.Yp _ (aq _),by rw[WB];exact Zc⟩
  have e2:=WB.symm;simp only[go_sem,f0,f1,P1o,TU,e2];exact⟨_,a1,rfl,x5,K1.trans (Z0 k2),N1.Zn k2,W1.Zn k2⟩
 clear f0 f1 K1 N1 W1;rintro F2 g2 ⟨f0,f1,kb,a2,f5,x5,K2,N2,W2⟩;have io:=tb.Ze K2;refine VS.seq (VS.mono (N:=fun F' g'=>F' 0=ae (aa ⟨wb,0,al⟩)/\F' 1=ae (aa ⟨nb,0,al⟩)/\(Z2 s).n.Zp=al/\∃o' a1 Jv,Kp (JR i) o h o' g'/\Z5 o' g' wb i nb a1 (Z2 s).n/\ZY o' g' wb YM Jv (fl++(Z2 s).ls) Yw ZA) ?_ ?_ (fun _ _ _ h=>h) (fun _ _ h=>h))
 .refine Qw _ _ _ _ _ _ rfl ?_;have P2:=ZP N2.ZW.2 N2.pt.store.len;have P2r:=P2.Zg;have rR:=P2.me;have TU:=Za N2.ZW.2;have l5:=Za x5.2
  cases KP:a2.Zg with
  | some ra=>
   obtain⟨r,hn⟩:∃r,s.Zg=aa r:=by
    have:=N2.pt.Zg;rw[KP]at this
    cases hx:s.Zg with
    | none=>rw[hx]at this;exact this.elim
    | some r=>exact⟨r,rfl⟩
   have hnr:n.Zg=aa r:=by
    rcases srg with e|e
    .rw[e]at hn;cases hn
    .rw[<-e,hn]
   have e1:Z2 s=Js s r:=by unfold Z2;rw[hn]
   have ea:a2 = { a2 with Zg:=aa ra }:=by rw[<-KP]
   have es:s = { s with Zg:=aa r }:=by rw[<-hn]
   obtain⟨HU,hr2,hr3⟩:=hr r hnr;rw[KP]at P2r;unfold Mv Zx at P2r;have cr:=ZdR T g2 o wb i nb YM a2 s ra r Xt fl Yw ZA K2.Yp (by rw[<-ea,<-es];exact N2) W2 io (by omega) (by rw[rQ];exact zf) (by rw[ZfD];exact uy) HU hr2 hr3 (by rw[ZhM];omega) (by rw[BU];omega);rw[<-es,<-e1]at cr;unfold Zx at cr;simp only[go_sem,f0,f1,P2r];refine cr.use ?_;rintro v' g3 ⟨o3,a3,WA3,k3,N3,W3⟩;have P3:=(ZP N3.ZW.2 N3.pt.store.len).Zp;rcases N3.pt.Zp.fn with⟨c1,c2⟩|⟨c1,f,l,c2⟩
   .rw[c2]at P3;simp only[go_sem,f0,f1,P3];exact⟨c1,o3,a3,WA3,K2.trans k3,N3,W3⟩
   .rw[c2]at P3;simp only[go_sem,f0,f1,P3];rw[if_pos c1];exact⟨o3,a3,WA3,K2.trans k3,N3,W3⟩
  | none=>
   have hn:s.Zg=al:=by
    have:=N2.pt.Zg;rw[KP]at this
    cases hx:s.Zg with
    | none=>rfl
    | some r=>rw[hx]at this;exact this.elim
   rw[KP]at P2r;unfold Mv at P2r;have r5a:hc g2 ⟨kb,0,al⟩=aa (Q O n.Zm.p.r):=Zl x5.2;have r5b:hc g2 ⟨kb,1,al⟩=aa (Q O n.Zm.p.n):=Zl x5.2;rw[sme]at rR;by_cases c:0<n.Zm.p.r/\n.Zm.p.n≠n.me
   case neg=>
    have e1:Z2 s=⟨s,[],[]⟩:=by unfold Z2;rw[hn];simp only;rw[rQ,sme,if_neg c]
    rw[e1];have PZ:s.Zp=al:=by rw[Zad];exact uF
    simp only[go_sem,f0,f1,P2r];refine VS.mono (N:=fun F' g'=>Zj g2.size g2 g'/\F' 0=ae (aa ⟨wb,0,al⟩)/\F' 1=ae (aa ⟨nb,0,al⟩)/\F' 53=a6 false) ?_ ?_ (fun _ _ _ h=>h) (fun _ _ h=>h)
    .refine VS.z (g2.size) [] (.p 0 (.q 1 (.p 2 (.p 3 (.p 4 (.q 5 (.p 6 (.p 7 (.p 8 (.q 9 (.p 10 (.p 11 (.p 12 .nil))))))))))))) mixed (by kernel_rfl) ?_;by_cases c1:0<n.Zm.p.r
     .have c2:n.Zm.p.n=n.me:=by
       rcases Decidable.em (n.Zm.p.n=n.me) with e|e
       .exact e
       .exact (c ⟨c1,e⟩).elim
      simp only[go_sem,f0,f1,f5,r5a,r5b,rR,l5,TU,c1,c2]
      try exact Zj.refl _ _
     .simp only[go_sem,f0,f1,f5,r5a,r5b,rR,l5,TU,c1]
      try exact Zj.refl _ _
    rintro F3 g3 ⟨b3,f0,f1,f53⟩;have TQ:=ZX K2.Yp b3;simp only[go_sem,f53];exact⟨f0,f1,PZ,o,a2,Xt,K2.trans (Z0 TQ),N2.Zn TQ,by rw[a5];exact W2.Zn TQ⟩
   have e1:Z2 s=⟨s,U3 s,[]⟩:=by unfold Z2;rw[hn];simp only;rw[rQ,sme,if_pos c]
   rw[e1];have PZ:s.Zp=al:=by rw[Zad];exact uF
   obtain⟨c1,c2⟩:=c;simp only[go_sem,f0,f1,P2r];refine VS.mono (N:=fun F' g'=>Zj g2.size g2 g'/\F' 0=ae (aa ⟨wb,0,al⟩)/\F' 1=ae (aa ⟨nb,0,al⟩)/\F' 5=ae (aa ⟨kb,0,al⟩)/\F' 53=a6 true) ?_ ?_ (fun _ _ _ h=>h) (fun _ _ h=>h)
   .refine VS.z (g2.size) [] (.p 0 (.q 1 (.p 2 (.p 3 (.p 4 (.q 5 (.p 6 (.p 7 (.p 8 (.q 9 (.p 10 (.p 11 (.p 12 .nil))))))))))))) mixed (by kernel_rfl) ?_;simp only[go_sem,f0,f1,f5,r5a,r5b,rR,l5,TU,c1,c2]
    try exact Zj.refl _ _
   clear f0 f1 f5;rintro F3 g3 ⟨b3,f0,f1,f5,f53⟩;have TQ:=ZX K2.Yp b3;have N3:=N2.Zn TQ;have W3:=W2.Zn TQ;have K3:=K2.trans (Z0 (S:=JR i) TQ);have y5:=x5.Ze TQ;obtain⟨pq,cq,hpq,_⟩:=XC.ZO N3.pt.Zr;have hpq:a2.Zr=U pq s.Zr.length cq:=hpq;have P3q:=(ZP N3.ZW.2 N3.pt.store.len).Zr;rw[hpq]at P3q;simp only[go_sem,f0,f1,f53,P3q];have hql:s.Zr.length<=10000000000:=by rw[BU];exact hq
   refine VS.Yk (fun F g=>F 0=ae (aa ⟨wb,0,al⟩)/\F 1=ae (aa ⟨nb,0,al⟩)/\F 5=ae (aa ⟨kb,0,al⟩)/\F 69=U pq s.Zr.length cq/\F 70=Q O s.Zr.length/\∃(j:Nat) (o':Ow) (Jv:WA),j<=s.Zr.length/\F 71=Q O j/\Kp (JR i) o h o' g/\Z5 o' g wb i nb a2 s/\ZY o' g wb YM Jv (fl++(U3 s).take j) Yw ZA/\Ya o' g kb (ab [Q O n.Zm.p.r,Q O n.Zm.p.n].toArray 101))
    (fun F _=>s.Zr.length-(vi (F 71)).toNat) rfl ⟨f0,f1,f5,rfl,rfl,0,o,Xt,by omega,rfl,K3,N3,by simpa using W3,y5⟩ ?_
   clear f0 f1 f5 f53 P3q N3 W3 K3 y5 TQ b3 x5 K2 N2 W2;rintro F4 g4 ⟨f0,f1,f5,f69,f70,j,o4,mW,hj,f71,K4,N4,W4,y5⟩;have fF:(U3 s).length=s.Zr.length:=by unfold U3;simp
   by_cases ZS:j<s.Zr.length
   .have Z7:(j:Int)<s.Zr.length:=by omega
    obtain⟨pz,cz,Bc,iS⟩:=Q2 N4.pt.Zr.ts;obtain⟨bb,oo,hz3,T5,PH⟩:=iS (by intro e;have:s.Zr=[]:=e;rw[this]at ZS;simp at ZS);have Bc:a2.Zr=U pz s.Zr.length cz:=Bc;rw[hpq]at Bc;simp only[Value.slice.injEq]at Bc;obtain⟨rfl,_,rfl⟩:=Bc;subst hz3;have re:rd g4 ⟨bb,oo+j*5,al⟩ 5=aa (s.Zr[j]).C:=PH j ZS;obtain⟨x,hx⟩:=ZN (s.Zr[j]);rw[<-hx]at re;have XE:(U3 s).take (j+1)=(U3 s).take j++[⟨4,s.me,n.Zm.p.n,Jg,QC 0 Jg x,[]⟩]:=by
     rw[Y1 _ j (by rw[fF];exact ZS)]
     congr 2
     unfold U3;rw[bp,<-hx,rQ]
    obtain⟨g5,hg5⟩:=ZN (g4.push (ab x.C.toArray 24):Hp);have k5:Kp WL o4 g4 o4 g5:=by rw[hg5];exact Yu K4.Yp _
    have x7:Ya o4 g5 g4.size (ab x.C.toArray 24):=⟨K4.Yp _ (aq _),by rw[hg5];exact Zc⟩
    have e5:=hg5.symm;have N5:=N4.Zn k5;have W5:=W4.Zn k5;have z5:=y5.Ze k5;have s5:hc g5 ⟨kb,1,al⟩=aa (Q O n.Zm.p.n):=Zl z5.2;have sx:rd g5 ⟨g4.size,0,al⟩ 5=aa [Q O x.k,Q O x.c,Q O x.s,Q O x.n,Q O x.v]:=Zz x7.2 rfl;have re:rd g4 ⟨bb,oo+j*5,al⟩ 5=aa [Q O x.k,Q O x.c,Q O x.s,Q O x.n,Q O x.v]:=re;have e5:g4.push (ab [Q O x.k,Q O x.c,Q O x.s,Q O x.n,Q O x.v].toArray 24)=g5:=e5;have P5:=ZP N5.ZW.2 N5.pt.store.len;have Mx:=Za N5.ZW.2;simp only[go_sem,f0,f1,f5,f69,f70,f71,Z7,re,e5,s5,sx];have rl:(fl++(U3 s).take j).length<=1000000000000:=by
     rw[aU,List.length_take];omega
    refine (V0 T g5 o4 wb nb YM s.me mW _ Yw ZA n.Zm.p.n ⟨4,0,0,Jg,QC 0 Jg x,[]⟩ (U al 0 0) k5.Yp W5 P5.me Mx (Im.nil _ _ _ _) rl).use ?_;rintro v' g6 ⟨o6,WA6,k6,_,W6⟩;simp only[go_sem,f71];unfold XU;refine⟨⟨f0,f1,f5,f69,f70,j+1,o6,WA6,ZS,rfl,(K4.trans (Z0 k5)).trans (k6.mono fun t q=>by rcases q with rfl|rfl<;>simp[JR]),N5.Ze k6 (by rintro t (rfl|rfl)<;>simp[Tg.of]),by rw[XE,<-a8];exact W6,z5.Ze k6⟩,?_⟩;simp only[vi,Zq,↓reduceIte,f71];omega
   .have Xv:¬(j:Int)<s.Zr.length:=by omega
    obtain rfl:j=s.Zr.length:=by omega
    rw[List.take_of_length_le (by rw[fF];exact aq _)]at W4;simp only[go_sem,f70,f71,Xv];exact⟨f0,f1,PZ,o4,a2,mW,K4,N4,W4⟩
 clear f0 f1 f5 x5 K2 N2 W2 io;rintro F3 g3 ⟨f0,f1,PZ,o3,a3,WA3,K3,N3,W3⟩;rw[if_neg (by rw[PZ];simp)];obtain⟨m,hm⟩:=ZN ((Z2 s).n);obtain⟨ls,hls⟩:=ZN ((Z2 s).ls);rw[<-hm]at ZfE Zm3 eme ZhO ZvL N3 PZ;rw[<-hls]at W3 els;rw[<-hm,<-hls];clear hm hls;have hmt:0<=m.Yt/\m.Yt<5:=by rw[ZfE,ZfC];exact ht
 have fI:m.Zw.length<=100000000000:=by rw[Zm3,ZhM];exact hl
 have hll:(ao ls)<=10000000200:=by rw[BU]at els;omega
 refine VS.seq (VS.mono (N:=fun F' g'=>F' 0=ae (aa ⟨wb,0,al⟩)/\F' 1=ae (aa ⟨nb,0,al⟩)/\Kp (JR i) o h o3 g'/\Z5 o3 g' wb i nb a3 (JD m)/\ZY o3 g' wb YM WA3 (fl++ls) Yw ZA) ?_ ?_ (fun _ _ _ h=>h) (fun _ _ h=>h))
 .refine Qw _ _ _ _ _ _ rfl ?_;have P3:=ZP N3.ZW.2 N3.pt.store.len;have P3t:=P3.Yt;have TU:=Za N3.ZW.2;have et:(m.Yt+1).tmod 5=(m.Yt+1)%5:=Int.tmod_eq_emod_of_nonneg (by omega);obtain⟨g4,w4,N4,k4⟩:=Yh.write (a:=a3) (n:=JD m) { N3.pt with } K3.Yp N3.ZW ((XH N3.ZW.2 N3.pt.store.len).Yt ((m.Yt+1)%5));simp only[go_sem,f0,f1,P3t,et,w4,TU];exact⟨K3.trans (k4.mono fun t q=>.inr (.inr (.inr (by rw[q];rfl)))),N4,W3.Ze k4 (by rintro t rfl;simp[Tg.of])⟩
 clear f0 f1 K3 N3 W3;rintro F4 g4 ⟨f0,f1,K4,N4,W4⟩;obtain⟨q,hq0⟩:=ZN (JD m);have ql:q.Zw=m.Zw:=by rw[hq0];rfl
 rw[<-hq0]at N4 ⊢;clear hq0;have P4:=ZP N4.ZW.2 N4.pt.store.len;have P4t:=P4.Yt;have ZhQ:=P4.me;have P4o:=P4.cN;have P4l:=P4.Zw;obtain⟨pl,cl,MG,_⟩:=XC.ZO N4.pt.Zw;have MG:a3.Zw=U pl q.Zw.length cl:=MG;rw[MG]at P4l;have TU:=Za N4.ZW.2;rw[<-ql]at fI;refine Qw _ _ _ _ _ _ rfl ?_;simp only[go_sem];by_cases c:q.Yt≠q.me/\q.Zw.length<40
 case neg=>
  have e1:QZ q=[]:=by unfold QZ;rw[if_neg c]
  rw[e1,a5];refine VS.mono (N:=fun F' g'=>Zj g4.size g4 g'/\F' 109=a6 false) ?_ ?_ (fun _ _ _ h=>h) (fun _ _ h=>h)
  .refine VS.z (g4.size) [] (.p 0 (.p 1 (.p 2 (.q 3 (.p 4 (.p 5 (.p 6 (.q 7 (.p 8 (.p 9 (.p 10 (.p 11 (.p 12 (.q 13 (.p 14 (.p 15 (.p 16 .nil))))))))))))))))) mixed (by kernel_rfl) ?_;by_cases c1:q.Yt=q.me
   .simp only[go_sem,f0,f1,P4t,ZhQ,P4l,TU,c1]
    try exact Zj.refl _ _
   .have c2:¬(q.Zw.length:Int)<40:=by
     intro e;exact c ⟨c1,by omega⟩
    simp only[go_sem,f0,f1,P4t,ZhQ,P4l,TU,c1,c2]
    try exact Zj.refl _ _
  rintro F5 g5 ⟨b5,f109⟩;have D3:=ZX K4.Yp b5;simp only[go_sem,f109];exact⟨o3,a3,WA3,K4.trans (Z0 D3),N4.Zn D3,W4.Zn D3⟩
 have e1:QZ q=[⟨5,q.me,q.Yt,Ws q,QC q.Zw.length Jg Nv,[]⟩]:=by unfold QZ;rw[if_pos c]
 rw[e1];obtain⟨c1,c2⟩:=c;have c2:(q.Zw.length:Int)<40:=by omega
 refine VS.mono (N:=fun F' g'=>Zj g4.size g4 g'/\F' 0=ae (aa ⟨wb,0,al⟩)/\F' 1=ae (aa ⟨nb,0,al⟩)/\F' 109=a6 true) ?_ ?_ (fun _ _ _ h=>h) (fun _ _ h=>h)
 .refine VS.z (g4.size) [] (.p 0 (.p 1 (.p 2 (.q 3 (.p 4 (.p 5 (.p 6 (.q 7 (.p 8 (.p 9 (.p 10 (.p 11 (.p 12 (.q 13 (.p 14 (.p 15 (.p 16 .nil))))))))))))))))) mixed (by kernel_rfl) ?_;simp only[go_sem,f0,f1,P4t,ZhQ,P4l,TU,c1,c2]
  try exact Zj.refl _ _
 clear f0 f1;rintro F5 g5 ⟨b5,f0,f1,f109⟩;have D3:=ZX K4.Yp b5;have N5:=N4.Zn D3;have W5:=W4.Zn D3;have K5:Kp (JR i) o h o3 g5:=K4.trans (Z0 D3);have P5:=ZP N5.ZW.2 N5.pt.store.len;have P5o:=P5.cN;have Mx:=Za N5.ZW.2;obtain⟨g6,LS⟩:=ZN (g5.push (ab [Q O q.Zm.p.r,Q O q.Zm.p.n].toArray 101):Hp);have k6:Kp WL o3 g5 o3 g6:=by rw[LS];exact Yu K5.Yp _
 have x8:Ya o3 g6 g5.size (ab [Q O q.Zm.p.r,Q O q.Zm.p.n].toArray 101):=⟨K5.Yp _ (aq _),by rw[LS];exact Zc⟩
 have e6:=LS.symm;have N6:=N5.Zn k6;have W6:=W5.Zn k6;have K6:Kp (JR i) o h o3 g6:=K5.trans (Z0 k6);have P6h:=(ZP N6.ZW.2 N6.pt.store.len).Z8;have Zac:=Za N6.ZW.2;have l8:=Za x8.2;have r8:rd g6 ⟨g5.size,0,al⟩ 2=aa [Q O q.Zm.p.r,Q O q.Zm.p.n]:=Zz x8.2 rfl;obtain⟨kb,hkb⟩:=ZN (g5.size);simp only[go_sem,f0,f1,f109,P5o,Mx,e6];rw[<-hkb]at x8 l8 r8 ⊢;refine VS.mono (N:=fun F' g'=>Zj g6.size g6 g'/\F' 0=ae (aa ⟨wb,0,al⟩)/\F' 1=ae (aa ⟨nb,0,al⟩)/\F' 8=ae (aa ⟨kb,0,al⟩)/\F' 120=a6 (decide (ZE q.Zm.p q.Z8))) ?_ ?_ (fun _ _ _ h=>h) (fun _ _ h=>h)
 .refine VS.z (g6.size) [5] (.p 0 (.p 1 (.p 2 (.q 3 (.q 4 (.w 5 .nil)))))) mixed (by kernel_rfl) ?_;simp only[go_sem,f0,f1,P6h,r8,Zac,l8];refine (LQ T g6 q.Z8 q.Zm.p).use ?_;rintro _ g ⟨rfl,b⟩;simp only[go_sem,b];exact⟨f0,f1⟩
 clear f0 f1;rintro F7 g7 ⟨b7,f0,f1,f8,f120⟩;have kb7:=ZX K6.Yp b7;have N7:=N6.Zn kb7;have W7:=W6.Zn kb7;have K7:Kp (JR i) o h o3 g7:=K6.trans (Z0 kb7);have y8:=x8.Ze kb7;have P7h:=(ZP N7.ZW.2 N7.pt.store.len).Z8;have ZhR:=Za N7.ZW.2;have m8:=Za y8.2;by_cases c6:ZE q.Zm.p q.Z8
 all_goals
 first
 | (have eb:Ws q=q.Z8:=by unfold Ws;rw[if_pos c6]
    obtain⟨g8,E7⟩:=ZN (g7.setIfInBounds kb (ab [Q O q.Z8.r,Q O q.Z8.n].toArray 101):Hp);have w8:wr g7 ⟨kb,0,al⟩ [Q O q.Z8.r,Q O q.Z8.n]=aa g8:=by rw[Yd y8.2 0 _,E7];rfl
    have k8:Kp WL o3 g5 o3 g8:=by rw[E7];exact (k6.trans kb7).xj (by omega) _
    have z8:Ya o3 g8 kb (ab [Q O (Ws q).r,Q O (Ws q).n].toArray 101):=⟨y8.1,by rw[E7,eb];exact ZQ y8.2⟩
    simp only[go_sem,f0,f1,f8,f120,c6,P7h,ZhR,w8])
 | (have eb:Ws q=q.Zm.p:=by unfold Ws;rw[if_neg c6]
    obtain⟨g8,E7⟩:=ZN (g7:Hp);have k8:Kp WL o3 g5 o3 g8:=by rw[E7];exact k6.trans kb7
    have z8:Ya o3 g8 kb (ab [Q O (Ws q).r,Q O (Ws q).n].toArray 101):=⟨y8.1,by rw[E7,eb];exact y8.2⟩
    simp only[go_sem,f120,c6];rw[<-E7])
 all_goals
  have N8:=N5.Zn k8;have W8:=W5.Zn k8;have K8:Kp (JR i) o h o3 g8:=K5.trans (Z0 k8);have P8:=ZP N8.ZW.2 N8.pt.store.len;have P8t:=P8.Yt;have P8l:=P8.Zw;rw[MG]at P8l;have ZdX:=Za N8.ZW.2;have n8:=Za z8.2;have s8:rd g8 ⟨kb,0,al⟩ 2=aa [Q O (Ws q).r,Q O (Ws q).n]:=Zz z8.2 rfl;refine VS.z (g8.size) [14] (.p 0 (.p 1 (.p 2 (.p 3 (.p 4 (.q 5 (.q 6 (.p 7 (.p 8 (.p 9 (.q 10 (.p 11 (.p 12 (.p 13 (.w 14 .nil))))))))))))))) mixed (by kernel_rfl) ?_;simp only[go_sem,f0,f1,f8,P8t,P8l,s8,ZdX,n8];have rl:(fl++ls).length<=1000000000000:=by rw[aU];omega
  refine (V0 T g8 o3 wb nb YM q.me WA3 _ Yw ZA q.Yt ⟨5,0,0,Ws q,QC q.Zw.length Jg Nv,[]⟩ (U al 0 0) K8.Yp W8 P8.me ZdX (Im.nil _ _ _ _) rl).use ?_;rintro v' g9 ⟨o9,WA9,k9,_,W9⟩;simp only[go_sem];exact⟨o9,a3,WA9,K8.trans (k9.mono fun t q=>by rcases q with rfl|rfl<;>simp[JR]),N8.Ze k9 (by rintro t (rfl|rfl)<;>simp[Tg.of]),by rw[<-a8];exact W9⟩
structure jG(n:Nd)(l:YF)(fl ZA:Nat):Prop where
 ZR:0<=l.ZR/\l.ZR<=7
 room:fl<=1000000000000
 XO:n.Zm.l.length<=1000000
 data:(ao n.data)<=1000000
 Zh:n.Zh.length<=100000000000
 Zw:n.Zw.length<=100000000000
 ZA:ZA<=100000000000
 Zr:n.Zr.length<=1000000000000
 Zi:n.Zi.length<=1000000000000
 Rw:∀r s,n.Zg=aa r->((Yg r.YZ s).getD []).length<=1000000
structure Zaf(n:Nd)(fl:Nat):Prop where
 room:fl<=800000000000
 XO:n.Zm.l.length<=1000000
 data:(ao n.data)<=1000000
 VN:∀r,n.Zg=aa r->(∀x∈r.ZF,x.2.length<=1000000)/\(∀x∈r.ZF,∀v∈x.2,v.Zt<=1000000)/\r.ZF.length<=1000000000000
 Zw:n.Zw.length<=100000000000
 Zr:n.Zr.length<=10000000000
 Yt:0<=n.Yt/\n.Yt<5
def Ni:Nd->List YF->Nat->Nat->Prop
 | _,[],_,_=>True
 | n,l :: k,f,t=>n.Zp.isSome=true\/(jG { n with Zf:=k } l f t/\Ni (Zu { n with Zf:=k } l).n k (f+(Zu { n with Zf:=k } l).ls.length) (t+(Zu { n with Zf:=k } l).ts.length))
structure jH(n:Nd)(fl ZA:Nat):Prop where
 data:(ao n.data)<=1000000
 room:fl<=1000000000000
 dr:n.Zp=al->Ni n n.Zf fl ZA
 du:n.Zp=al->(Zy n n.Zf).n.Zp=al->Zaf (Zy n n.Zf).n (fl+(Zy n n.Zf).ls.length)
theorem BV(n:Nd)(l:YF)(k:List YF):(Zu { n with Zf:=k } l).n.Zf=k:=by
 have hL:∀(m:Nat) (x:Nd),(Ye m x).1.Zf=x.Zf:=by
  intro m
  induction m with
  | zero=>intro x;rfl
  | succ m ih=>
   intro x;unfold Ye;split
   .rfl
   .simp only;rw[ih];rfl
 have hl:∀(x:Nd) s c,(X8 x s c).n.Zf=x.Zf:=fun x s c=>by unfold X8;simp only;rw[hL];rfl
 have hn:∀x:Nd,(Xk x l).Zf=x.Zf:=fun x=>by unfold Xk;split<;>rfl
 unfold Zu;split
 .unfold YA;split;· rfl
  split;· rfl
  split<;>rfl
 split
 .unfold Ym;split
  .rfl
  .split
   .split<;>rfl
   .split;· rfl
    split
    .rw[hl];rfl
    .rfl
 split
 .unfold asked;split;· rfl
  split;· rfl
  split<;>rfl
 split
 .unfold add;simp only;split<;>rfl
 split
 .unfold Qd;split
  .simp only;rw[hn]
  .simp only;rw[hn]
 split
 .rw[hl]
 .simp only;rw[hn]
theorem ZdY{t:Tg}{v:a7}{l:YF}{k:List YF}(s:WH o t h v (l :: k)):
  ∃w b off c,v=U (aa ⟨b,off,al⟩) ((ao k)+1) c/\(ao k)+1<=c/\rd h ⟨b,off,al⟩ 14=aa (XN l w)/\TO o h w l.vs/\WH o t h (U (if c=1 then aa ⟨b,off,al⟩ else aa ⟨b,off+14,al⟩) (ao k) (c-1)) k:=by
 obtain⟨xs,h1,h2,h3⟩:=s
 cases xs with
 | nil=>cases h1
 | cons x xs=>
  obtain⟨l',w⟩:=x;simp only[List.map_cons,List.cons.injEq]at h1;obtain⟨rfl,rfl⟩:=h1;have h2':=h2;rcases h2 with⟨_,e,_⟩|⟨b,off,cap,pre,ZG,g1,rfl,g3,g4,g5,g6,g7⟩
  .cases e
  refine⟨w,b,off,cap,by rw[a9];rfl,by rw[a9];exact g7,?_,h3 (l',w) uK,?_⟩
  .have e1:ZU IQ ((l',w) :: xs)=XN l' w++ZU IQ xs:=by simp[ZU,IQ]
   have g5':(ZU IQ ((l',w) :: xs)).length=((ao xs)+1)*14:=g5;rw[YJ g3 (by simp only[aU];omega),<-g4,List.drop_left,e1,a8];rfl
  .refine⟨xs,rfl,?_,fun x hx=>h3 x (by simp[hx])⟩;have tl:=h2'.tail (k:=1) uK;have e1:ZU IQ ((l',w) :: xs)=XN l' w++ZU IQ xs:=by simp[ZU,IQ]
   rw[e1]at tl;have e2:(XN l' w++ZU IQ xs).drop (1*14)=ZU IQ xs:=rfl;rw[e2]at tl
   simpa [XL] using tl
def dh(nb:Nat)(g:Hp):Nat:=match hc g ⟨nb,54,al⟩ with
 | some (U _ m _)=>m
 | _=>0
theorem di{i nb:Nat}{a:NA}{n:Nd}(N:Z5 o h wb i nb a n):dh nb h=n.Zf.length:=by
 obtain⟨xs,h1,h2,_⟩:=N.pt.Zf;obtain⟨p,c,h3,_⟩:=h2.ZO;have:=(ZP N.ZW.2 N.pt.store.len).Zf;unfold dh;rw[this,h3,<-h1,a9]
theorem dj{i:Nat}(t:Tg)(q:ZhI i t):JR i t:=by
 rcases q with rfl|rfl|rfl|rfl|rfl
 .exact .inl rfl
 .exact .inr (.inl rfl)
 all_goals exact .inr (.inr (.inr rfl))
set_option maxHeartbeats 4000000 in
theorem Zag(T:bn)(h:Hp)(o:Ow)(wb i nb:Nat)(YM:Nat->Nat)(a:NA)(n:Nd)(Xt:WA)(fl:List YF)(Yw:Nat->Int)(ZA:List PS)(d:Vx o h)(N:Z5 o h wb i nb a n)(W:ZY o h wb YM Xt fl Yw ZA)(tb:fK o h)(ok:jH n (ao fl) (ao ZA)):
  Zd bg T 50 #[Zx wb,Zx nb] h fun v' h'=>∃o' a' Jv,Kp (JR i) o h o' h'/\Z5 o' h' wb i nb a' (step n).n/\ZY o' h' wb YM Jv (fl++(step n).ls) Yw (ZA++(step n).ts):=by
 refine Zd.XT [_,_] Tryz.func50 ?_;unfold Zx;have P:=ZP N.ZW.2 N.pt.store.len;have TU:=Za N.ZW.2;have Pu:=P.up
 cases hu:n.up with
 | false=>
  have e1:step n=⟨n,[],[]⟩:=by unfold step;rw[hu];rfl
  rw[hu]at Pu;rw[e1,a5,a5];simp only[go_sem,Pu];exact⟨o,a,Xt,Kp.refl d _,N,W⟩
 | true=>
 rw[hu]at Pu;have Pp:=P.Zp
 cases hp:n.Zp with
 | some p=>
  have e1:step n=YL (ZM n) p:=by unfold step;rw[hu,hp];rfl
  rw[e1];have Pn:=N.pt.Zp;rw[hp]at Pn;obtain⟨f,l,hf⟩:∃f l,a.Zp=.func (.func f) #[] l:=by
   rcases Pn.fn with⟨c,_⟩|⟨_,c⟩
   .cases c
   .exact c
  have Pp':=Pp;rw[hf]at Pp';obtain⟨pd,cd,PZ⟩:=N.pt.data.1.ZO;have PZ:a.data=U pd (ao n.data) cd:=PZ;have Pt:=P.tape;rw[PZ]at Pt;have Nd:=N.pt.data;rw[PZ]at Nd;simp only[go_sem,Pu,Pp',Pt];refine (ZcQ T h _ n.YS n.data Nd.bs (by have:=ok.data;omega)).use ?_;rintro v1 h1 ⟨b1,s1⟩;have kb:=ZX d b1;have N1:=N.Zn kb;have W1:=W.Zn kb;obtain⟨p1,c1,rfl,i1⟩:∃p1 c1,v1=.tuple [be [U p1 (ZM n).data.length c1,Q O (ZM n).YS].toArray,Q O (if YX n.data n.YS then 0 else 5)].toArray/\PT o h1 (U p1 (ZM n).data.length c1) (ZM n).data:=by
   unfold iH at s1;by_cases c:YX n.data n.YS
   .rw[if_pos (show (ao n.data)<=100000/\0<=n.YS/\n.YS<=(ao n.data) from c)]at s1;obtain⟨w,rfl,o1⟩:=s1;obtain⟨p1,c1,rfl,_⟩:=o1.bs.open;have e2:(ZM n).data=n.data:=by unfold ZM;simp only;rw[if_pos c]
    have e3:(ZM n).YS=(ao n.data):=by unfold ZM;simp only;rw[if_pos c]
    rw[e2,e3,if_pos c];exact⟨p1,c1,rfl,Im.WV o1.Zm (fun b hb=>d b hb),o1.byte⟩
   .rw[if_neg (show ¬((ao n.data)<=100000/\0<=n.YS/\n.YS<=(ao n.data)) from c)]at s1;have e2:(ZM n).data=[]:=by unfold ZM;simp only;rw[if_neg c]
    have e3:(ZM n).YS=0:=by unfold ZM;simp only;rw[if_neg c]
    rw[e2,e3,if_neg c];exact⟨al,0,s1,Im.nil _ _ _ _,fun x hx=>by cases hx⟩
  obtain⟨g2,w2,N2,k2⟩:=Yh.write (a:={ a with data:=U p1 (ZM n).data.length c1 }) (n:={ n with data:=(ZM n).data,YS:=(ZM n).YS }) { N1.pt with data:=i1 } kb.Yp N1.ZW ((XH N1.ZW.2 N1.pt.store.len).tape (U p1 (ZM n).data.length c1) (ZM n).YS rfl);have Q3:=Za N1.ZW.2;have Ug:=Za N2.ZW.2;have jI:hc g2 ⟨nb,55,al⟩=aa a.Zp:=(ZP N2.ZW.2 N2.pt.store.len).Zp;have pn:Vu o g2 wb i nb a.Zg .nilFunc al:=rfl;obtain⟨g3,w3,N3,k3⟩:=Yh.write (a:={ a with data:=U p1 (ZM n).data.length c1,Zp:=.nilFunc }) (n:=ZM n) { N2.pt with Zp:=pn } k2.Yp N2.ZW ((XH N2.ZW.2 N2.pt.store.len).Zp .nilFunc rfl);have K3:Kp (JR i) o h o g3:=((Z0 kb).trans (k2.mono fun t q=>.inr (.inr (.inr (by rw[q];rfl))))).trans (k3.mono fun t q=>.inr (.inr (.inr (by rw[q];rfl))));have W3:=(W1.Ze k2 (by rintro t rfl;simp[Tg.of])).Ze k3 (by rintro t rfl;simp[Tg.of]);have Pn3:Vu o g3 wb i nb a.Zg a.Zp (aa p):=((Pn.Ze kb (by rintro⟨⟩)).Ze k2 Hy).Ze k3 Hy;clear hf Pp';rw[show (YL (ZM n) p).ts=[] from by cases p<;>rfl,a5];have rm:=ok.room;have hns:(ZM n).Zp=al:=rfl
  cases p with
  | Vy acc to b vs=>
   obtain⟨b6,b4,b9,u,h1',h2',h3',h4',h5'⟩:=Pn3;have cf:=ZdC T g3 o wb i nb YM Xt fl Yw ZA _ (ZM n) acc to b vs b6 b4 b9 u k3.Yp N3 W3 rm h2' h3' h4' h5';rw[h1']at jI;unfold T6 at jI;simp only[bR]at jI;unfold Zx at jI cf;simp only[go_sem,w2,Q3,jI,w3,Ug];refine cf.use ?_;rintro v' h' ⟨o',a',Jv,k,N',W'⟩;simp only[go_sem];exact⟨o',a',Jv,K3.trans (k.mono dj),N',W'⟩
  | TC acc to x=>
   obtain⟨b6,b4,b9,u,h1',h2',h3',h4',h5'⟩:=Pn3;have cf:=ZdD T g3 o wb i nb YM Xt fl Yw ZA _ (ZM n) acc to x b6 b4 b9 u k3.Yp N3 W3 rm h2' h3' h4' h5';rw[h1']at jI;unfold T6 at jI;simp only[bR]at jI;unfold Zx at jI cf;simp only[go_sem,w2,Q3,jI,w3,Ug];refine cf.use ?_;rintro v' h' ⟨o',a',Jv,k,N',W'⟩;simp only[go_sem];exact⟨o',a',Jv,K3.trans (k.mono dj),N',W'⟩
  | Zm acc vs cur=>
   obtain⟨b6,b4,b7,b5,h1',cf⟩:=ZdE T g3 o wb i nb _ (ZM n) acc vs cur a.Zp k3.Yp N3 hns Pn3;rw[h1']at jI;unfold T6 at jI;simp only[bR]at jI;unfold Zx at jI cf;rw[show (YL (ZM n) (.Zm acc vs cur)).ls=[] from rfl,a5];simp only[go_sem,w2,Q3,jI,w3,Ug];refine cf.use ?_;rintro v' h' ⟨o',a',k,N'⟩;simp only[go_sem];exact⟨o',a',Xt,K3.trans (k.mono fun t q=>by rcases q with rfl|rfl|rfl<;>exact .inr (.inr (.inr rfl))),N',W3.Ze k (fun t q=>by rcases q with rfl|rfl|rfl<;>simp[Tg.of])⟩
 | none=>
  have Pp0:a.Zp=.nilFunc:=by have:=N.pt.Zp;rw[hp]at this;exact this
  have Pp1:=P.Zp;rw[Pp0]at Pp1;simp only[go_sem,Pu,Pp1];obtain⟨D,hD⟩:=ZN (Zy n n.Zf);have dr:=ok.dr hp;have du:=ok.du hp;have e1:step n=if D.n.Zp.isSome=true then D else ⟨(Yi D.n).n,D.ls++(Yi D.n).ls,D.ts++(Yi D.n).ts⟩:=by unfold step;rw[hu,hp,hD];rfl
  rw[<-hD]at du;rw[e1];refine VS.Yk (fun F g=>F 0=ae (aa ⟨wb,0,al⟩)/\F 1=ae (aa ⟨nb,0,al⟩)/\∃(o':Ow) (a':NA) (Jv:WA) (m:Nd) (ls:List YF) (ts:List PS),Kp (JR i) o h o' g/\Z5 o' g wb i nb a' m/\ZY o' g wb YM Jv (fl++ls) Yw (ZA++ts)/\D=⟨(Zy m m.Zf).n,ls++(Zy m m.Zf).ls,ts++(Zy m m.Zf).ts⟩/\Ni m m.Zf ((ao fl)+(ao ls)) ((ao ZA)+(ao ts)))
   (fun _ g=>dh nb g) rfl ⟨rfl,rfl,o,a,Xt,n,[],[],Kp.refl d _,N,by simpa using W,by rw[hD];rfl,by simpa using dr⟩ ?_
  clear Pu Pp Pp0 Pp1 P TU N W d;rintro F1 g1 ⟨f0,f1,o1,a1,WA1,m,ls,ts,K1,N1,W1,hDm,dr1⟩;have P1:=ZP N1.ZW.2 N1.pt.store.len;have Q3:=Za N1.ZW.2;have P1i:=P1.Zf;have P1p:=P1.Zp;have stop:(m.Zf=[]\/m.Zp.isSome=true)->D=⟨m,ls,ts⟩:=by
   intro q;have e2:Zy m m.Zf=⟨m,[],[]⟩:=by
    cases hmi:m.Zf with
    | nil=>unfold Zy;rw[<-hmi]
    | cons l k=>
     rcases q with q|q
     .rw[hmi]at q;cases q
     .unfold Zy;rw[if_pos q,<-hmi]
   rw[hDm,e2];simp
  rcases N1.pt.Zp.fn with⟨c1,c2⟩|⟨c1,f,fl',c2⟩
  .rw[c2]at P1p
   cases hmi:m.Zf with
   | nil=>
    have eD:=stop (.inl hmi);obtain⟨p,c,hi⟩:∃p c,a1.Zf=U p 0 c:=by
     have:=N1.pt.Zf;rw[hmi]at this;obtain⟨xs,h1,h2,_⟩:=this;obtain⟨p,c,h3,_⟩:=h2.ZO;rw[List.map_eq_nil_iff]at h1;subst h1;exact⟨p,c,h3⟩
    rw[hi]at P1i;have dok:=du (by rw[eD];exact c1);rw[eD]at dok;rw[eD,if_neg (by rw[c1];simp)];have cd:=ZdW T g1 o1 wb i nb YM a1 m WA1 (fl++ls) Yw (ZA++ts) K1.Yp N1 W1 (tb.Ze K1) c1 (by rw[aU];exact dok.room) dok.XO dok.data dok.VN dok.Zw dok.Zr dok.Yt;unfold Zx at cd;simp only[go_sem,f0,f1,P1i,P1p];refine cd.use ?_;rintro v' g2 ⟨o2,a2,WA2,k2,N2,W2⟩;simp only[go_sem];have edt:(Yi m).ts=[]:=by
     unfold Yi;split
     .exact (My _).2.2.2.2.2
     .rfl
    refine⟨o2,a2,WA2,K1.trans k2,N2,?_⟩;rw[edt,a5,<-a8];exact W2
   | cons l k=>
    have NI:=N1.pt.Zf;rw[hmi]at NI;obtain⟨w,b,off,c,hi,WE,PH,iv,tl⟩:=ZdY NI;rw[hi]at P1i;rw[hmi]at dr1;have hk:jG { m with Zf:=k } l ((ao fl)+(ao ls)) ((ao ZA)+(ao ts))/\Ni (Zu { m with Zf:=k } l).n k ((ao fl)+(ao ls)+(Zu { m with Zf:=k } l).ls.length) ((ao ZA)+(ao ts)+(Zu { m with Zf:=k } l).ts.length):=by
     rcases dr1 with q|q
     .rw[c1]at q;cases q
     .exact q
    obtain⟨hk,dr2⟩:=hk;have fL:D=⟨(Zy (Zu { m with Zf:=k } l).n k).n,(ls++(Zu { m with Zf:=k } l).ls)++(Zy (Zu { m with Zf:=k } l).n k).ls,(ts++(Zu { m with Zf:=k } l).ts)++(Zy (Zu { m with Zf:=k } l).n k).ts⟩:=by
     rw[hDm,hmi];have e2:Zy m (l :: k)=⟨(Zy (Zu { m with Zf:=k } l).n k).n,(Zu { m with Zf:=k } l).ls++(Zy (Zu { m with Zf:=k } l).n k).ls,(Zu { m with Zf:=k } l).ts++(Zy (Zu { m with Zf:=k } l).n k).ts⟩:=by
      rw[Zy];rw[if_neg (by rw[c1];simp)]
     rw[e2];simp
    have Ma:=BV m l k;clear stop dr1 hDm;obtain⟨pw,cw,rfl⟩:=iv.ZO;obtain⟨g2,WB⟩:=ZN (g1.push (ab (XN l (U pw (ao l.vs) cw)).toArray 134):Hp);have k2:Kp WL o1 g1 o1 g2:=by rw[WB];exact Yu K1.Yp _
    have x5:Ya o1 g2 g1.size (ab (XN l (U pw (ao l.vs) cw)).toArray 134):=⟨K1.Yp _ (aq _),by rw[WB];exact Zc⟩
    have e2:=WB.symm;have N2:=N1.Zn k2;have W2:=W1.Zn k2;have P2i:=(ZP N2.ZW.2 N2.pt.store.len).Zf;rw[hi]at P2i;have Ug:=Za N2.ZW.2;obtain⟨vi',hvi⟩:∃v:a7,v=U (if c=1 then aa ⟨b,off,al⟩ else aa ⟨b,off+14,al⟩) (ao k) (c-1):=⟨_,rfl⟩
    have tl2:WH o1 (.Zf i) g2 vi' k:=by rw[hvi];exact tl.Ze k2 (fun q=>q.elim)
    obtain⟨g3,w3,N3,k3⟩:=Yh.write (a:={ a1 with Zf:=vi' }) (n:={ m with Zf:=k }) { N2.pt with Zf:=tl2 } k2.Yp N2.ZW ((XH N2.ZW.2 N2.pt.store.len).Zf vi' (by rw[hvi];rfl));rw[hvi]at w3;have y5:=x5.Ze k3;have W3:=W2.Ze k3 (by rintro t rfl;simp[Tg.of]);have r5:rd g3 ⟨g1.size,0,al⟩ 14=aa (XN l (U pw (ao l.vs) cw)):=Zz y5.2 rfl;have K3:Kp (JR i) o h o1 g3:=(K1.trans (Z0 k2)).trans (k3.mono fun t q=>.inr (.inr (.inr (by rw[q];rfl))));have Es:(1:Int)<=c:=nT;have ch:=rH T g3 o1 wb i nb YM _ { m with Zf:=k } WA1 (fl++ls) Yw (ZA++ts) l (U pw (ao l.vs) cw) k3.Yp N3 W3 ((iv.Ze k2).Ze k3) (tb.Ze K3) hk.ZR (by rw[aU];exact hk.room) hk.XO hk.data hk.Zh hk.Zw (by rw[aU];exact hk.ZA) hk.Zr hk.Zi hk.Rw;unfold Zx XN at ch;unfold XN at PH e2 r5;simp only[go_sem,f0,f1,P1i,P1p,PH,e2,P2i,Ug,w3,WE,Es,r5,Nat.add_sub_cancel];refine ch.use ?_;rintro v' g4 ⟨o4,a4,mW,k4,N4,W4⟩;simp only[go_sem];unfold XU;have in4:=di N4;have in1:=di N1;rw[Ma]at in4;rw[hmi]at in1;refine⟨⟨f0,f1,o4,a4,mW,(Zu { m with Zf:=k } l).n,ls++(Zu { m with Zf:=k } l).ls,ts++(Zu { m with Zf:=k } l).ts,K3.trans k4,N4,by rw[<-a8,<-a8];exact W4,by rw[Ma];exact fL,by rw[Ma,aU,aU,<-Nat.add_assoc,<-Nat.add_assoc];exact dr2⟩,?_⟩;show dh nb g4<dh nb g1;rw[in4,in1];simp
  .rw[c2]at P1p;have eD:=stop (.inr c1);rw[eD,if_pos c1];obtain⟨p,c,hi⟩:∃p c,a1.Zf=U p m.Zf.length c:=by
    obtain⟨xs,h1,h2,_⟩:=N1.pt.Zf;obtain⟨p,c,h3,_⟩:=h2.ZO;rw[<-h1,a9];exact⟨p,c,h3⟩
   rw[hi]at P1i;by_cases hz:0<m.Zf.length
   .have Cz:(0:Int)<m.Zf.length:=nT;simp only[go_sem,f0,f1,P1i,P1p,Cz];exact⟨o1,a1,WA1,K1,N1,W1⟩
   .have Cz:¬(0:Int)<m.Zf.length:=nT;simp only[go_sem,f0,f1,P1i,P1p,Cz];exact⟨o1,a1,WA1,K1,N1,W1⟩
def SW(t:Tg):Prop:=True
def Zm6(t:Tg):Prop:=∃i,t.of=aa i
theorem YQ{S:Tg->Prop}{o':Ow}{h':Hp}(k:Kp S o h o' h'):Kp SW o h o' h':=k.mono fun _ _=>trivial
structure QD(o:Ow)(h:Hp)(wb:Nat)(YM:Nat->Nat)(Xt:WA)(w:Wd):Prop where
 wd:ZY o h wb YM Xt w.Zo w.Yw w.ZA
 nd:∀i,i<5->∃a,Z5 o h wb i (YM i) a (w.Zb i)
theorem QD.Zn{h':Hp}{YM:Nat->Nat}{Xt:WA}{w:Wd}{o':Ow}(A:QD o h wb YM Xt w)(k:Kp WL o h o' h'):QD o' h' wb YM Xt w:=
 ⟨A.wd.Zn k,fun i hi=>by obtain⟨a,N⟩:=A.nd i hi;exact⟨a,N.Zn k⟩⟩
theorem QD.Yt{o':Ow}{h':Hp}{YM:Nat->Nat}{Xt WA1:WA}{w:Wd}{i:Nat}{a:NA}{n:Nd}{fl:List YF}{Yw:Nat->Int}{ZA:List PS}(A:QD o h wb YM Xt w)(k:Kp (JR i) o h o' h')(N:Z5 o' h' wb i (YM i) a n)(W:ZY o' h' wb YM WA1 fl Yw ZA):QD o' h' wb YM WA1 { Zb:=fun j=>if j=i then n else w.Zb j,Zo:=fl,Yw:=Yw,ZA:=ZA }:=by
 refine⟨W,fun j hj=>?_⟩;by_cases e:j=i
 .subst e;exact⟨a,by simpa using N⟩
 .obtain⟨b,M⟩:=A.nd j hj;refine⟨b,?_⟩;simp only[if_neg e];refine M.Ze k fun t q hq=>?_;rcases q with rfl|rfl|rfl|q
  .cases hq
  .cases hq
  .cases hq
  .rw[hq]at q;exact e (Option.some.inj q)
theorem TH{YM:Nat->Nat}{Xt:WA}{fl:List YF}{Yw:Nat->Int}{ZA:List PS}(W:ZY o h wb YM Xt fl Yw ZA):
  ∃b off c,Xt.Zb=U (aa ⟨b,off,al⟩) 5 c/\5<=c/\b<h.size/\∀i,i<5->hc h ⟨b,off+i,al⟩=aa (Zx (YM i)):=by
 rcases W.Zb with⟨_,e,_⟩|⟨b,off,cap,pre,ZG,g1,g2,g3,g4,g5,g6,g7⟩
 .cases e
 refine⟨b,off,cap,g2,g7,Za g3,fun i hi=>?_⟩;rw[Zl g3,YW,<-g4,List.getElem?_append_right nT,bh]
 match i,hi with
 | 0,_=>rfl
 | 1,_=>rfl
 | 2,_=>rfl
 | 3,_=>rfl
 | 4,_=>rfl
theorem rS{T:bn}{K:a7->Hp->Prop}{ty:TypeId}{t:Tg}{v:a7}{l:List YF}{x:YF}{w:a7}{bx:Nat}{cb:Array Bool}(s:WH o t h v l)(d:Vx o h)(iv:TO o h w x.vs)(hb:h[bx]? = aa (ab (XN x w).toArray 134))(hr:(ao l)<=1000000000000)(H:∀p c o' h',WH o' t h' (U p ((ao l)+1) c) (l++[x])->Kp (fun u=>u=t) o h o' h'->K (U p ((ao l)+1) c) h'):
  PY bg T .append #[94,94] ty cb [v,U (aa ⟨bx,0,al⟩) 1 1] K h:=by
 have src:Sl 14 h (U (aa ⟨bx,0,al⟩) 1 1) 1 (XN x w):=⟨_,1,rfl,rfl,fun _=>⟨bx,0,rfl,fun i hi=>by
  rw[Zl hb,YW,Nat.zero_add];exact bo hi⟩⟩
 obtain⟨p,c,hw⟩:=iv.ZO;have XW:YD w=true:=by rw[hw];rfl
 obtain⟨xs,Wi,Mj,iQ⟩:=s;have BD:(ao xs)=(ao l):=by rw[<-Wi,a9]
 refine QT (E:=134) (n:=14) (bytes:=128) (k:=1) lT Tryz.underlying94 xo lW rfl Ze8 Mj d src (by rw[XN,List.all_eq_true];intro x hx;simp at hx;rcases hx with rfl|rfl|rfl|rfl|rfl|rfl|rfl|rfl|rfl|rfl|rfl|rfl|rfl|rfl<;>first|rfl|exact XW) nT nT ?_;intro v' o' h' w' k _;obtain⟨p',c',rfl,_⟩:=w'.ZO;rw[BD];refine H p' c' o' h' ⟨xs++[(x,w)],by rw[bP,Wi];rfl,?_,fun y hy=>?_⟩ k
 .rw[Y6,Tq,aU,<-BD];exact w'
 .rcases List.mem_append.1 hy with hy|hy
  .exact (iQ y hy).Ze k
  .have:y=(x,w):=by simpa using hy
   subst this;exact iv.Ze k
theorem Rz{t:Tg}{v:a7}{l:List YF}(s:WH o t h v l):∃p c,v=U p (ao l) c/\(ao l)<=c:=by
 obtain⟨xs,h1,h2,_⟩:=s;obtain⟨p,c,h3,h4⟩:=h2.ZO;rw[<-h1,a9];exact⟨p,c,h3,h4⟩
set_option maxHeartbeats 4000000 in
theorem BW(T:bn)(h:Hp)(o:Ow)(wb:Nat)(YM:Nat->Nat)(Xt:WA)(w:Wd)(l:YF)(v:a7)(d:Vx o h)(A:QD o h wb YM Xt w)(iv:TO o h v l.vs)(hto:0<=l.to/\l.to<5)(Ma:∀i,i<5->(w.Zb i).Zf.length<=1000000000000):
  Zd bg T 52 #[Zx wb,be (XN l v).toArray] h fun v' h'=>∃o',Kp Zm6 o h o' h'/\QD o' h' wb YM Xt (Q0 w l):=by
 obtain⟨pw,cw,rfl⟩:=iv.ZO;obtain⟨j,hj⟩:∃j:Nat,(j:Int)=l.to:=⟨l.to.toNat,nT⟩
 have hj5:j<5:=nT;have hjn:l.to.toNat=j:=nT;refine Zd.XT [_,_] Tryz.func52 ?_;unfold Zx XN;obtain⟨h1,Xm⟩:=ZN (h.push (ab (XN l (U pw (ao l.vs) cw)).toArray 134):Hp);have k1:Kp WL o h o h1:=by rw[Xm];exact Yu d _
 have x3:Ya o h1 h.size (ab (XN l (U pw (ao l.vs) cw)).toArray 134):=⟨d _ (aq _),by rw[Xm];exact Zc⟩
 have e0:=Xm.symm;unfold XN at e0;have A1:=A.Zn k1;have R1:=XP A1.wd.ZW.2;obtain⟨b,off,c,hn,hc5,hb,PH⟩:=TH A1.wd;have Rn:=R1.Zb;rw[hn]at Rn;have BS:=Za A1.wd.ZW.2;have r3:hc h1 ⟨h.size,2,al⟩=aa (Q O j):=by rw[hj];exact Zl x3.2
 have l3:=Za x3.2;have rj:=PH j hj5;unfold Zx at rj;have ZvX:(j:Int)<5:=nT;simp only[go_sem,e0];refine VS.mono (N:=fun F' g'=>Zj h1.size h1 g'/\F' 3=ae (aa ⟨h.size,0,al⟩)/\F' 4=ae (aa ⟨YM j,0,al⟩)) ?_ ?_ (fun _ _ _ h=>h) (fun _ _ h=>h)
 .refine VS.z (h1.size) [] (.p 0 (.p 1 (.p 2 (.q 3 (.p 4 (.q 5 (.p 6 (.q 7 (.p 8 .nil))))))))) mixed uj ?_;simp only[go_sem,Rn,r3,BS,l3,hb,ZvX,rj]
  try exact Zj.refl _ _
 rintro F1 g1 ⟨b1,f3,f4⟩;have kb:=ZX k1.Yp b1;have A2:=A1.Zn kb;have K2:=k1.trans kb;have y3:=x3.Ze kb;obtain⟨a,N2⟩:=A2.nd j hj5;have P2:=ZP N2.ZW.2 N2.pt.store.len;have mX:=P2.up;have TU:=Za N2.ZW.2;unfold Q0;rw[hjn]
 cases hu:(w.Zb j).up with
 | false=>
  rw[hu]at mX;rw[if_neg uK];simp only[go_sem,f4,mX];exact⟨o,Z0 K2,A2⟩
 | true=>
  rw[hu]at mX;rw[if_pos rfl];obtain⟨pi,ci,hi,_⟩:=Rz N2.pt.Zf;have P2i:=P2.Zf;rw[hi]at P2i;have r3:rd g1 ⟨h.size,0,al⟩ 14=aa (XN l (U pw (ao l.vs) cw)):=Zz y3.2 rfl;unfold XN at r3;have l3:=Za y3.2;simp only[go_sem,f4,mX];refine VS.z (g1.size) [7,10] (.p 0 (.p 1 (.p 2 (.p 3 (.q 4 (.q 5 (.s 6 (.w 7 (.p 8 (.p 9 (.w 10 .nil))))))))))) mixed uj ?_;simp only[go_sem,f3,f4,P2i,r3,TU,l3];obtain⟨g2,WB⟩:=ZN (g1.push (ab (XN l (U pw (ao l.vs) cw)).toArray 134):Hp);have k2:Kp WL o g1 o g2:=by rw[WB];exact Yu K2.Yp _
  have e2:=WB.symm;unfold XN at e2;rw[e2];have N3:=N2.Zn k2;have A3:=A2.Zn k2;have K3:=K2.trans k2;have LI:=N3.pt.Zf;rw[hi]at LI;refine rS LI K3.Yp ((iv.Ze K2).Ze k2) (by rw[WB];exact Zc) (Ma j hj5) ?_;intro p3 c3 o3 g3 L3 k3;have k3:Kp (fun t=>t=.Zf j) o g2 o3 g3:=k3;have N4:=Yh.rh N3.pt k3 L3;have B4:=N3.ZW.Ze k3 Hy;have W4:=A3.wd.Ze k3 (by rintro t rfl;simp[Tg.of]);obtain⟨g5,w5,N5,k5⟩:=Yh.write N4 k3.Yp B4 ((XH B4.2 N3.pt.store.len).Zf (U p3 ((w.Zb j).Zf.length+1) c3) rfl);have Hx:=Za B4.2;simp only[go_sem,w5,Hx];have W5:=W4.Ze k5 (by rintro t rfl;simp[Tg.of]);have kk:Kp (fun t=>t.of=aa j) o g2 o3 g5:=(k3.mono fun t q=>by rw[q];rfl).trans (k5.mono fun t q=>by rw[q];rfl);exact⟨o3,(Z0 K3).trans (kk.mono fun t q=>⟨j,q⟩),A3.Yt (kk.mono fun t q=>.inr (.inr (.inr q))) N5 W5⟩
theorem mY{t:Tg}{v:a7}{l:List YF}(s:WH o t h v l)(k:Nat)(hk:k<(ao l)):
  ∃w b off c,v=U (aa ⟨b,off,al⟩) (ao l) c/\(ao l)<=c/\b<h.size/\rd h ⟨b,off+k*14,al⟩ 14=aa (XN l[k] w)/\TO o h w l[k].vs:=by
 obtain⟨xs,rfl,h2,h3⟩:=s;rw[a9]at hk;rcases h2 with⟨_,e,_⟩|⟨b,off,cap,pre,ZG,g1,rfl,g3,g4,g5,g6,g7⟩
 .omega
 refine⟨xs[k].2,b,off,cap,by rw[a9],by rw[a9];exact g7,Za g3,?_,?_⟩
 .have hlen:∀x,(IQ x).length=14:=fun x=>rfl;have hle:k*14+14<=(ao xs)*14:=by omega
  rw[YJ g3 (by simp only[aU];omega),<-g4,List.drop_append,List.drop_of_length_le (by omega),bQ,bh];rw[List.drop_append_of_le_length (by omega),List.take_append_of_le_length (by rw[List.length_drop];omega)];rw[Ry hlen xs k (by omega),List.drop_eq_getElem_cons hk];have e1:ZU IQ (xs[k] :: xs.drop (k+1))=XN xs[k].1 xs[k].2++ZU IQ (xs.drop (k+1)):=by simp[ZU,IQ]
  rw[e1,bp];rfl
 .rw[bp];exact h3 _ (bC hk)
theorem rU{o':Ow}{t:Tg}{h':Hp}{xs:List (YF × a7)}{v:a7}{k:Nat}(hk:k<(ao xs))(h2:XC o' t 134 14 h' v ((ao xs)-1) ((ZU IQ xs).take (k*14)++(ZU IQ xs).drop ((k+1)*14)))(h3:∀x∈xs,TO o' h' x.2 x.1.vs):
  WH o' t h' v ((xs.map (·.1)).eraseIdx k):=by
 have hlen:∀x,(IQ x).length=14:=fun x=>rfl;have el:(xs.eraseIdx k).length=(ao xs)-1:=by rw[List.length_eraseIdx_of_lt hk]
 refine⟨xs.eraseIdx k,?_,?_,fun x hx=>h3 x (List.mem_of_mem_eraseIdx hx)⟩
 .rw[bf,bf,bP,List.map_take,List.map_drop]
 .rw[el];have e1:ZU IQ (xs.eraseIdx k)=(ZU IQ xs).take (k*14)++(ZU IQ xs).drop ((k+1)*14):=by
   rw[Nh hlen xs k nT,Ry hlen xs (k+1) nT,<-Y6,bf]
  rw[e1];exact h2
theorem ZY.D8{o1:Ow}{h1:Hp}{nb:Nat->Nat}{a:WA}{fl fl':List YF}{Yw:Nat->Int}{ZA:List PS}{v:a7}(W:ZY o h wb nb a fl Yw ZA)(k:Kp (fun t=>t=.Zo) o h o1 h1)(hv:WH o1 .Zo h1 v fl'){e:Option Hp}(w:e=aa (h1.setIfInBounds wb (ab (X4 Yw { a with Zo:=v }).toArray 96))):
  ∃g,e=aa g/\ZY o1 g wb nb { a with Zo:=v } fl' Yw ZA/\Kp (fun t=>t=.world) o1 h1 o1 g:=by
 have b:=W.ZW.Ze k Hy;have kk:Kp (fun t=>t=.world) o1 h1 o1 (h1.setIfInBounds wb (ab (X4 Yw { a with Zo:=v }).toArray 96)):=(Kp.refl k.Yp (fun t=>t=.world)).set b.1 rfl _;exact⟨_,w,⟨⟨b.1,ZQ b.2⟩,(W.Zb.Ze k Hy).Ze kk Hy,hv.Ze kk Hy,(W.ZA.Ze k Hy).Ze kk Hy⟩,kk⟩
theorem QD.Zd0{S:Tg->Prop}{o':Ow}{h':Hp}{YM:Nat->Nat}{Xt WA1:WA}{w:Wd}{fl:List YF}{Yw:Nat->Int}{ZA:List PS}(A:QD o h wb YM Xt w)(k:Kp S o h o' h')(hn:∀t,S t->t.of=al)(W:ZY o' h' wb YM WA1 fl Yw ZA):
  QD o' h' wb YM WA1 { w with Zo:=fl,Yw:=Yw,ZA:=ZA }:=
 ⟨W,fun i hi=>by obtain⟨a,N⟩:=A.nd i hi;exact⟨a,N.Ze k fun t q e=>by rw[hn t q]at e;cases e⟩⟩
theorem Zd1:∀(xs:List (YF × a7)),(∀x∈xs,TO o h x.2 x.1.vs)->(ZU IQ xs).all YD=true:=by
 intro xs
 induction xs with
 | nil=>intro _;rfl
 | cons x xs ih=>
  intro hx;have e1:ZU IQ (x :: xs)=IQ x++ZU IQ xs:=by simp[ZU]
  obtain⟨p,c,hw⟩:=(hx x uK).ZO;rw[e1,List.all_append,ih (fun y hy=>hx y (by simp[hy])),Bool.and_true];unfold IQ;rw[hw];rfl
set_option maxHeartbeats 4000000 in
theorem Zah(T:bn)(h:Hp)(o:Ow)(wb:Nat)(YM:Nat->Nat)(Xt:WA)(w:Wd)(at':Nat)(comes stays:Bool)(d:Vx o h)(A:QD o h wb YM Xt w)(hto:∀l∈w.Zo,0<=l.to/\l.to<5)(fF:w.Zo.length<=1000000000000)(Ma:∀i,i<5->(w.Zb i).Zf.length<=1000000000000):
  Zd bg T 51 #[Zx wb,Q O at',a6 comes,a6 stays] h fun v' h'=>∃o' Jv,Kp SW o h o' h'/\QD o' h' wb YM Jv (pick w at' comes stays):=by
 refine Zd.XT [_,_,_,_] Tryz.func51 ?_;unfold Zx;have R:=XP A.wd.ZW.2;have Rf:=R.Zo;have BS:=Za A.wd.ZW.2;obtain⟨pf,cf,hf,hfc⟩:=Rz A.wd.Zo;rw[hf]at Rf;by_cases hz:w.Zo.length=0
 .have hp:pick w at' comes stays=w:=by
   unfold pick;rw[List.getElem?_eq_none (by rw[hz];exact Nat.zero_le _)]
  rw[hp];have Cz:(w.Zo.length:Int)=0:=nT;simp only[go_sem,Rf,Cz];exact⟨o,Xt,Kp.refl d _,A⟩
 have Cz:¬(w.Zo.length:Int)=0:=nT;obtain⟨k,hk⟩:=ZN (at'%w.Zo.length);have hkl:k<w.Zo.length:=by rw[hk];exact Nat.mod_lt _ nT
 have ek:(at':Int).tmod (w.Zo.length:Int)=(k:Int):=by rw[hk];rfl
 have ZhU:(k:Int)<w.Zo.length:=nT;obtain⟨v,b,off,c,hv,hvc,hb,PH,iv⟩:=mY A.wd.Zo k hkl;rw[hf]at hv;simp only[Value.slice.injEq]at hv;obtain⟨rfl,_,rfl⟩:=hv;obtain⟨l,hl⟩:=ZN (w.Zo[k]);rw[<-hl]at PH iv;have mG:l∈w.Zo:=by rw[hl];exact bC hkl
 obtain⟨pw,cw,rfl⟩:=iv.ZO;obtain⟨h1,Xm⟩:=ZN (h.push (ab (XN l (U pw (ao l.vs) cw)).toArray 134):Hp);have k1:Kp WL o h o h1:=by rw[Xm];exact Yu d _
 have x9:Ya o h1 h.size (ab (XN l (U pw (ao l.vs) cw)).toArray 134):=⟨d _ (aq _),by rw[Xm];exact Zc⟩
 have e0:=Xm.symm;unfold XN at e0 PH;have A1:=A.Zn k1;have R1:=XP A1.wd.ZW.2;have R1f:=R1.Zo;rw[hf]at R1f;have ZhV:=Za A1.wd.ZW.2;have r9:rd h1 ⟨h.size,0,al⟩ 14=aa (XN l (U pw (ao l.vs) cw)):=Zz x9.2 rfl;unfold XN at r9;have eg:w.Zo[at'%w.Zo.length]? = aa l:=by rw[<-hk,hl];exact bo hkl
 have ep:pick w at' comes stays=if comes=true then Q0 (if stays=true then w else { w with Zo:=w.Zo.eraseIdx k }) l else (if stays=true then w else { w with Zo:=w.Zo.eraseIdx k }):=by
  unfold pick;rw[eg,hk]
 rw[ep]
 cases stays with
 | true=>
  rw[if_pos rfl]
  cases comes with
  | false=>
   rw[if_neg uK];simp only[go_sem,Rf,Cz,ek,ZhU,PH,e0];exact⟨o,Xt,YQ k1,A1⟩
  | true=>
   rw[if_pos rfl];have cc:=BW T h1 o wb YM Xt w l (U pw (ao l.vs) cw) k1.Yp A1 (iv.Ze k1) (hto l mG) Ma;unfold Zx XN at cc;simp only[go_sem,Rf,Cz,ek,ZhU,PH,e0,r9];refine cc.use ?_;rintro v' g ⟨o',kk,A'⟩;simp only[go_sem];exact⟨o',Xt,(YQ k1).trans (YQ kk),A'⟩
 | false=>
  rw[if_neg (show ¬(false=true) by simp)];obtain⟨xs,Wi,Mj,iQ⟩:=A1.wd.Zo;have BD:(ao xs)=w.Zo.length:=by rw[<-Wi,a9]
  have cd:=cQ T h1 o .Zo Xt.Zo (ao xs) k (ZU IQ xs) Mj k1.Yp (Zd1 xs iQ) nT nT;rw[hf]at cd;have ek2:(k:Int)+1=((k:Int)+1):=rfl;simp only[go_sem,Rf,Cz,ek,ZhU,PH,e0,R1f];refine cd.use ?_;rintro v2 g2 ⟨L2,k2⟩;have k2:Kp (fun t=>t=.Zo) o h1 o g2:=k2;have L3:WH o .Zo g2 v2 (w.Zo.eraseIdx k):=by
   rw[<-Wi];exact rU nT L2 (fun x hx=>(iQ x hx).Ze k2)
  have B2:=A1.wd.ZW.Ze k2 Hy;obtain⟨p2,c2,rfl,_⟩:=Rz L3;obtain⟨g3,w3,W3,k3⟩:=A1.wd.D8 k2 L3 ((XP B2.2).BR (U p2 (w.Zo.eraseIdx k).length c2) rfl);have A3:QD o g3 wb YM { Xt with Zo:=U p2 (w.Zo.eraseIdx k).length c2 } { w with Zo:=w.Zo.eraseIdx k }:=
   A1.Zd0 (S:=fun t=>t=.Zo\/t=.world) ((k2.mono fun t q=>.inl q).trans (k3.mono fun t q=>.inr q)) (by rintro t (rfl|rfl)<;>rfl) W3
  have ZhW:=Za B2.2;have y9:=(x9.Ze k2).Ze k3;have r9:rd g3 ⟨h.size,0,al⟩ 14=aa (XN l (U pw (ao l.vs) cw)):=Zz y9.2 rfl;unfold XN at r9;have K3:Kp SW o h o g3:=((YQ k1).trans (YQ k2)).trans (YQ k3)
  cases comes with
  | false=>
   rw[if_neg (show ¬(false=true) by simp)];simp only[go_sem,w3,ZhW];exact⟨o,_,K3,A3⟩
  | true=>
   rw[if_pos rfl];have cc:=BW T g3 o wb YM _ _ l (U pw (ao l.vs) cw) k3.Yp A3 (((iv.Ze k1).Ze k2).Ze k3) (hto l mG) Ma;unfold Zx XN at cc;simp only[go_sem,w3,ZhW,r9];refine cc.use ?_;rintro v' g ⟨o',kk,A'⟩;simp only[go_sem];exact⟨o',_,K3.trans (YQ kk),A'⟩
theorem Zd2(rc:List Nat)(now:Int):cM rc now=(Xl rc now).C:=by
 unfold cM Xl;split<;>rfl
theorem ZhX{Yw:Nat->Int}{a:WA}(H:h[wb]? = aa (ab (X4 Yw a).toArray 96))(i:Nat)(hi:i<5):
  hc h ⟨wb,9+i,al⟩=aa (Q O (Yw i))/\∀k,QQ h ⟨wb,9+i,al⟩ (Q O k)=aa (h.setIfInBounds wb (ab (X4 (fun j=>if j=i then k else Yw j) a).toArray 96)):=by
 match i,hi with
 | 0,_=>exact⟨Zl H,fun k=>by rw[Xh H,if_pos ⟨by simp[X4],rfl⟩];rfl⟩
 | 1,_=>exact⟨Zl H,fun k=>by rw[Xh H,if_pos ⟨by simp[X4],rfl⟩];rfl⟩
 | 2,_=>exact⟨Zl H,fun k=>by rw[Xh H,if_pos ⟨by simp[X4],rfl⟩];rfl⟩
 | 3,_=>exact⟨Zl H,fun k=>by rw[Xh H,if_pos ⟨by simp[X4],rfl⟩];rfl⟩
 | 4,_=>exact⟨Zl H,fun k=>by rw[Xh H,if_pos ⟨by simp[X4],rfl⟩];rfl⟩
theorem Zai{i:Nat}(t:Tg)(q:ZhE i t):JR i t:=by
 rcases q with rfl|rfl<;>exact .inr (.inr (.inr rfl))
theorem add_same(n:Nd)(x:Cm):(add n x).Zi=n.Zi/\(add n x).me=n.me:=by
 unfold add;split<;>exact⟨rfl,rfl⟩
set_option maxHeartbeats 4000000 in
theorem rW(T:bn)(h:Hp)(o:Ow)(wb:Nat)(YM:Nat->Nat)(Xt:WA)(w:Wd)(i:Nat)(rc:List Nat)(v:a7)(d:Vx o h)(A:QD o h wb YM Xt w)(hi:i<5)(Hv:(w.Zb i).me=i)(iv:PT o h v rc)(Vk:PM v)(hrl:(ao rc)<=140737488355328)(tb:fK o h)(hq:(w.Zb i).Zr.length<=1000000000000)(hl:(w.Zb i).Zw.length<=1000000000000)(Gd:(w.Zb i).Zi.length<=1000000000000)(ht:w.ZA.length<=1000000000000)(hb:0<=w.Yw i/\w.Yw i<=1000000000000):
  Zd bg T 48 #[Zx wb,Zx (YM i),v] h fun v' h'=>∃o' Jv,Kp SW o h o' h'/\QD o' h' wb YM Jv (Jk w i rc):=by
 obtain⟨pv,cv,rfl⟩:=iv.1.ZO;refine Zd.XT [_,_,_] Tryz.func48 ?_;unfold Zx;obtain⟨a,N⟩:=A.nd i hi;obtain⟨n,hn⟩:=ZN (w.Zb i);unfold Jk;rw[<-hn]at N Hv hq hl Gd ⊢;have P:=ZP N.ZW.2 N.pt.store.len;have TU:=Za N.ZW.2;have Pu:=P.up
 cases hu:n.up with
 | false=>
  rw[hu]at Pu;rw[if_neg uK];simp only[go_sem,Pu];exact⟨o,Xt,Kp.refl d _,A⟩
 | true=>
 rw[hu]at Pu;rw[if_pos rfl];have Pl:=P.Zw;obtain⟨pl,cl,MG,_⟩:=XC.ZO N.pt.Zw;have MG:a.Zw=U pl n.Zw.length cl:=MG;rw[MG]at Pl;obtain⟨E,hE⟩:=ZN (YK rc n.Zw.length);obtain⟨x,hx⟩:=ZN (Xl rc n.Zw.length);have co:=zr T h (U pv (ao rc) cv) rc n.Zw.length iv.bs Vk hrl tb.tk tb.tn;rw[Zd2,<-hE,<-hx]at co;rw[<-hE,<-hx];simp only[go_sem,Pu,Pl];refine co.use ?_;rintro _ g ⟨rfl,b⟩;have kb:=ZX d b;obtain⟨g1,NO⟩:=ZN (g.push (ab x.C.toArray 24):Hp);have e1:=NO.symm;have k1:Kp WL o h o g1:=by rw[NO];exact kb.push _
 have x6:Ya o g1 g.size (ab x.C.toArray 24):=⟨kb.Yp _ (aq _),by rw[NO];exact Zc⟩
 have A1:=A.Zn k1;have N1:=N.Zn k1;have P1:=ZP N1.ZW.2 N1.pt.store.len;have ZhY:=P1.me;rw[Hv]at ZhY;have Q3:=Za N1.ZW.2;have ZhV:=Za A1.wd.ZW.2;obtain⟨br,bw⟩:=ZhX A1.wd.ZW.2 i hi;have r6:rd g1 ⟨g.size,0,al⟩ 5=aa x.C:=Zz x6.2 rfl;have l6:=Za x6.2;have Kz:(i:Int)<5:=nT;by_cases hz:E=0
 case neg=>
  rw[if_pos (by simpa using hz)];simp only[go_sem,e1,hz];refine VS.z (g1.size) [15] (.p 0 (.p 1 (.p 2 (.p 3 (.q 4 (.p 5 (.p 6 (.p 7 (.p 8 (.q 9 (.p 10 (.p 11 (.p 12 (.p 13 (.p 14 (.w 15 .nil)))))))))))))))) mixed uj ?_;simp only[go_sem,ZhY,Q3,ZhV,Kz,br,bw];have kk:Kp (fun t=>t=.world) o g1 o (g1.setIfInBounds wb (ab (X4 (fun j=>if j=i then w.Yw i+1 else w.Yw j) Xt).toArray 96)):=(Kp.refl k1.Yp (fun t=>t=.world)).set A1.wd.ZW.1 rfl _;exact⟨o,Xt,(YQ k1).trans (YQ kk),A1.Zd0 kk (by rintro t rfl;rfl) ⟨⟨A1.wd.ZW.1,ZQ A1.wd.ZW.2⟩,A1.wd.Zb.Ze kk Hy,A1.wd.Zo.Ze kk Hy,A1.wd.ZA.Ze kk Hy⟩⟩
 rw[if_neg (by simpa using hz)];have P1l:hc g1 ⟨YM i,11,al⟩=aa a.Zw:=P1.Zw;simp only[go_sem,e1,hz];obtain⟨J,hJ⟩:=ZN (Rx n.Zw x);refine VS.mono (N:=fun F' g'=>Zj g1.size g1 g'/\F' 0=ae (aa ⟨wb,0,al⟩)/\F' 1=ae (aa ⟨YM i,0,al⟩)/\F' 6=ae (aa ⟨g.size,0,al⟩)/\F' 8=Q O J) ?_ ?_ (fun _ _ _ h=>h) (fun _ _ h=>h)
 .refine VS.z (g1.size) [5] (.p 0 (.p 1 (.p 2 (.q 3 (.q 4 (.w 5 (.p 6 .nil))))))) mixed uj ?_;simp only[go_sem,P1l,r6,Q3,l6];refine (Fy T g1 _ n.Zw x N1.pt.Zw.ts nT).use ?_;rintro _ g2 ⟨rfl,b2⟩;simp only[go_sem,b2,hJ]
 rintro F2 g2 ⟨b2,f0,f1,f6,f8⟩;have Nw:=ZX k1.Yp b2;have A2:=A1.Zn Nw;have N2:=N1.Zn Nw;have y6:=x6.Ze Nw;have K2:Kp WL o h o g2:=k1.trans Nw;have P2:=ZP N2.ZW.2 N2.pt.store.len;have rR:=P2.me;rw[Hv]at rR;have Ug:=Za N2.ZW.2;have ZhW:=Za A2.wd.ZW.2;have r62:rd g2 ⟨g.size,0,al⟩ 5=aa x.C:=Zz y6.2 rfl;have l62:=Za y6.2;clear r6 l6 Q3 ZhV br bw P1 ZhY P1l e1;by_cases hm:x∈n.Zw
 .have hJ0:0<=J:=by rw[hJ];exact (LP _ _).2 hm
  rw[if_pos hm];have call:=fun G=>mN T G n.store N2.pt.store x;have P2s:rd g2 ⟨YM i,12,al⟩ 40=aa n.store:=P2.store;obtain⟨D,hDe⟩:=ZN (Wh n.store x);obtain⟨E2,rE⟩:=ZN (UO n.store x);obtain⟨c1,WE⟩:=ZN (Wp n.store x);obtain⟨c2,Es⟩:=ZN (Ru n.store x);have hD:=N2.pt.store.do x
  rw[<-hDe]at hD;rw[<-hDe,<-rE,<-WE,<-Es]at call;rw[<-WE,<-Es];have IU:=hD.len;have fL:=hD.one;unfold Sv at call;have Hd:=Z4 (zs:=Yy) (vs:=D) (by rw[IU];rfl);unfold Yy at Hd;simp only[rep,List.cons_append,bQ]at Hd;have wA:∀(G:Hp) (k:Nat),G[k]? = aa (ab Yy.toArray 52)->wr G ⟨k,0,al⟩ D=aa (G.setIfInBounds k (ab D.toArray 52)):=fun G k hx=>by
   rw[Yd hx 0 D,Z4 (by rw[IU];rfl),if_pos ⟨by rw[IU];simp[Yy,rep],fL⟩]
  have wB:∀(G:Hp) (k:Nat),G[k]? = aa (ab [Q O 0,Q O 0].toArray 48)->wr G ⟨k,0,al⟩ [Q O c1,Q O c2]=aa (G.setIfInBounds k (ab [Q O c1,Q O c2].toArray 48)):=fun G k hx=>by
   rw[Yd hx 0 _];rfl
  have gl:∀(G:Hp) (X Y:Obj),((G.push X).push Y)[G.size]? = aa X:=fun G X Y=>by rw[ZI uK,Zc]
  have gs:∀(G:Hp) (k:Nat) (X Y:Obj),((G.setIfInBounds k X).push Y)[G.size]? = aa Y:=fun G k X Y=>by
   have:=Zc (h:=G.setIfInBounds k X) (o:=Y);rwa [Array.size_setIfInBounds]at this
  have gl':=gs;have gr:∀(G:Hp) (X Y:Obj),((G.push X).push Y)[G.size+1]? = aa Y:=fun G X Y=>by
   have:=Zc (h:=G.push X) (o:=Y);rwa [a0]at this
  simp only[go_sem,f8,hJ0];refine VS.mono (N:=fun F' g'=>Zj g2.size g2 g'/\F' 0=ae (aa ⟨wb,0,al⟩)/\F' 1=ae (aa ⟨YM i,0,al⟩)/\F' 6=ae (aa ⟨g.size,0,al⟩)/\∃B,F' 10=ae (aa ⟨B,0,al⟩)/\g2.size<=B/\g'[B]? = aa (ab [Q O c1,Q O c2].toArray 48)) ?_ ?_ (fun _ _ _ h=>h) (fun _ _ h=>h)
  .refine VS.z (g2.size) [5,12,13] (.p 0 (.p 1 (.p 2 (.q 3 (.q 4 (.or 5 (.p 6 (.p 7 (.p 8 (.p 9 (.or 10 (.s 11 (.w 12 (.w 13 (.p 14 .nil)))) (.s 11 (.s 10 (.w 12 (.w 13 (.p 14 .nil)))))))))) (.or 10 (.or 5 (.p 6 (.p 7 (.p 8 (.p 9 (.s 11 (.w 12 (.w 13 (.p 14 .nil)))))))) (.s 11 (.w 5 (.p 6 (.p 7 (.p 8 (.p 9 (.w 12 (.w 13 (.p 14 .nil)))))))))) (.s 11 (.or 5 (.p 6 (.p 7 (.p 8 (.p 9 (.s 10 (.w 12 (.w 13 (.p 14 .nil)))))))) (.s 10 (.w 5 (.p 6 (.p 7 (.p 8 (.p 9 (.w 12 (.w 13 (.p 14 .nil)))))))))))))))))) mixed uj ?_;simp only[go_sem,f0,f1,f6,P2s,Ug,l62,r62]
   repeat' (first|with_reducible exact Zj.refl _ _|with_reducible exact Zj.push nT _|with_reducible refine bS ?_ ?_)
   all_goals first
    | (refine (call g2).use ?_
       rintro _ g5 ⟨rfl,b5⟩;have s5:=b5.size;simp only[go_sem,b5,IU,fL,Hd];refine⟨⟨f0,f1,f6,_,rfl,nT,gr _ _ _⟩,⟨f0,f1,f6,_,rfl,s5,gl _ _ _⟩⟩)
    | (refine (call (g2.push (ab _ 52))).use ?_
       rintro _ g5 ⟨rfl,b5⟩;have s5:=b5.size;rw[a0]at s5;have B5:Zj g2.size g2 g5:=(Zj.push (aq _) _).trans (b5.mono uK);have xA:=b5.get (k:=g2.size) uK Zc;have PC:=wA _ _ xA;have zA:=Za xA;simp only[go_sem,B5,IU,fL,PC,zA];exact⟨f0,f1,f6,_,rfl,nT,gs _ _ _ _⟩)
    | (refine (call (g2.push (ab _ 48))).use ?_
       rintro _ g5 ⟨rfl,b5⟩;have s5:=b5.size;rw[a0]at s5;have B5:Zj g2.size g2 g5:=(Zj.push (aq _) _).trans (b5.mono uK);have xB:=b5.get (k:=g2.size) uK Zc;have FD:=wB _ _ xB;have zB:=Za xB;have gB:=ZQ (o:=ab [Q O c1,Q O c2].toArray 48) xB;simp only[go_sem,B5,IU,fL,FD,Hd,zB];exact⟨f0,f1,f6,_,rfl,aq _,by rw[ZI (by simpa using zB)];exact gB⟩)
    | (refine (call ((g2.push (ab _ 52)).push (ab _ 48))).use ?_
       rintro _ g5 ⟨rfl,b5⟩;have s5:=b5.size;rw[a0,a0]at s5;have B5:Zj g2.size g2 g5:=((Zj.push (aq _) _).YU uK _).trans (b5.mono Ig);have xA:=b5.get (k:=g2.size) Ig (gl _ _ _);have xB:=b5.get (k:=g2.size+1) uK (gr _ _ _);have PC:=wA _ _ xA;have zA:=Za xA;have KO:=(Y7 (o:=ab D.toArray 52) (show g2.size≠g2.size+1 by omega)).trans xB;have FD:=wB _ _ KO;have zB:=Za KO;simp only[go_sem,B5,IU,fL,PC,zA,FD,zB];exact⟨f0,f1,f6,_,rfl,nT,ZQ KO⟩)
    | (refine (call ((g2.push (ab _ 48)).push (ab _ 52))).use ?_
       rintro _ g5 ⟨rfl,b5⟩;have s5:=b5.size;rw[a0,a0]at s5;have B5:Zj g2.size g2 g5:=((Zj.push (aq _) _).YU uK _).trans (b5.mono Ig);have xB:=b5.get (k:=g2.size) Ig (gl _ _ _);have xA:=b5.get (k:=g2.size+1) uK (gr _ _ _);have PC:=wA _ _ xA;have zA:=Za xA;have KO:=(Y7 (o:=ab D.toArray 52) (show g2.size+1≠g2.size by omega)).trans xB;have FD:=wB _ _ KO;have zB:=Za KO;simp only[go_sem,B5,IU,fL,PC,zA,FD,zB];exact⟨f0,f1,f6,_,rfl,nT,ZQ KO⟩)
  clear f0 f1 f6 f8;rintro F5 g5 ⟨b5,f0,f1,f6,B,f10,hB,yB⟩;have D3:=ZX K2.Yp b5;have A5:=A2.Zn D3;have N5:=N2.Zn D3;have z6:=y6.Ze D3;have K5:Kp WL o h o g5:=K2.trans D3;have xB:Ya o g5 B (ab [Q O c1,Q O c2].toArray 48):=⟨K2.Yp _ hB,yB⟩
  have ZvZ:=(ZP N5.ZW.2 N5.pt.store.len).me;have Mx:=Za N5.ZW.2;have U5:=XP A5.wd.ZW.2;have jJ:=Za A5.wd.ZW.2;have rx1:hc g5 ⟨g.size,1,al⟩=aa (Q O x.c):=Zl z6.2;have rx2:hc g5 ⟨g.size,2,al⟩=aa (Q O x.s):=Zl z6.2;have rB:rd g5 ⟨B,0,al⟩ 2=aa [Q O c1,Q O c2]:=Zz yB rfl;have zx:=Za z6.2;have zB:=Za yB;refine VS.z (g5.size) [17,21] (.p 0 (.p 1 (.p 2 (.p 3 (.p 4 (.q 5 (.p 6 (.p 7 (.p 8 (.q 9 (.p 10 (.q 11 (.p 12 (.q 13 (.q 14 (.p 15 (.s 16 (.w 17 (.p 18 (.p 19 (.p 20 (.w 21 .nil)))))))))))))))))))))) mixed uj ?_;simp only[go_sem,f0,f1,f6,f10,U5.ZA,ZvZ,rx1,rx2,rB,Mx,jJ,zx,zB];have k6:=Yu K5.Yp (ab (Mu ⟨n.me,x.c,x.s,c1,c2⟩).toArray 58);have A6:=A5.Zn k6;refine IT (l:=w.ZA) (x:=⟨n.me,x.c,x.s,c1,c2⟩) A6.wd.ZA k6.Yp Zc ht ?_;intro p7 c7 o7 g7 q7 k7;have b7:=A6.wd.ZW.Ze k7 Hy;obtain⟨g8,w8,W8,k8⟩:=A6.wd.mO k7 q7 ((XP b7.2).Zfw (U p7 _ c7) rfl);have z7:=Za b7.2;simp only[go_sem,w8,z7];have A8:=A6.Zd0 (S:=fun t=>t=.ZA\/t=.world) ((k7.mono fun t q=>.inl q).trans (k8.mono fun t q=>.inr q)) (by rintro t (rfl|rfl)<;>rfl) W8;exact⟨o7,_,(((YQ K5).trans (YQ k6)).trans (YQ k7)).trans (YQ k8),A8⟩
 .have hJ0:¬0<=J:=by rw[hJ];exact fun e=>hm ((LP _ _).1 e)
  rw[if_neg hm];have ca:=zI T g2 o wb i (YM i) a n x K2.Yp N2 hq hl;unfold Zx Sv at ca;simp only[go_sem,f1,f6,f8,hJ0,r62];refine ca.use ?_;rintro v3 g3 ⟨o3,a3,k3,N3⟩;have k3a:Kp (JR i) o g2 o3 g3:=k3.mono Zai;obtain⟨aw,am⟩:=add_same n x;obtain⟨m,ur⟩:=ZN (add n x);rw[<-ur]at N3 aw am ⊢;have W3:=A2.wd.Ze k3 (by rintro t (rfl|rfl)<;>simp[Tg.of]);have z6:=y6.Ze k3;have P3:=ZP N3.ZW.2 N3.pt.store.len;have P3w:hc g3 ⟨YM i,53,al⟩=aa a3.Zi:=P3.Zi;have Mw:=Za N3.ZW.2;have r63:rd g3 ⟨g.size,0,al⟩ 5=aa x.C:=Zz z6.2 rfl;have l63:=Za z6.2;have hmw:m.Zi.length<=1000000000000:=by rw[aw];exact Gd
  have K3:Kp SW o h o3 g3:=(YQ K2).trans (YQ k3);simp only[go_sem];refine VS.mono (N:=fun F' g'=>Zj g3.size g3 g'/\F' 1=ae (aa ⟨YM i,0,al⟩)/\F' 6=ae (aa ⟨g.size,0,al⟩)/\F' 92=a6 (!decide (x∈m.Zi))) ?_ ?_ (fun _ _ _ h=>h) (fun _ _ h=>h)
  .refine VS.z (g3.size) [5] (.p 0 (.p 1 (.p 2 (.q 3 (.q 4 (.w 5 (.p 6 .nil))))))) mixed uj ?_;simp only[go_sem,f1,f6,P3w,r63,Mw,l63];refine (SQ T g3 _ m.Zi x N3.pt.Zi.ts nT).use ?_;rintro _ g4 ⟨rfl,b4⟩;simp only[go_sem,b4];exact⟨f1,f6⟩
  clear f0 f1 f6;rintro F4 g4 ⟨b4,f1,f6,f92⟩;have kb4:=ZX K3.Yp b4;have N4:=N3.Zn kb4;have W4:=W3.Zn kb4;have k4a:Kp (JR i) o g2 o3 g4:=k3a.trans (Z0 kb4);have K4:Kp SW o h o3 g4:=K3.trans (YQ kb4);by_cases Zd3:x∈m.Zi
  .have e5:TF m x=m:=by unfold TF;rw[if_pos Zd3]
   rw[e5];simp only[go_sem,f92,Zd3];exact⟨o3,_,K4,A2.Yt k4a N4 W4⟩
  .have e5:TF m x = { m with Zi:=m.Zi++[x] }:=by unfold TF;rw[if_neg Zd3]
   rw[e5];have q6:=z6.Ze kb4;have P4w:=(ZP N4.ZW.2 N4.pt.store.len).Zi;obtain⟨pw,cw,hpw,_⟩:=XC.ZO N4.pt.Zi;have hpw:a3.Zi=U pw m.Zi.length cw:=hpw;have P4w:hc g4 ⟨YM i,53,al⟩=aa (U pw m.Zi.length cw):=by rw[<-hpw];exact P4w
   have Hx:=Za N4.ZW.2;have r64:rd g4 ⟨g.size,0,al⟩ 5=aa x.C:=Zz q6.2 rfl;have l64:=Za q6.2;simp only[go_sem,f92,Zd3];refine VS.z (g4.size) [7,10] (.p 0 (.p 1 (.p 2 (.p 3 (.q 4 (.q 5 (.s 6 (.w 7 (.p 8 (.p 9 (.w 10 .nil))))))))))) mixed uj ?_;simp only[go_sem,f1,f6,P4w,r64,Hx,l64];have k5:=Yu K4.Yp (ab x.C.toArray 24);have N5:=N4.Zn k5;have W5:=W4.Zn k5;have Q5:=N5.pt.Zi;rw[hpw]at Q5;refine KM (l:=m.Zi) Q5 k5.Yp Zc hmw ?_;intro p6 c6 o6 g6 q7 k6;have b6:=N5.ZW.Ze k6 Hy;obtain⟨g7,w7,N7,k7⟩:=(N5.pt.IR k6 q7).write k6.Yp b6 ((XH b6.2 N5.pt.store.len).Zi (U p6 (m.Zi.length+1) c6) rfl);have Zac:=Za b6.2;simp only[go_sem,w7,Zac];have kk:Kp (JR i) o g2 o6 g7:=((k4a.trans (Z0 k5)).trans (k6.mono fun t q=>.inr (.inr (.inr (by rw[q];rfl))))).trans (k7.mono fun t q=>.inr (.inr (.inr (by rw[q];rfl))));exact⟨o6,_,(YQ K2).trans (YQ kk),A2.Yt kk N7 ((W5.Ze k6 (by rintro t rfl;simp[Tg.of])).Ze k7 (by rintro t rfl;simp[Tg.of]))⟩
def FH(i:Nat)(t:Tg):Prop:=t=.ZV i\/t=.Zh i
set_option maxHeartbeats 4000000 in
theorem FI(T:bn)(h:Hp)(o:Ow)(wb i:Nat)(dv:a7)(E9:List Nat)(YS:Int)(vv:a7)(T7:UH)(d:Vx o h)(iD:PT o h dv E9)(iV:TO o h vv T7.l):
  Zd bg T 47 #[Q O i,be #[dv,Q O YS],be #[Q O T7.p.r,Q O T7.p.n,vv]] h fun v' h'=>∃nb o' a',v'=Zx nb/\Zj h.size h h'/\Kp (FH i) o h o' h'/\Z5 o' h' wb i nb a' (Yl i true E9 YS T7):=by
 obtain⟨pd,cd,rfl⟩:=iD.1.ZO;obtain⟨pv,cv,rfl⟩:=iV.ZO;refine Zd.XT [_,_,_] Tryz.func47 ?_;unfold Zx;obtain⟨h1,Xm⟩:=ZN ((h.push (ab [U pd (ao E9) cd,Q O YS].toArray 99)).push (ab [Q O T7.p.r,Q O T7.p.n,U pv (ao T7.l) cv].toArray 104):Hp);have k1:Kp WL o h o h1:=by rw[Xm];exact ((Kp.refl d _).push _).push _
 have x4:Ya o h1 h.size (ab [U pd (ao E9) cd,Q O YS].toArray 99):=⟨d _ (aq _),by rw[Xm];exact rD _ _ _⟩
 have x5:Ya o h1 (h.size+1) (ab [Q O T7.p.r,Q O T7.p.n,U pv (ao T7.l) cv].toArray 104):=⟨d _ nT,by rw[Xm];exact uC _ _ _⟩
 have e0:=Xm.symm;have r4:rd h1 ⟨h.size,0,al⟩ 2=aa [U pd (ao E9) cd,Q O YS]:=Zz x4.2 rfl;have r5:rd h1 ⟨h.size+1,0,al⟩ 3=aa [Q O T7.p.r,Q O T7.p.n,U pv (ao T7.l) cv]:=Zz x5.2 rfl;simp only[go_sem,e0,r4,r5];obtain⟨A,hA⟩:∃A:NA,A=⟨U pd (ao E9) cd,U pv (ao T7.l) cv,al,h1.size,U al 0 0,U al 0 0,U al 0 0,U al 0 0,.nilFunc⟩:=⟨_,rfl⟩
 obtain⟨h2,VZ⟩:=ZN (h1.push (Jm []):Hp);obtain⟨h3,Fq⟩:=ZN (h2.push (X9 (Yl i true E9 YS T7) A):Hp);have s2:h2.size=h1.size+1:=by rw[VZ];simp
 have ee:h3=(h1.push (.map #[] 0)).push (X9 (Yl i true E9 YS T7) A):=by rw[Fq,VZ];rfl
 rw[hA]at ee;refine⟨h1.size+1,QS (QS o h1.size (.Zh i)) (h1.size+1) (.ZV i),A,rfl,?_⟩;have k2:Kp (FH i) o h1 (QS o h1.size (.Zh i)) h2:=by rw[VZ];exact ((Kp.refl k1.Yp _).push _).Oh (aq _) uK (.inr rfl)
 have k3:Kp (FH i) o h1 (QS (QS o h1.size (.Zh i)) (h1.size+1) (.ZV i)) h3:=by rw[Fq];exact (k2.push _).Oh nT (by rw[a0];omega) (.inl rfl)
 have kx:Kp (fun t=>t=.ZV i) (QS o h1.size (.Zh i)) h2 (QS (QS o h1.size (.Zh i)) (h1.size+1) (.ZV i)) h3:=by rw[Fq];exact ((Kp.refl k2.Yp _).push _).Oh nT (by rw[a0];omega) rfl
 have m2:U6 (QS o h1.size (.Zh i)) (.Zh i) h2 h1.size (VC Sv []):=⟨XR,by rw[VZ];exact Zc⟩
 have iD3:=(iD.Ze k1).Ze k3;have iV3:=(iV.Ze k1).Ze k3;have K3:Kp (FH i) o h (QS (QS o h1.size (.Zh i)) (h1.size+1) (.ZV i)) h3:=(Z0 k1).trans k3;have st:LM Yy:=LM.zL uj;show Zj h.size h ((h1.push (.map #[] 0)).push (X9 (Yl i true E9 YS T7) ⟨U pd (ao E9) cd,U pv (ao T7.l) cv,al,h1.size,U al 0 0,U al 0 0,U al 0 0,U al 0 0,.nilFunc⟩))/\Kp (FH i) o h _ ((h1.push (.map #[] 0)).push (X9 (Yl i true E9 YS T7) ⟨U pd (ao E9) cd,U pv (ao T7.l) cv,al,h1.size,U al 0 0,U al 0 0,U al 0 0,U al 0 0,.nilFunc⟩))/\Z5 _ ((h1.push (.map #[] 0)).push (X9 (Yl i true E9 YS T7) ⟨U pd (ao E9) cd,U pv (ao T7.l) cv,al,h1.size,U al 0 0,U al 0 0,U al 0 0,U al 0 0,.nilFunc⟩)) wb i (h1.size+1) A (Yl i true E9 YS T7);rw[<-ee];refine⟨by rw[Fq,VZ,Xm];exact ((((Zj.refl _ _).add _).add _).add _).add _,K3,⟨XR,by rw[Fq,<-s2];exact Zc⟩,?_⟩;rw[hA];exact⟨iD3,iV3,trivial,m2.Ze kx Hy,XC.nil _ _ _ _ _,XC.nil _ _ _ _ _,XC.nil _ _ _ _ _,⟨[],rfl,XC.nil _ _ _ _ _,fun x hx=>by cases hx⟩,rfl,st⟩
theorem dk{S:Tg->Prop}{o':Ow}{h':Hp}(k:Kp S o h o' h'){b:Nat}{t u:Tg}(hb:o' b=aa t)(ht:S t)(hu:S u):Kp S o h (QS o' b u) h':=by
 refine⟨k.size,fun c hc hn=>⟨(k.Ze c hc hn).1,?_⟩,fun c hc v hv hs=>?_,fun c hc v hv=>?_,fun c hc=>?_⟩
 .by_cases e:c=b
  .subst e;have:=(k.Ze c hc hn).2;rw[hb]at this;exact (hn t this.symm ht).elim
  .rw[XY e];exact (k.Ze c hc hn).2
 .by_cases e:c=b
  .subst e;exact⟨u,XR,hu⟩
  .rw[XY e];exact k.stay c hc v hv hs
 .by_cases e:c=b
  .subst e;rw[XR]at hv;cases hv;exact hu
  .rw[XY e]at hv;exact k.new c hc v hv
 .by_cases e:c=b
  .subst e;rw[k.Yp c hc]at hb;cases hb
  .rw[XY e];exact k.Yp c hc
def FJ(i:Nat)(t:Tg):Prop:=t=.Zg i\/t=.ZF i\/t=.XV i
theorem rZ{i nb:Nat}{a:NA}{n:Nd}(d:Vx o h)(N:Z5 o h wb i nb a n):
  ∃o',Kp (FJ i) o h o' h/\Yh o' h wb i nb { a with Zg:=al } { n with Zg:=al,Zp:=XV n.Zp }/\o' nb=aa (.ZV i):=by
 have key:∀o',Kp (FJ i) o h o' h->Vu o' h wb i nb al a.Zp (XV n.Zp)->Yh o' h wb i nb { a with Zg:=al } { n with Zg:=al,Zp:=XV n.Zp }:=fun o' k p=>
  ⟨N.pt.data.Ze k,N.pt.XO.Ze k,trivial,N.pt.Zh.Ze k (by rintro (e|e|e)<;>cases e),N.pt.Zw.Ze k (by rintro (e|e|e)<;>cases e),N.pt.Zr.Ze k (by rintro (e|e|e)<;>cases e),N.pt.Zi.Ze k (by rintro (e|e|e)<;>cases e),N.pt.Zf.Ze k (by rintro (e|e|e)<;>cases e),p,N.pt.store⟩
 have hp:=N.pt.Zp;have hR:=N.pt.Zg
 cases KP:a.Zg with
 | none=>
  rw[KP]at hp;refine⟨o,Kp.refl d _,key o (Kp.refl d _) ?_,N.ZW.1⟩
  match hn:n.Zp,hp with
  | none,hp=>exact hp
  | some (.Vy _ _ _ _),hp=>exact hp
  | some (.TC _ _ _),hp=>exact hp
  | some (.Zm _ _ false),hp=>exact hp
  | some (.Zm _ _ true),⟨b6,b4,b7,b5,w,rb,h1,h2,h3,h4,h5,h6,a',h7,_⟩=>cases h7
 | some ra=>
  rw[KP]at hp hR;obtain⟨r,hr⟩:∃r,n.Zg=aa r:=by
   cases hx:n.Zg with
   | none=>rw[hx]at hR;exact hR.elim
   | some r=>exact⟨r,rfl⟩
  rw[hr]at hR;have hR:Xx o i h ra r:=hR;have Y4:ra.rb≠ra.pb:=fun e=>by
   have h1:=hR.ZW.1;have h2:=hR.ZF.1;rw[e,h2]at h1;cases h1
  have k1:Kp (FJ i) o h (QS o ra.rb (.XV i)) h:=dk (Kp.refl d (FJ i)) hR.ZW.1 (.inl rfl) (.inr (.inr rfl));have hp1:QS o ra.rb (.XV i) ra.pb=aa (.ZF i):=by rw[XY (fun e=>Y4 e.symm)];exact hR.ZF.1
  have k2:Kp (FJ i) o h (QS (QS o ra.rb (.XV i)) ra.pb (.XV i)) h:=dk k1 hp1 (.inr (.inl rfl)) (.inr (.inr rfl));obtain⟨o2,uw⟩:=ZN (QS (QS o ra.rb (.XV i)) ra.pb (.XV i));rw[<-uw]at k2;have s1:o2 ra.rb=aa (.XV i):=by rw[uw,XY Y4];exact XR
  have s2:o2 ra.pb=aa (.XV i):=by rw[uw];exact XR
  have so:∀b,b≠ra.rb->b≠ra.pb->o2 b=o b:=fun b e1 e2=>by rw[uw,XY e2,XY e1]
  have sst:∀b,o b=aa (.XV i)->o2 b=aa (.XV i):=fun b hb=>by
   by_cases e1:b=ra.rb
   .rw[e1];exact s1
   .by_cases e2:b=ra.pb
    .rw[e2];exact s2
    .rw[so b e1 e2];exact hb
  have TU:o2 nb=aa (.ZV i):=by
   rw[so nb (fun e=>by have:=N.ZW.1;rw[e,hR.ZW.1]at this;cases this) (fun e=>by have:=N.ZW.1;rw[e,hR.ZF.1]at this;cases this)];exact N.ZW.1
  refine⟨o2,k2,key o2 k2 ?_,TU⟩
  match hn:n.Zp,hp with
  | none,hp=>exact hp
  | some (.Vy a to b vs),⟨b6,b4,b9,u,h1,h2,h3,h4,h5⟩=>exact⟨b6,b4,b9,u,h1,h2.Ze k2,h3.Ze k2,h4.Ze k2,h5.Ze k2⟩
  | some (.TC a to x),⟨b6,b4,b9,u,h1,h2,h3,h4,h5⟩=>exact⟨b6,b4,b9,u,h1,h2.Ze k2,h3.Ze k2,h4.Ze k2,h5.Ze k2⟩
  | some (.Zm a vs cur),⟨b6,b4,b7,b5,w,rb,h1,h2,h3,h4,h5,h6,h7⟩=>
   refine⟨b6,b4,b7,b5,w,rb,h1,h2.Ze k2,h3.Ze k2,h4.Ze k2,h5.Ze k2,h6.Ze k2,?_⟩;rw[if_neg uK]
   cases cur with
   | false=>
    rw[if_neg uK]at h7;obtain⟨cs,pb,pv,g1,g2,g3⟩:=h7;exact⟨cs,pb,pv,⟨sst _ g1.1,g1.2⟩,g2,sst _ g3.1,g3.2⟩
   | true=>
    rw[if_pos rfl]at h7;obtain⟨a',q1,q2⟩:=h7;obtain rfl:=Option.some.inj q1;rw[<-q2];exact⟨_,ra.pb,ra.pv,⟨s1,hR.ZW.2⟩,rfl,s2,hR.ZF.2⟩
theorem Zd4{i nb:Nat}{ra:Option RA}{v:a7}{p:Option Kf}(s:Vu o h wb i nb al v (XV p)):Vu o h wb i nb ra v (XV p):=by
 match p,s with
 | none,s=>exact s
 | some (.Vy _ _ _ _),s=>exact s
 | some (.TC _ _ _),s=>exact s
 | some (.Zm _ _ _),s=>exact s
set_option maxHeartbeats 4000000 in
theorem Zd5(T:bn)(h:Hp)(o:Ow)(wb i nb:Nat)(a:NA)(n:Nd)(d:Vx o h)(N:Z5 o h wb i nb a n)(hb:n.Zm.p.r<=1000000000000/\n.Z8.r<=1000000000000 /\ -1000000000000<=n.Zm.p.r /\ -1000000000000<=n.Z8.r)(hr:∀r,n.Zg=aa r->r.b.r<=1000000000000 /\ -1000000000000<=r.b.r):
  Zd bg T 49 #[Zx wb,Zx nb] h fun v' h'=>∃o' a',Kp (fun t=>t.of=aa i) o h o' h'/\Z5 o' h' wb i nb a' (lead n):=by
 refine Zd.HF (args:=#[_,_]) Tryz.func49 rfl rfl rfl ?_;obtain⟨M,hM⟩:=ZN (max n.Zm.p.r n.Z8.r+1);refine VS.seq (VS.mono (N:=fun F' g'=>F' 1=ae (aa ⟨nb,0,al⟩)/\Zj h.size h g'/\∃kb,h.size<=kb/\F' 4=ae (aa ⟨kb,0,al⟩)/\g'[kb]? = aa (ab [Q O M,Q O n.me].toArray 101)) ?_ ?_ (fun _ _ _ h=>h) (fun _ _ h=>h))
 .refine Qw _ _ _ _ _ _ rfl ?_;unfold Zx;have P:=ZP N.ZW.2 N.pt.store.len;have TU:=Za N.ZW.2;simp only[go_sem];refine VS.z (h.size) [19] (.p 0 (.p 1 (.p 2 (.p 3 (.p 4 (.q 5 (.p 6 (.p 7 (.p 8 (.p 9 (.q 10 (.p 11 (.p 12 (.p 13 (.p 14 (.p 15 (.q 16 (.p 17 (.s 18 (.w 19 .nil)))))))))))))))))))) mixed uj ?_;simp only[go_sem,P.ZuY,P.ZhB,P.me,TU];have em:(if n.Z8.r>n.Zm.p.r then n.Z8.r else n.Zm.p.r)+1=M:=by
   rw[hM];split<;>omega
  rw[em];exact⟨_,aq _,rfl,Zc⟩
 rintro F1 g1 ⟨f1,b1,kb,hkb,f4,y4⟩;refine VS.seq (VS.mono (N:=fun F' g'=>F' 1=ae (aa ⟨nb,0,al⟩)/\F' 4=ae (aa ⟨kb,0,al⟩)/\Zj h.size h g'/\g'[kb]? = aa (ab [Q O (Je n).r,Q O n.me].toArray 101)) ?_ ?_ (fun _ _ _ h=>h) (fun _ _ h=>h))
 .refine Qw _ _ _ _ _ _ rfl ?_;have k1:=ZX d b1;have N1:=N.Zn k1;have P1:=ZP N1.ZW.2 N1.pt.store.len;have P1r:=P1.Zg;have Q3:=Za N1.ZW.2;have l4:=Za y4;have r4:hc g1 ⟨kb,0,al⟩=aa (Q O M):=Zl y4
  cases KP:a.Zg with
  | none=>
   rw[KP]at P1r;unfold Mv at P1r;have hn:n.Zg=al:=by
    have:=N.pt.Zg;rw[KP]at this
    cases hx:n.Zg with
    | none=>rfl
    | some r=>rw[hx]at this;exact this.elim
   have e1:(Je n).r=M:=by unfold Je;rw[hn,hM]
   rw[e1];simp only[go_sem,f1,P1r];exact⟨f4,b1,y4⟩
  | some ra=>
   rw[KP]at P1r;unfold Mv Zx at P1r;obtain⟨r,hn⟩:∃r,n.Zg=aa r:=by
    have:=N.pt.Zg;rw[KP]at this
    cases hx:n.Zg with
    | none=>rw[hx]at this;exact this.elim
    | some r=>exact⟨r,rfl⟩
   have R1:Xx o i g1 ra r:=by have:=N1.pt.Zg;rw[KP,hn]at this;exact this
   have fM:=Za R1.ZW.2;have rr0:hc g1 ⟨ra.rb,0,al⟩=aa (Q O r.b.r):=Zl R1.ZW.2;have e1:(Je n).r=max M (r.b.r+1):=by unfold Je;rw[hn,hM]
   obtain⟨HU,hr2⟩:=hr r hn;obtain⟨Z,hZ⟩:=ZN ((Je n).r);have hz:(if r.b.r+1>M then r.b.r+1 else M)=Z:=by
    rw[hZ,e1];split<;>omega
   rw[<-hZ];have w4:QQ g1 ⟨kb,0,al⟩ (Q O Z)=aa (g1.setIfInBounds kb (ab [Q O Z,Q O n.me].toArray 101)):=by rw[Xh y4 0 _];rfl
   simp only[go_sem,f1,P1r];refine VS.z (g1.size) [10] (.p 0 (.q 1 (.p 2 (.p 3 (.p 4 (.p 5 (.q 6 (.p 7 (.p 8 (.p 9 (.w 10 .nil))))))))))) mixed uj ?_;simp only[go_sem,f1,f4,P1r,r4,rr0,fM,l4,hz,w4];exact⟨b1.Zs hkb _,ZQ y4⟩
 clear f1 f4 y4 b1;rintro F3 g3 ⟨f1,f4,b3,y4⟩;refine Qw _ _ _ _ _ _ rfl ?_;have k3:=ZX d b3;have N3:=N.Zn k3;have P3:=ZP N3.ZW.2 N3.pt.store.len;have P3u:=P3.up;have Mw:=Za N3.ZW.2;have l4:=Za y4;have r4a:hc g3 ⟨kb,0,al⟩=aa (Q O (Je n).r):=Zl y4
 cases hu:n.up with
 | false=>
  rw[hu]at P3u;have e1:lead n=n:=by unfold lead;rw[if_pos (.inl hu)]
  rw[e1];simp only[go_sem,f1,P3u];exact⟨o,a,Z0 k3,N3⟩
 | true=>
 rw[hu]at P3u;by_cases c:65536<(Je n).r
 .have e1:lead n=n:=by unfold lead;rw[if_pos (.inr c)]
  rw[e1];have c':(Je n).r>65536:=c;simp only[go_sem,f1,f4,P3u,r4a,c,c'];exact⟨o,a,Z0 k3,N3⟩
 have e1:lead n = { n with Zg:=aa ⟨Je n,[],false,[],[]⟩,Zp:=XV n.Zp }:=by
  unfold lead;rw[if_neg];rintro (e|e)
  .rw[hu]at e;cases e
  .exact c e
 rw[e1];have c':¬(Je n).r>65536:=c;have r4:rd g3 ⟨kb,0,al⟩ 2=aa [Q O (Je n).r,Q O n.me]:=Zz y4 rfl;obtain⟨o2,k2,pt2,Ug⟩:=rZ k3.Yp N3;obtain⟨ra,KP⟩:∃ra:RA,ra=⟨g3.size+3,g3.size,g3.size+1,g3.size+2,[],[]⟩:=⟨_,rfl⟩
 obtain⟨r,hr0⟩:∃r:Xw,r=⟨Je n,[],false,[],[]⟩:=⟨_,rfl⟩
 obtain⟨p1,hp1⟩:=ZN (g3.push (Jm []):Hp);obtain⟨p2,pH⟩:=ZN (p1.push (Jm []):Hp);obtain⟨p3,hp3⟩:=ZN (p2.push (Jm []):Hp);obtain⟨p4,hp4⟩:=ZN (p3.push (ab (jx r ra).toArray 155):Hp);have s1:p1.size=g3.size+1:=by rw[hp1];simp
 have s2:p2.size=g3.size+2:=by rw[pH,a0,s1]
 have s3:p3.size=g3.size+3:=by rw[hp3,a0,s2]
 have s4:p4.size=g3.size+4:=by rw[hp4,a0,s3]
 have q1:p4[g3.size]? = aa (Jm []):=by rw[hp4,ZI nT,hp3,ZI nT,pH,ZI nT,hp1];exact Zc
 have q2:p4[g3.size+1]? = aa (Jm []):=by rw[hp4,ZI nT,hp3,ZI nT,pH,<-s1];exact Zc
 have q3:p4[g3.size+2]? = aa (Jm []):=by rw[hp4,ZI nT,hp3,<-s2];exact Zc
 have q4:p4[g3.size+3]? = aa (ab (jx r ra).toArray 155):=by rw[hp4,<-s3];exact Zc
 have kp:Kp (JV i) o2 g3 o2 p4:=by rw[hp4,hp3,pH,hp1];exact ((((Kp.refl k2.Yp _).push _).push _).push _).push _
 have ka:=kp.Oh (b:=g3.size) (t:=.ZF i) (aq _) nT (.inr (.inl rfl));have kb':=ka.Oh (b:=g3.size+1) (t:=.ZT i) nT nT (.inr (.inr (.inl rfl)));have kc:=kb'.Oh (b:=g3.size+2) (t:=.YZ i) nT nT (.inr (.inr (.inr (.inl rfl))));have k5:=kc.Oh (b:=g3.size+3) (t:=.Zg i) nT nT (.inl rfl);obtain⟨o5,ho5⟩:=ZN (QS (QS (QS (QS o2 g3.size (.ZF i)) (g3.size+1) (.ZT i)) (g3.size+2) (.YZ i)) (g3.size+3) (.Zg i));rw[<-ho5]at k5;clear ka kb' kc kp;have t1:o5 g3.size=aa (.ZF i):=by rw[ho5,XY nT,XY nT,XY nT];exact XR
 have t2:o5 (g3.size+1)=aa (.ZT i):=by rw[ho5,XY nT,XY nT];exact XR
 have t3:o5 (g3.size+2)=aa (.YZ i):=by rw[ho5,XY nT];exact XR
 have t4:o5 (g3.size+3)=aa (.Zg i):=by rw[ho5];exact XR
 have R5:Xx o5 i p4 ra r:=by
  rw[KP,hr0];rw[KP,hr0]at q4;exact⟨⟨t4,q4⟩,⟨t1,q1⟩,.nil,⟨t2,q2⟩,⟨t3,q3⟩,.nil,uK⟩
 have en:∀t:Tg,(t=.Zh i\/t=.Zw i\/t=.Zr i\/t=.Zi i\/t=.Zf i\/t=.XV i\/t=.ZV i)->¬JV i t:=by
  intro t ht hr;rcases ht with rfl|rfl|rfl|rfl|rfl|rfl|rfl<;>rcases hr with e|e|e|e|⟨s,e⟩<;>cases e
 have pn:Vu o5 p4 wb i nb (aa ra) a.Zp (XV n.Zp):=Zd4 (pt2.Zp.Ze k5 (en _ uK));have pt5:Yh o5 p4 wb i nb { a with Zg:=aa ra } { n with Zg:=aa r,Zp:=XV n.Zp }:=
  ⟨pt2.data.Ze k5,pt2.XO.Ze k5,R5,pt2.Zh.Ze k5 (en _ uK),pt2.Zw.Ze k5 (en _ uK),pt2.Zr.Ze k5 (en _ uK),pt2.Zi.Ze k5 (en _ uK),pt2.Zf.Ze k5 (en _ uK),pn,pt2.store⟩
 have B5:WJ o5 (.ZV i) p4 nb (X9 n a):=WJ.Ze (o:=o2) ⟨Ug,N3.ZW.2⟩ k5 (en _ uK);obtain⟨g6,w6,N6,k6⟩:=Yh.write pt5 k5.Yp B5 ((XH B5.2 N.pt.store.len).Zg (aa ra));have Mx:=Za B5.2;have ee:p4=(((g3.push (.map #[] 0)).push (.map #[] 0)).push (.map #[] 0)).push (ab #[Q O (Je n).r,Q O n.me,.map (aa g3.size),a6 false,.map (aa (g3.size+1)),.map (aa (g3.size+2))] 155):=by
  rw[hp4,hp3,pH,hp1,KP,hr0];rfl
 have w6':QQ p4 ⟨nb,9,al⟩ (ae (aa ⟨g3.size+3,0,al⟩))=aa g6:=by rw[<-w6,KP];rfl
 have ee':=ee.symm;rw[hr0]at N6;simp only[go_sem,f1,f4,P3u,r4a,c,c',r4,ee',w6',Mx];refine⟨o5,_,((Z0 k3).trans (k2.mono fun t q=>?_)).trans ((k5.mono fun t q=>KL q).trans (k6.mono fun t q=>by rw[q];rfl)),N6⟩;rcases q with rfl|rfl|rfl<;>rfl
theorem Zh1{l:List Nat}{a r:UH}{k j:Nat}(h:Rec l a k r j):∀f,(ao l)+1<=k+f->Fv l f a k=(r,j):=by
 induction h with
 | stop e=>
  intro f hf
  cases f with
  | zero=>rfl
  | succ f=>unfold Fv;rw[e]
 | @go a a' r k k' j e _ ih=>
  intro f hf;have e':=e;unfold Y2 at e';split at e'
  .rename_i q;rw[Option.map_eq_some_iff]at e';obtain⟨x,_,hx⟩:=e';have hk:k'=k+(Vs l k+4):=(congrArg Prod.snd hx).symm
   cases f with
   | zero=>omega
   | succ f=>
    unfold Fv;rw[e];exact ih f nT
  .cases e'
theorem Nj{l:List Nat}{r:UH}{k:Nat}(h:Rec l JJ 0 r k):TE l=(r,k):=Zh1 h _ nT
theorem D9{YM:Nat->Nat}{Xt:WA}{fl:List YF}{Yw:Nat->Int}{ZA:List PS}(d:Vx o h)(W:ZY o h wb YM Xt fl Yw ZA)(i nb:Nat)(hi:i<5):
  ∃b off c g,Xt.Zb=U (aa ⟨b,off,al⟩) 5 c/\QQ h ⟨b,off+i,al⟩ (Zx nb)=aa g/\Kp (fun t=>t=.Zb) o h o g/\ZY o g wb (fun j=>if j=i then nb else YM j) Xt fl Yw ZA:=by
 rcases hw:W.Zb with⟨_,e,_⟩|⟨b,off,cap,pre,ZG,g1,g2,g3,g4,g5,g6,g7⟩
 .cases e
 have hw':QQ h ⟨b,off+i,al⟩ (Zx nb)=aa (h.setIfInBounds b (ab (pre++([Zx (YM 0),Zx (YM 1),Zx (YM 2),Zx (YM 3),Zx (YM 4)].set i (Zx nb)++ZG)).toArray 97)):=by
  rw[Xh g3,if_pos ⟨by simp only[aU,bG];omega,rfl⟩];rw[<-g4,List.set_append_right _ _ nT,bh,List.set_append_left _ _ (by simpa using hi)]
 have kk:Kp (fun t=>t=.Zb) o h o (h.setIfInBounds b (ab (pre++([Zx (YM 0),Zx (YM 1),Zx (YM 2),Zx (YM 3),Zx (YM 4)].set i (Zx nb)++ZG)).toArray 97)):=(Kp.refl d (fun t=>t=.Zb)).set g1 rfl _;refine⟨b,off,cap,_,g2,hw',kk,W.ZW.Ze kk Hy,?_,W.Zo.Ze kk Hy,W.ZA.Ze kk Hy⟩;refine .inr ⟨b,off,cap,pre,ZG,g1,g2,?_,g4,rfl,g6,g7⟩;rw[ZQ g3]
 match i,hi with
 | 0,_=>rfl
 | 1,_=>rfl
 | 2,_=>rfl
 | 3,_=>rfl
 | 4,_=>rfl
def FK(k n a b:Int)(d:a7):List a7:=[Q O k,Q O n,Q O a,Q O b,d]
structure WOk(w:Wd):Prop where
 me:∀i,i<5->(w.Zb i).me=i
 step:∀i,i<5->jH (w.Zb i) w.Zo.length w.ZA.length
 Zr:∀i,i<5->(w.Zb i).Zr.length<=100000000000
 Zw:∀i,i<5->(w.Zb i).Zw.length<=100000000000
 Zi:∀i,i<5->(w.Zb i).Zi.length<=100000000000
 Zf:∀i,i<5->(w.Zb i).Zf.length<=100000000000
 data:∀i,i<5->(w.Zb i).data.length<=1000000
 ZA:w.ZA.length<=100000000000
 Yw:∀i,i<5->0<=w.Yw i/\w.Yw i<=1000000000000
 Zv1:∀i,i<5->(w.Zb i).Zm.p.r<=1000000000000/\(w.Zb i).Z8.r<=1000000000000 /\ -1000000000000<=(w.Zb i).Zm.p.r /\ -1000000000000<=(w.Zb i).Z8.r
 VN:∀i,i<5->∀r,(w.Zb i).Zg=aa r->r.b.r<=1000000000000 /\ -1000000000000<=r.b.r
 to:∀l∈w.Zo,0<=l.to/\l.to<5
 room:w.Zo.length<=100000000000
theorem QD.fresh{o':Ow}{h':Hp}{YM:Nat->Nat}{Xt:WA}{w:Wd}{i nb:Nat}{a:NA}{n:Nd}(A:QD o h wb YM Xt w)(k:Kp (fun t=>t=.Zb\/t.of=aa i) o h o' h')(N:Z5 o' h' wb i nb a n)(W:ZY o' h' wb (fun j=>if j=i then nb else YM j) Xt w.Zo w.Yw w.ZA):QD o' h' wb (fun j=>if j=i then nb else YM j) Xt (w.set i n):=by
 refine⟨W,fun j hj=>?_⟩;by_cases e:j=i
 .subst e;refine⟨a,?_⟩;unfold Wd.set
  simpa using N
 .obtain⟨b,M⟩:=A.nd j hj;refine⟨b,?_⟩;unfold Wd.set;simp only[if_neg e];refine M.Ze k fun t q hq=>?_;rcases q with rfl|q
  .cases hq
  .rw[hq]at q;exact e (Option.some.inj q)
theorem dm(w:Wd)(i:Nat):w.set i (w.Zb i)=w:=by
 unfold Wd.set;have:(fun j=>if j=i then w.Zb i else w.Zb j)=w.Zb:=by
  funext j;split
  .next e=>rw[e]
  .rfl
 rw[this]
theorem FL{h':Hp}{p:Option Addr}{c:Nat}{L:List Nat}(d:Vx o h')(hb:Bs h' (U p (ao L) c) L)(hc:(ao L)<=c)(hf:∀b,Yf (U p (ao L) c)=aa b->o b=al/\b<h'.size):PT o h' (U p (ao L) c) L:=
 ⟨⟨hb.sl,⟨p,c,rfl,hc⟩,fun b q=>⟨(hf b q).2,(hf b q).1⟩⟩,hb.byte⟩
theorem dn{v:a7}{l:List Nat}{k:Nat}(d:Vx o h)(s:PT o h v l)(hk:k<h.size)(hv:∀b,Yf v=aa b->b≠k)(x:Obj):PT o (h.setIfInBounds k x) v l:=by
 have d2:Vx (QS o k Tg.Zb) h:=fun b hb=>by rw[XY nT];exact d b hb
 have s2:PT (QS o k Tg.Zb) h v l:=⟨⟨s.1.sl,s.1.fits,fun b hb=>⟨(s.1.free b hb).1,by rw[XY (hv b hb)];exact (s.1.free b hb).2⟩⟩,s.2⟩
 have k2:Kp (fun t=>t=Tg.Zb) (QS o k Tg.Zb) h (QS o k Tg.Zb) (h.setIfInBounds k x):=(Kp.refl d2 (fun t=>t=Tg.Zb)).set XR rfl x;have s3:=s2.Ze k2;exact⟨⟨s3.1.sl,s3.1.fits,fun b hb=>⟨(s3.1.free b hb).1,(s.1.free b hb).2⟩⟩,s3.2⟩
theorem jK(i:Nat)(n:Nd)(k:Int)(L:List Nat)(Z E:Int)(hu:n.up=true)(h:Ot n.data n.YS k=(L,Z,E)):XF i n k = { Yl i true L Z JJ with up:=false }:=by
 unfold XF;rw[if_pos hu];unfold Ot at h;by_cases c:YX n.data n.YS
 .rw[if_pos (show (ao n.data)<=100000/\0<=n.YS/\n.YS<=(ao n.data) from c)]at h;by_cases q:k<0
  .rw[if_pos q]at h
   cases h
   rw[if_neg (fun e=>by have:=e.2;omega)];rfl
  .rw[if_neg q]at h
   cases h
   rw[if_pos ⟨c,nT⟩];rfl
 .rw[if_neg (show ¬((ao n.data)<=100000/\0<=n.YS/\n.YS<=(ao n.data)) from c)]at h
  cases h
  rw[if_neg (fun e=>c e.1)];rfl
theorem jL(w:Wd)(l:YF)(i:Nat):((Q0 w l).Zb i).Zf.length<=(w.Zb i).Zf.length+1:=by
 unfold Q0;split
 .unfold Wd.set;simp only;split
  .next e=>subst e;simp
  .omega
 .omega
theorem dq(i:Nat):∀(ls:List YF) (w:Wd),((ls.foldl Q0 w).Zb i).Zf.length<=(w.Zb i).Zf.length+(ao ls):=by
 intro ls
 induction ls with
 | nil=>intro w;simp
 | cons l ls ih=>
  intro w;have h1:=ih (Q0 w l);have h2:=jL w l i;simp only[List.foldl_cons,bG];omega
