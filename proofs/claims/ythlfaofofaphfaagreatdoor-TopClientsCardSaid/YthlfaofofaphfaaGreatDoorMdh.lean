/- Part Mdh. -/
import Derived.Test.YthlfaofofaphfaaGreatDoorMoy
open Go.Value renaming int→Q,slice→U,pointer→au,bool→a8,agg→bg
open Go.IntKind renaming i64→O
open Go.Obj renaming cells→al
open Go.Proofs.Tryz renaming prog→bk
open List renaming length→aU,length_append→a5,append_nil→a7,append_assoc→ba,length_map→bc,range→bd,eraseIdx_eq_take_drop_succ→bh,getElem?_eq_getElem→bz,getElem_map→bA,getElem_mem→bG,length_cons→bR,map_append→bS,nil_append→bT,map→b0
open Nat renaming le_refl→a0,add_sub_cancel_left→bl
open Option renaming isSome_none→be,isSome_some→bf,getD_none→bn,getD_some→bo,map_none→bB,map_some→bC,some→aa,none→aI
open Array renaming size_push→a6
open And renaming intro→b8
open Go renaming Value→a9,World→bp
namespace Go.Proofs.YthlfaofofaphfaaGreatDoor
open Go Go.V
set_option linter.unusedSimpArgs false
set_option linter.unusedVariables false
set_option maxRecDepth 100000
variable{h:Hp}{o:Ow}{wb:Nat}
theorem UK{α:Type}(f:Nat->List α)(m:Nat):(bd (m+1)).flatMap f=(bd m).flatMap f++f m:=by
 rw[List.range_succ,List.flatMap_append];simp
theorem Tv{α:Type}(f:Nat->List α)(k m:Nat)(h:∀i,(f i).length<=k):((bd m).flatMap f).length<=m*k:=by
 induction m with
 | zero=>simp
 | succ m ih=>rw[UK,a5,Nat.add_mul];have:=h m;omega
theorem qM{n n':Nd}(hk:n.Zi=n'.Zi)(r:Xw)(x:Cm):∀k s,Qe n r x k s=Qe n' r x k s:=by
 intro k
 induction k with
 | zero=>intro s;rfl
 | succ k ih=>intro s;unfold Qe;rw[hk,ih]
theorem Bx{n n':Nd}(hk:n.Zi=n'.Zi)(hl:n.ZB=n'.ZB)(r:Xw)(x:Cm):free n r x=free n' r x:=by
 unfold free;rw[hl,qM hk]
theorem zq{n n':Nd}(hk:n.Zi=n'.Zi)(hl:n.ZB=n'.ZB)(r:Xw)(x:Cm):J4 n r x=J4 n' r x:=by
 unfold J4;rw[Bx hk hl]
theorem i9{n n':Nd}(hk:n.Zi=n'.Zi)(hl:n.ZB=n'.ZB):∀(l:List Cm) (r:Xw),Jd n r l=Jd n' r l:=by
 intro l
 induction l with
 | nil=>intro r;rfl
 | cons x l ih=>intro r;show Jd n (J4 n r x) l=Jd n' (J4 n' r x) l;rw[zq hk hl,ih]
theorem qN{n n':Nd}(hk:n.Zi=n'.Zi)(LL:List (List Vt)):JV n LL=JV n' LL:=by
 funext pr s;unfold JV;rw[hk]
theorem qO{n n':Nd}(hk:n.Zi=n'.Zi)(hl:n.ZB=n'.ZB)(r:Xw):Wa n r=Wa n' r:=by
 unfold Wa;rw[hl,qN hk]
theorem Zdf{n n':Nd}(hk:n.Zi=n'.Zi)(hm:n.me=n'.me)(r:Xw):Vx n r=Vx n' r:=by
 funext s;unfold Vx Pk;rw[hk,hm]
theorem zr{n n':Nd}(hk:n.Zi=n'.Zi)(hm:n.me=n'.me)(r:Xw):Tt n r=Tt n' r:=by
 unfold Tt;rw[Zdf hk hm]
set_option maxHeartbeats 4000000 in
theorem Zdg(T:bp)(h:Hp)(o:Ow)(wb i nb:Nat)(YL:Nat->Nat)(a:NA)(n:Nd)(ra:RA)(r:Xw)(Xq:WA)(fl:List YF)(Yv:Nat->Int)(ZE:List Ps)(d:Vp o h)(N:Z5 o h wb i nb { a with Zh:=aa ra } { n with Zh:=aa r })(W:ZZ o h wb YL Xq fl Yv ZE)(tb:eG o h)(Y7:(aU fl)<=900000000000)(yD:n.Zq.l.length<=1000000)(tT:(aU n.data)<=1000000)(hp:∀x∈r.ZI,x.2.length<=1000000)(hs:∀x∈r.ZI,∀v∈x.2,v.Zu<=1000000)(Mp:r.ZI.length<=1000000000000)(hl:n.ZB.length<=1000000000000)(hq:n.Zx.length<=1000000000000):
  Zd bk T 93 #[Zz wb,Zz nb,Zz ra.rb] h fun v' h'=>∃o' a' Jv,Kp (JO i) o h o' h'/\Z5 o' h' wb i nb a' (JM { n with Zh:=aa r } r).n/\ZZ o' h' wb YL Jv (fl++(JM { n with Zh:=aa r } r).ls) Yv ZE:=by
 refine Zd.XS [_,_,_] Tryz.func93 ?_;obtain⟨h1,Xk⟩:=ZQ ((h.push (al [Zz nb].toArray 98)).push (al [Zz ra.rb].toArray 106):Hp);have k1:Kp Wy o h o h1:=by rw[Xk];exact ((Kp.refl d _).push _).push _
 have x4:Yb o h1 h.size (al [Zz nb].toArray 98):=⟨d _ (a0 _),by rw[Xk];exact qE _ _ _⟩
 have x5:Yb o h1 (h.size+1) (al [Zz ra.rb].toArray 106):=⟨d _ nc,by rw[Xk];exact tZ _ _ _⟩
 have e0:=Xk.symm;unfold Zz at e0 ⊢;have N1:=N.Zo k1;have W1:=W.Zo k1;have R1:Xt o i h1 ra r:=N1.pt.Zh;obtain⟨q0,q2,q3,q4,q5⟩:=R1.rr;have P1:=ZR N1.ZX.2 N1.pt.store.len;have l4:=Za x4.2;have l5:=Za x5.2;have eI:=Za R1.ZX.2;have Q8:=Za N1.ZX.2;have r4:hc h1 ⟨h.size,0,aI⟩=aa (Zz nb):=Zn x4.2;have r5:hc h1 ⟨h.size+1,0,aI⟩=aa (Zz ra.rb):=Zn x5.2;unfold Zz at r4 r5;have P1p:rd h1 ⟨nb,4,aI⟩ 2=aa (Qz n.Zq.p):=P1.bK;simp -implicitDefEqProofs only[go_sem,e0];refine VS.mono (N:=fun F' g'=>Zk h1.size h1 g'/\F' 0=au (aa ⟨wb,0,aI⟩)/\F' 4=au (aa ⟨h.size,0,aI⟩)/\F' 5=au (aa ⟨h.size+1,0,aI⟩)/\F' 35=a8 (decide (ZL n.Zq.p r.b))) ?_ ?_ (fun _ _ _ h=>h) (fun _ _ h=>h)
 .refine VS.z (h1.size) [9] (.q 0 (.p 1 (.p 2 (.q 3 (.q 4 (.p 5 (.p 6 (.p 7 (.q 8 (.w 9 .nil)))))))))) mixed uf ?_;simp -implicitDefEqProofs only[go_sem,r4,r5,q0,P1p,l4,l5,eI,Q8];refine (Lx T h1 r.b n.Zq.p).use ?_;rintro _ g ⟨rfl,b⟩;simp -implicitDefEqProofs only[go_sem,b]
 rintro F1 g1 ⟨b1,f0,f4,f5,f35⟩;have kb:=ZY k1.Yn b1
 replace N1:=N1.Zo kb
 replace W1:=W1.Zo kb
 replace k1:=k1.trans kb
 replace x4:=x4.Zf kb
 replace x5:=x5.Zf kb
 have tb1:=tb.Zf k1;clear R1 q0 q2 q3 q4 q5 P1 P1p l4 l5 eI Q8 r4 r5 e0;have R1:Xt o i g1 ra r:=N1.pt.Zh;obtain⟨q0,q2,q3,q4,q5⟩:=R1.rr;have P1:=ZR N1.ZX.2 N1.pt.store.len;have l4:=Za x4.2;have l5:=Za x5.2;have eI:=Za R1.ZX.2;have Q8:=Za N1.ZX.2;have r4:hc g1 ⟨h.size,0,aI⟩=aa (Zz nb):=Zn x4.2;have r5:hc g1 ⟨h.size+1,0,aI⟩=aa (Zz ra.rb):=Zn x5.2;unfold Zz at r4 r5;by_cases c1:ZL n.Zq.p r.b
 .have zu:=P1.Zq;obtain⟨pv,cv,t9⟩:=N1.pt.XO.ZP;have t9:a.XO=U pv n.Zq.l.length cv:=t9;have zu:rd g1 ⟨nb,4,aI⟩ 3=aa [Q O n.Zq.p.r,Q O n.Zq.p.n,U pv n.Zq.l.length cv]:=by rw[<-t9];exact zu
  have N1v:TD o g1 (U pv n.Zq.l.length cv) n.Zq.l:=by rw[<-t9];exact N1.pt.XO
  unfold Qz at q0;have call:∀G,Zk g1.size g1 G->Zd bk T 95 #[bg #[Q O n.Zq.p.r,Q O n.Zq.p.n,U pv n.Zq.l.length cv],bg #[Q O r.b.r,Q O r.b.n]] G fun v' h'=>ar G.size h' v' n.Zq.p n.Zq.l r.b/\Zk G.size G h':=fun G hG=>
   RF T G n.Zq.p _ n.Zq.l r.b (N1v.ts.Yy hG) nc
  obtain⟨E,hE⟩:=ZQ (YG n.Zq.p n.Zq.l r.b);have wA:∀(G:Hp) (k:Nat) (r m:Int) (p:Option Addr) (L c:Nat),G[k]? = aa (al [Q O 0,Q O 0,U aI 0 0].toArray 105)->wr G ⟨k,0,aI⟩ [Q O r,Q O m,U p L c]=aa (G.setIfInBounds k (al [Q O r,Q O m,U p L c].toArray 105)):=fun G k r m p L c hx=>by
   rw[Ye hx 0 _];rfl
  have wB:∀(G:Hp) (k:Nat) (p:Option Addr) (L c:Nat),G[k]? = aa (al [U aI 0 0].toArray 103)->QP G ⟨k,0,aI⟩ (U p L c)=aa (G.setIfInBounds k (al [U p L c].toArray 103)):=fun G k p L c hx=>by
   rw[Xe hx 0 _];rfl
  simp -implicitDefEqProofs only[go_sem,f35,c1];refine VS.mono (N:=fun F' g'=>Zk g1.size g1 g'/\F' 4=au (aa ⟨h.size,0,aI⟩)/\F' 5=au (aa ⟨h.size+1,0,aI⟩)/\mo g1.size g' (F' 6) (F' 7) n.Zq.p n.Zq.l r.b) ?_ ?_ (fun _ _ _ h=>h) (fun _ _ h=>h)
  .refine VS.z (g1.size) [8,15,16] (.q 0 (.p 1 (.p 2 (.q 3 (.q 4 (.p 5 (.p 6 (.q 7 (.or 8 (.p 9 (.p 10 (.p 11 (.p 12 (.or 13 (.s 14 (.w 15 (.w 16 (.p 17 .nil)))) (.s 14 (.s 13 (.w 15 (.w 16 (.p 17 .nil)))))))))) (.or 13 (.or 8 (.p 9 (.p 10 (.p 11 (.p 12 (.s 14 (.w 15 (.w 16 (.p 17 .nil)))))))) (.s 14 (.w 8 (.p 9 (.p 10 (.p 11 (.p 12 (.w 15 (.w 16 (.p 17 .nil)))))))))) (.s 14 (.or 8 (.p 9 (.p 10 (.p 11 (.p 12 (.s 13 (.w 15 (.w 16 (.p 17 .nil)))))))) (.s 13 (.w 8 (.p 9 (.p 10 (.p 11 (.p 12 (.w 15 (.w 16 (.p 17 .nil))))))))))))))))))))) mixed uf ?_;simp -implicitDefEqProofs only[go_sem,f4,f5,r4,r5,zu,q0,Q8,eI,l4,l5];unfold mo Zz Xu
   repeat' (first|with_reducible exact Zk.refl _ _|with_reducible exact Zk.push nc _|with_reducible refine b8 ?_ ?_)
   all_goals first
    | (refine (call g1 (Zk.refl _ _)).use ?_
       rintro _ g5 ⟨⟨w1,w2,rfl,o1,o2⟩,b5⟩;obtain⟨p1,c1,rfl,_⟩:=o1.open;obtain⟨p2,c2,rfl,_⟩:=o2.open;rw[<-hE]at *;have s5:=b5.size;unfold Xu;simp -implicitDefEqProofs only[go_sem,b5];refine⟨⟨f4,f5,_,_,_,_,rfl,rfl,s5,nc,qE _ _ _,tZ _ _ _,(o1.push _).push _,(o2.push _).push _⟩,⟨f4,f5,_,_,_,_,rfl,rfl,nc,s5,tZ _ _ _,qE _ _ _,(o1.push _).push _,(o2.push _).push _⟩⟩)
    | (refine (call (g1.push (al _ 105)) (Zk.push (a0 _) _)).use ?_
       rintro _ g5 ⟨⟨w1,w2,rfl,o1,o2⟩,b5⟩;obtain⟨p1,c1,rfl,_⟩:=o1.open;obtain⟨p2,c2,rfl,_⟩:=o2.open;rw[<-hE]at *;have s5:=b5.size;rw[a6]at s5;have B5:Zk g1.size g1 g5:=(Zk.push (a0 _) _).trans (b5.mono Hg);have xA:=b5.get (k:=g1.size) Hg Zc;have Pc:=wA _ _ (if E=0 then r.b else ⟨0,0⟩).r (if E=0 then r.b else ⟨0,0⟩).n p1 (if E=0 then n.Zq.l else []).length c1 xA;have zA:=Za xA;unfold Xu;simp -implicitDefEqProofs only[go_sem,B5,Pc,zA];exact⟨f4,f5,_,_,_,_,rfl,rfl,a0 _,nc,by rw[ZJ (by simpa using zA)];exact ZS xA,gs2 _ _ _ _,((o1.Ya Hg _).push _).mono Hg,((o2.Ya Hg _).push _).mono Hg⟩)
    | (refine (call (g1.push (al _ 103)) (Zk.push (a0 _) _)).use ?_
       rintro _ g5 ⟨⟨w1,w2,rfl,o1,o2⟩,b5⟩;obtain⟨p1,c1,rfl,_⟩:=o1.open;obtain⟨p2,c2,rfl,_⟩:=o2.open;rw[<-hE]at *;have s5:=b5.size;rw[a6]at s5;have B5:Zk g1.size g1 g5:=(Zk.push (a0 _) _).trans (b5.mono Hg);have xB:=b5.get (k:=g1.size) Hg Zc;have Fp:=wB _ _ p2 (if E=0 then n.Zq.l else []).length c2 xB;have zB:=Za xB;unfold Xu;simp -implicitDefEqProofs only[go_sem,B5,Fp,zB];exact⟨f4,f5,_,_,_,_,rfl,rfl,nc,a0 _,gs2 _ _ _ _,by rw[ZJ (by simpa using zB)];exact ZS xB,((o1.Ya Hg _).push _).mono Hg,((o2.Ya Hg _).push _).mono Hg⟩)
    | (refine (call ((g1.push (al _ 105)).push (al _ 103)) ((Zk.push (a0 _) _).YU Hg _)).use ?_
       rintro _ g5 ⟨⟨w1,w2,rfl,o1,o2⟩,b5⟩;obtain⟨p1,c1,rfl,_⟩:=o1.open;obtain⟨p2,c2,rfl,_⟩:=o2.open;rw[<-hE]at *;have s5:=b5.size;rw[a6,a6]at s5;have B5:Zk g1.size g1 g5:=((Zk.push (a0 _) _).YU Hg _).trans (b5.mono KQ);have xA:=b5.get (k:=g1.size) KQ (qE _ _ _);have xB:=b5.get (k:=g1.size+1) Hg (tZ _ _ _);have Pc:=wA _ _ (if E=0 then r.b else ⟨0,0⟩).r (if E=0 then r.b else ⟨0,0⟩).n p1 (if E=0 then n.Zq.l else []).length c1 xA;have zA:=Za xA;have Kw:=fun o:Obj=>(Xa (o:=o) (show g1.size≠g1.size+1 by omega)).trans xB;have Fp:=fun o:Obj=>wB _ _ p2 (if E=0 then n.Zq.l else []).length c2 (Kw o);have zB:g1.size+1<g5.size:=Za xB;unfold Xu;simp -implicitDefEqProofs only[go_sem,B5,Pc,zA,Fp,zB];exact⟨f4,f5,_,_,_,_,rfl,rfl,nc,nc,(Xa nc).trans (ZS xA),ZS (Kw _),((o1.Ya KQ _).Ya Hg _).mono KQ,((o2.Ya KQ _).Ya Hg _).mono KQ⟩)
    | (refine (call ((g1.push (al _ 103)).push (al _ 105)) ((Zk.push (a0 _) _).YU Hg _)).use ?_
       rintro _ g5 ⟨⟨w1,w2,rfl,o1,o2⟩,b5⟩;obtain⟨p1,c1,rfl,_⟩:=o1.open;obtain⟨p2,c2,rfl,_⟩:=o2.open;rw[<-hE]at *;have s5:=b5.size;rw[a6,a6]at s5;have B5:Zk g1.size g1 g5:=((Zk.push (a0 _) _).YU Hg _).trans (b5.mono KQ);have xB:=b5.get (k:=g1.size) KQ (qE _ _ _);have xA:=b5.get (k:=g1.size+1) Hg (tZ _ _ _);have Pc:=wA _ _ (if E=0 then r.b else ⟨0,0⟩).r (if E=0 then r.b else ⟨0,0⟩).n p1 (if E=0 then n.Zq.l else []).length c1 xA;have zA:=Za xA;have Kw:=fun o:Obj=>(Xa (o:=o) (show g1.size+1≠g1.size by omega)).trans xB;have Fp:=fun o:Obj=>wB _ _ p2 (if E=0 then n.Zq.l else []).length c2 (Kw o);have zB:g1.size<g5.size:=Za xB;unfold Xu;simp -implicitDefEqProofs only[go_sem,B5,Pc,zA,Fp,zB];exact⟨f4,f5,_,_,_,_,rfl,rfl,nc,nc,(Xa nc).trans (ZS xA),ZS (Kw _),((o1.Ya Hg _).Ya KQ _).mono KQ,((o2.Ya Hg _).Ya KQ _).mono KQ⟩)
  rintro F2 g2 ⟨b2,f4,f5,ka,kc,w1,w2,fA,fC,ge1,ge2,yA,yC,o1,o2⟩;rw[<-hE]at yA o1 o2;obtain⟨A,hA⟩:∃A:UC,A=if E=0 then ⟨r.b,n.Zq.l⟩ else JE:=⟨_,rfl⟩
  obtain⟨V,hV⟩:∃V:List Vt,V=if E=0 then n.Zq.l else []:=⟨_,rfl⟩
  have hAp:(if E=0 then r.b else ⟨0,0⟩)=A.p:=by rw[hA];split<;>rfl
  have hAl:(if E=0 then n.Zq.l else [])=A.l:=by rw[hA];split<;>rfl
  have hVl:(if E=0 then n.Zq.l else [])=V:=hV.symm;rw[hAp]at yA;rw[hAl]at o1;rw[hVl]at o2;have Nc:=ZY k1.Yn b2;have N2:=N1.Zo Nc;have W2:=W1.Zo Nc;have K2:=k1.trans Nc;have z4:=x4.Zf Nc;have z5:=x5.Zf Nc;have gz:=tb1.Zf Nc;have R2:Xt o i g2 ra r:=N2.pt.Zh;obtain⟨u0,_,_,_,_⟩:=R2.rr;unfold Qz at u0;have iv7:TD o g2 w2 V:=Im.WK o2.Zq (fun b hb=>k1.Yn b hb);have iv6:TD o g2 w1 A.l:=Im.WK o1.Zq (fun b hb=>k1.Yn b hb);have z6:Yb o g2 ka _:=⟨k1.Yn ka ge1,yA⟩
  have z7:Yb o g2 kc _:=⟨k1.Yn kc ge2,yC⟩
  have P2:=ZR N2.ZX.2 N2.pt.store.len;have m4:=Za z4.2;have m5:=Za z5.2;have mr:=Za R2.ZX.2;have Ui:=Za N2.ZX.2;have s4:hc g2 ⟨h.size,0,aI⟩=aa (Zz nb):=Zn z4.2;have s5:hc g2 ⟨h.size+1,0,aI⟩=aa (Zz ra.rb):=Zn z5.2;unfold Zz at s4 s5 fA fC;have ze:=P2.tape;obtain⟨pd,cd,Pw⟩:=N2.pt.data.1.ZP;have Pw:a.data=U pd (aU n.data) cd:=Pw;have ze:rd g2 ⟨nb,2,aI⟩ 2=aa [U pd (aU n.data) cd,Q O n.YZ]:=by rw[<-Pw];exact ze
  have N2d:Pv o g2 (U pd (aU n.data) cd) n.data:=by rw[<-Pw];exact N2.pt.data
  obtain⟨E2,qF⟩:=ZQ (Ji n.data n.YZ r.b);have call2:∀G,Zk g2.size g2 G->Zd bk T 107 #[bg #[U pd (aU n.data) cd,Q O n.YZ],bg #[Q O r.b.r,Q O r.b.n]] G fun v' h'=>RK G.size h' v' n.data n.YZ E2 (YS (JL r.b))/\Zk G.size G h':=fun G hG=>by
   rw[qF];exact Ix T G _ n.YZ n.data r.b (N2d.bs.Yy hG) nc (gz.tk.Qx hG)
  have wT:∀(G:Hp) (k:Nat) (m:Int) (p:Option Addr) (L c:Nat),G[k]? = aa (al [U aI 0 0,Q O 0].toArray 100)->wr G ⟨k,0,aI⟩ [U p L c,Q O m]=aa (G.setIfInBounds k (al [U p L c,Q O m].toArray 100)):=fun G k m p L c hx=>by
   rw[Ye hx 0 _];rfl
  refine VS.mono (N:=fun F' g'=>Zk g2.size g2 g'/\F' 4=au (aa ⟨h.size,0,aI⟩)/\F' 5=au (aa ⟨h.size+1,0,aI⟩)/\F' 6=au (aa ⟨ka,0,aI⟩)/\F' 7=au (aa ⟨kc,0,aI⟩)/\F' 10=Q O E2/\DK g2.size g' (F' 9) n.data n.YZ E2 (YS (JL r.b))) ?_ ?_ (fun _ _ _ h=>h) (fun _ _ h=>h)
  .refine VS.z (g2.size) [8,13] (.q 0 (.p 1 (.p 2 (.q 3 (.q 4 (.p 5 (.p 6 (.q 7 (.or 8 (.p 9 (.p 10 (.p 11 (.s 12 (.w 13 (.p 14 .nil)))))) (.s 12 (.w 8 (.p 9 (.p 10 (.p 11 (.w 13 (.p 14 .nil)))))))))))))))) mixed uf ?_;simp -implicitDefEqProofs only[go_sem,f4,f5,fA,fC,s4,s5,ze,u0,m4,m5,mr,Ui];unfold DK
   repeat' (first|with_reducible exact Zk.refl _ _|with_reducible exact Zk.push nc _|with_reducible refine b8 ?_ ?_)
   all_goals first
    | (refine (call2 g2 (Zk.refl _ _)).use ?_
       rintro _ g5 ⟨⟨w,rfl,o1⟩,b5⟩;obtain⟨p1,c1,rfl,_⟩:=o1.bs.open;have s5:=b5.size;simp -implicitDefEqProofs only[go_sem,b5];exact⟨f4,f5,fA,fC,_,_,rfl,s5,Zc,o1.push _⟩)
    | (refine (call2 (g2.push (al _ 100)) (Zk.push (a0 _) _)).use ?_
       rintro _ g5 ⟨⟨w,rfl,o1⟩,b5⟩;obtain⟨p1,c1,rfl,_⟩:=o1.bs.open;have B5:Zk g2.size g2 g5:=(Zk.push (a0 _) _).trans (b5.mono Hg);have xA:=b5.get (k:=g2.size) Hg Zc;have Pc:=wT _ _ (if E2=0 then n.YZ else 0) p1 (if E2=0 then n.data++YS (JL r.b) else []).length c1 xA;have zA:=Za xA;simp -implicitDefEqProofs only[go_sem,B5,Pc,zA];exact⟨f4,f5,fA,fC,_,_,rfl,a0 _,ZS xA,(o1.Ya Hg _).mono Hg⟩)
  rintro F3 g3 ⟨b3,f4,f5,f6,f7,f10,kt,wt,fT,ge3,yT,oT⟩;have TE:=ZY K2.Yn b3;have N4:=N2.Zo TE;have W4:=W2.Zo TE;have K4:Kp Wy o h o g3:=K2.Yy b3;by_cases e2:E2=0
  case neg=>
   have eP:JM { n with Zh:=aa r } r=⟨{ n with Zh:=aa r },[],[]⟩:=by unfold JM;rw[if_pos c1,if_pos (by rw[<-qF];exact e2)]
   rw[eP,a7];simp -implicitDefEqProofs only[go_sem,f10,e2];exact⟨o,_,Xq,Z1 K4,N4,W4⟩
  rw[if_pos e2]at yT oT;have u4:=z4.Zf TE;have u5:=z5.Zf TE;have u6:=z6.Zf TE;have u7:=z7.Zf TE;have iu6:=iv6.Zf TE;have iu7:=iv7.Zf TE;have iT:Pv o g3 wt (n.data++YS (JL r.b)):=⟨Im.WK oT.Zq (fun b hb=>K2.Yn b hb),oT.byte⟩
  have eP:JM { n with Zh:=aa r } r=⟨{ n with Zh:=aa r,data:=n.data++YS (JL r.b),Zs:=aa (.Zq A V true) },[],[]⟩:=by
   unfold JM;rw[if_pos c1,if_neg (by rw[<-qF];simpa using e2),hA,hV,hE]
  rw[eP,a7];obtain⟨pt,ct,rfl,_⟩:=oT.bs.open;have v4:hc g3 ⟨h.size,0,aI⟩=aa (Zz nb):=Zn u4.2;have vT:rd g3 ⟨kt,0,aI⟩ 2=aa [U pt (n.data++YS (JL r.b)).length ct,Q O n.YZ]:=Zy yT rfl;have Hf:=Za N4.ZX.2;obtain⟨g4,w4,N5,k5⟩:=Yi.write (a:={ a with Zh:=aa ra,data:=U pt (n.data++YS (JL r.b)).length ct }) (n:={ n with Zh:=aa r,data:=n.data++YS (JL r.b) }) { N4.pt with data:=iT } K4.Yn N4.ZX ((XH N4.ZX.2 N4.pt.store.len).tape (U pt (n.data++YS (JL r.b)).length ct) n.YZ rfl);have v4':hc g4 ⟨h.size,0,aI⟩=aa (Zz nb):=Zn (u4.Zf k5).2;have Mf:=Za N5.ZX.2;have pn:Vj o g4 wb i nb (aa ra) (TM 115 [ka,h.size,kc,h.size+1]) (aa (.Zq A V true)):=
   ⟨ka,h.size,kc,h.size+1,w2,ra.rb,rfl,⟨_,u6.Zf k5,iu6.Zf k5⟩,u4.Zf k5,u7.Zf k5,iu7.Zf k5,u5.Zf k5,by rw[if_pos rfl];exact⟨ra,rfl,rfl⟩⟩
  obtain⟨g6,w6,N6,k6⟩:=Yi.write (a:={ a with Zh:=aa ra,data:=U pt (n.data++YS (JL r.b)).length ct,Zs:=TM 115 [ka,h.size,kc,h.size+1] }) (n:={ n with Zh:=aa r,data:=n.data++YS (JL r.b),Zs:=aa (.Zq A V true) }) { N5.pt with Zs:=pn } k5.Yn N5.ZX ((XH N5.ZX.2 N5.pt.store.len).Zs (TM 115 [ka,h.size,kc,h.size+1]) rfl);unfold TM at w6;simp only[b0]at w6;unfold Zz at v4 v4' w6;simp -implicitDefEqProofs only[go_sem,f10,e2,f4,f5,f6,f7,fT,v4,vT,w4,Hf,v4',w6,Mf];have K6:Kp (JO i) o h o g6:=((Z1 K4).trans (k5.mono fun t q=>.inr (.inr (.inr (by rw[q];rfl))))).trans (k6.mono fun t q=>.inr (.inr (.inr (by rw[q];rfl))));exact⟨o,_,Xq,K6,N6,(W4.Zf k5 (by rintro t rfl;simp[Tg.of])).Zf k6 (by rintro t rfl;simp[Tg.of])⟩
 by_cases c2:5<2*r.ZI.length
 case neg=>
  have eP:JM { n with Zh:=aa r } r=⟨{ n with Zh:=aa r },RN n r,[]⟩:=by unfold JM;rw[if_neg c1,if_pos c2];rfl
  rw[eP];have lm:=fun (K:a9->Hp->Prop) (cs:Array Bool) (ty:TypeId)=>Ry (T:=T) (K:=K) (ty:=ty) (cs:=cs) ID R1.ZI.2;rw[R1.Ok.length]at lm;simp -implicitDefEqProofs only[go_sem,f0,f4,f5,f35,c1,r4,r5,q2,lm];refine (HJ T g1 r.ZI.length Mp).use ?_;rintro _ _ ⟨rfl,rfl⟩;simp -implicitDefEqProofs only[go_sem,c2,f0,f4,f5];obtain⟨pf,hpf⟩:∃pf:Nat->List YF,pf=fun (m:Nat)=>if Yh r.ZI (m:Int)=aI then [⟨0,n.me,m,r.b,St,[]⟩] else []:=⟨_,rfl⟩
  have Zl6:RN n r=(bd 5).flatMap pf:=by rw[hpf];rfl
  have ZuR:∀m,(pf m).length<=1:=fun m=>by rw[hpf];simp only;split<;>simp
  rw[Zl6];clear r4 r5 q0 q2 q3 q4 q5 l4 l5 eI Q8 P1 R1 lm Zl6;refine VS.Yj (fun F g=>F 0=au (aa ⟨wb,0,aI⟩)/\F 4=au (aa ⟨h.size,0,aI⟩)/\F 5=au (aa ⟨h.size+1,0,aI⟩)/\∃(m:Nat) (o':Ow) (Jv:WA),m<=5/\F 78=Q O m/\Kp mb o h o' g/\Z5 o' g wb i nb { a with Zh:=aa ra } { n with Zh:=aa r }/\ZZ o' g wb YL Jv (fl++(bd m).flatMap pf) Yv ZE/\Yb o' g h.size (al [Zz nb].toArray 98)/\Yb o' g (h.size+1) (al [Zz ra.rb].toArray 106))
   (fun F _=>5-(vi (F 78)).toNat) rfl ⟨f0,f4,f5,0,o,Xq,nc,rfl,Z1 k1,N1,by simpa using W1,x4,x5⟩ ?_
  rintro F2 g2 ⟨f0,f4,f5,m,o2,WA2,hm,f78,K2,N2,W2,x4,x5⟩;by_cases ZU:m<5
  .have Z8:(m:Int)<5:=nc;have R2:Xt o2 i g2 ra r:=N2.pt.Zh;obtain⟨q0,q2,q3,q4,q5⟩:=R2.rr;have P2:=ZR N2.ZX.2 N2.pt.store.len;have l4:=Za x4.2;have l5:=Za x5.2;have eI:=Za R2.ZX.2;have Ui:=Za N2.ZX.2;have r4:hc g2 ⟨h.size,0,aI⟩=aa (Zz nb):=Zn x4.2;have r5:hc g2 ⟨h.size+1,0,aI⟩=aa (Zz ra.rb):=Zn x5.2;unfold Zz at r4 r5;unfold Qz at q0;have lk:=fun (K:a9->Hp->Prop)=>Xc (K:=K) (n:=(m:Int)) (c:=true) ID yP R2.ZI.2;have hpm:pf m=if Yh r.ZI (m:Int)=aI then [⟨0,n.me,m,r.b,St,[]⟩] else []:=by rw[hpf]
   rcases R2.Ok.Yh (m:Int) with⟨z1,z2⟩|⟨w,vs,z1,z2,iv⟩
   .rw[if_pos z2]at hpm;simp only[z1,bn,be,↓reduceIte]at lk;simp -implicitDefEqProofs only[go_sem,f0,f4,f5,f78,Z8,r5,q2,lk];refine VS.z (g2.size) [8] (.p 0 (.q 1 (.p 2 (.q 3 (.p 4 (.p 5 (.q 6 (.p 7 (.w 8 .nil))))))))) mixed uf ?_;simp -implicitDefEqProofs only[go_sem,f0,f4,f5,f78,r4,r5,q0,l4,l5,eI];have rl:(fl++(bd m).flatMap pf).length<=1000000000000:=by
     have:=Tv pf 1 m ZuR;rw[a5];omega
    refine (VR T g2 o2 wb nb YL n.me WA2 _ Yv ZE (m:Int) ⟨0,0,0,r.b,St,[]⟩ (U aI 0 0) K2.Yn W2 P2.me Ui (Im.nil _ _ _ _) rl).use ?_;rintro v' g3 ⟨o3,WA3,k3,_,W3⟩;simp -implicitDefEqProofs only[go_sem,f78];unfold XK;refine⟨⟨f0,f4,f5,m+1,o3,WA3,ZU,rfl,K2.trans k3,N2.Zf k3 (by rintro t (rfl|rfl)<;>simp[Tg.of]),by rw[UK,hpm,<-ba];exact W3,x4.Zf k3,x5.Zf k3⟩,?_⟩;simp only[vi,Zr,↓reduceIte,f78];omega
   .rw[if_neg (by rw[z2];simp)]at hpm;obtain⟨pw,cw,rfl⟩:=iv.ZP;simp only[z1,bo,bf,↓reduceIte]at lk;simp -implicitDefEqProofs only[go_sem,f0,f4,f5,f78,Z8,r5,q2,lk];unfold XK;refine⟨⟨f0,f4,f5,m+1,o2,WA2,ZU,rfl,K2,N2,by rw[UK,hpm,a7];exact W2,x4,x5⟩,?_⟩;simp only[vi,Zr,↓reduceIte,f78];omega
  .have Xp:¬(m:Int)<5:=nc;obtain rfl:m=5:=nc;simp -implicitDefEqProofs only[go_sem,f78,Xp];exact⟨o2,_,WA2,K2.mono (fun t q=>by rcases q with rfl|rfl<;>simp[JO]),N2,W2⟩
 have lm:=fun (K:a9->Hp->Prop) (cs:Array Bool) (ty:TypeId)=>Ry (T:=T) (K:=K) (ty:=ty) (cs:=cs) ID R1.ZI.2;rw[R1.Ok.length]at lm;obtain⟨r1,Eb⟩:=ZQ (if r.XM=true then r else Wa n r);have eP:JM { n with Zh:=aa r } r=⟨{ n with Zh:=aa (Jd n r1 n.Zx) },Tt n (Jd n r1 n.Zx),[]⟩:=by
  unfold JM;rw[if_neg c1,if_neg (by simpa using c2)];have e1:X2 { n with Zh:=aa r } r=Jd n r1 n.Zx:=by
   unfold X2;rw[Eb,qO (n:={ n with Zh:=aa r }) (n':=n) rfl rfl,i9 (n:={ n with Zh:=aa r }) (n':=n) rfl rfl]
  rw[e1,zr (n:={ n with Zh:=aa r }) (n':=n) rfl rfl]
 rw[eP];simp -implicitDefEqProofs only[go_sem,f0,f4,f5,f35,c1,r4,r5,q2,lm];refine (HJ T g1 r.ZI.length Mp).use ?_;rintro _ g' ⟨rfl,Ec⟩;rw[Ec]
 cases cb:r.XM
 all_goals
 first
 | (rw[cb,if_neg Hg]at Eb
    rw[cb]at q3;simp -implicitDefEqProofs only[go_sem,c2,f0,f4,f5,r4,r5,q3];refine (zp T g1 o wb i nb a n ra r k1.Yn N1 hp hs hl).use ?_;rintro v' g2 ⟨ra1,Hd,kx,N3⟩;rw[<-Eb]at N3;have kx':Kp (JO i) o g1 o g2:=kx.mono fun t q=>.inr (.inr (.inr (Kt q)));have W3:=W1.Zf kx (by intro t q;rw[Kt q];simp);have y4:=x4.Zf kx;have y5:=x5.Zf kx;have K3:Kp (JO i) o h o g2:=(Z1 k1).trans kx')
 | (rw[cb,if_pos rfl]at Eb
    rw[cb]at q3;simp -implicitDefEqProofs only[go_sem,c2,f0,f4,f5,r4,r5,q3];obtain⟨g2,Wn⟩:=ZQ (g1);obtain⟨ra1,qD⟩:=ZQ (ra);have Hd:ra1.rb=ra.rb:=by rw[qD]
    have N3:Z5 o g2 wb i nb { a with Zh:=aa ra1 } { n with Zh:=aa r1 }:=by rw[qD,Eb,Wn];exact N1
    have W3:ZZ o g2 wb YL Xq fl Yv ZE:=by rw[Wn];exact W1
    have y4:Yb o g2 h.size (al [Zz nb].toArray 98):=by rw[Wn];exact x4
    have y5:Yb o g2 (h.size+1) (al [Zz ra.rb].toArray 106):=by rw[Wn];exact x5
    have K3:Kp (JO i) o h o g2:=by rw[Wn];exact Z1 k1
    rw[<-Wn])
 all_goals
  clear r4 r5 q0 q2 q3 q4 q5 l4 l5 eI Q8 P1 R1 lm;have P3:=ZR N3.ZX.2 N3.pt.store.len;obtain⟨pq,cq,zv,_⟩:=Xz.ZP N3.pt.Zx;have zv:a.Zx=U pq n.Zx.length cq:=zv;have P3q:hc g2 ⟨nb,52,aI⟩=aa (U pq n.Zx.length cq):=by rw[<-zv];exact P3.Zx
  have r4:hc g2 ⟨h.size,0,aI⟩=aa (Zz nb):=Zn y4.2;have r5:hc g2 ⟨h.size+1,0,aI⟩=aa (Zz ra.rb):=Zn y5.2;unfold Zz at r4 r5;simp -implicitDefEqProofs only[go_sem,f0,f4,f5,r4,r5,P3q];clear r4 r5 P3q P3;refine VS.Yj (fun F g=>F 0=au (aa ⟨wb,0,aI⟩)/\F 4=au (aa ⟨h.size,0,aI⟩)/\F 5=au (aa ⟨h.size+1,0,aI⟩)/\F 113=U pq n.Zx.length cq/\F 114=Q O n.Zx.length/\∃(j:Nat) (ra':RA),j<=n.Zx.length/\F 115=Q O j/\Kp (JO i) o h o g/\ra'.rb=ra.rb/\Z5 o g wb i nb { a with Zh:=aa ra' } { n with Zh:=aa (Jd n r1 (n.Zx.take j)) }/\ZZ o g wb YL Xq fl Yv ZE/\Yb o g h.size (al [Zz nb].toArray 98)/\Yb o g (h.size+1) (al [Zz ra.rb].toArray 106))
   (fun F _=>n.Zx.length-(vi (F 115)).toNat) rfl ⟨f0,f4,f5,rfl,rfl,0,ra1,nc,rfl,K3,Hd,N3,W3,y4,y5⟩ ?_
  clear f0 f4 f5 y4 y5 K3 N3 W3 Hd;rintro F3 g3 ⟨f0,f4,f5,f113,f114,j,ra',hj,f115,K3,Hd,N3,W3,y4,y5⟩;obtain⟨rj,hrj⟩:=ZQ (Jd n r1 (n.Zx.take j));rw[<-hrj]at N3;have r4:hc g3 ⟨h.size,0,aI⟩=aa (Zz nb):=Zn y4.2;have r5:hc g3 ⟨h.size+1,0,aI⟩=aa (Zz ra.rb):=Zn y5.2;unfold Zz at r4 r5;have l4:=Za y4.2;have l5:=Za y5.2;by_cases ZU:j<n.Zx.length
  .have Z8:(j:Int)<n.Zx.length:=nc;obtain⟨pz,cz,CL,ig⟩:=QC N3.pt.Zx.ts;obtain⟨bb,oo,hz3,Tm,Ky⟩:=ig (by intro e;have:n.Zx=[]:=e;rw[this]at ZU;simp at ZU);have CL:a.Zx=U pz n.Zx.length cz:=CL;rw[zv]at CL;simp only[Value.slice.injEq]at CL;obtain⟨rfl,_,rfl⟩:=CL;subst hz3;have re:rd g3 ⟨bb,oo+j*5,aI⟩ 5=aa (n.Zx[j]).C:=Ky j ZU;obtain⟨x,hx⟩:=ZQ (n.Zx[j]);rw[<-hx]at re;have XC:Jd n r1 (n.Zx.take (j+1))=J4 n rj x:=by
    rw[Y2 _ j ZU,<-hx,hrj];unfold Jd;rw[List.foldl_append];rfl
   obtain⟨g4,He⟩:=ZQ (g3.push (al x.C.toArray 25):Hp);have k4:Kp Wy o g3 o g4:=by rw[He];exact Yt K3.Yn _
   have x4':Yb o g4 g3.size (al x.C.toArray 25):=⟨K3.Yn _ (a0 _),by rw[He];exact Zc⟩
   have e4:=He.symm;have N4:=N3.Zo k4;have R4:Xt o i g4 ra' rj:=N4.pt.Zh;have z4:=y4.Zf k4;have z5:=y5.Zf k4;have s4:hc g4 ⟨h.size,0,aI⟩=aa (Zz nb):=Zn z4.2;have s5:hc g4 ⟨h.size+1,0,aI⟩=aa (Zz ra'.rb):=by rw[Hd];exact Zn z5.2
   have sx:rd g4 ⟨g3.size,0,aI⟩ 5=aa x.C:=Zy x4'.2 rfl;have cf:=Zdc T g4 o wb i nb { a with Zh:=aa ra' } { n with Zh:=aa rj } ra' rj x k4.Yn N4 R4 hl;rw[show VD { n with Zh:=aa rj } rj x=VD n rj x from by unfold VD;rw[Bx (n:={ n with Zh:=aa rj }) (n':=n) rfl rfl],Bx (n:={ n with Zh:=aa rj }) (n':=n) rfl rfl]at cf;unfold Sg Zz at cf;unfold Zz at s4 s5;simp -implicitDefEqProofs only[go_sem,f0,f4,f5,f113,f114,f115,Z8,re,e4,s4,s5,sx];refine cf.use ?_;rintro _ g5 ⟨rfl,b5⟩;have k5:=ZY k4.Yn b5;have K5:Kp (JO i) o h o g5:=(K3.trans (Z1 k4)).trans (Z1 k5);have N5:=N4.Zo k5;have R5:Xt o i g5 ra' rj:=N5.pt.Zh;have W5:=(W3.Zo k4).Zo k5;have u4:=z4.Zf k5;have u5:=z5.Zf k5;have ux:=x4'.Zf k5
   cases hf:free n rj x with
   | none=>
    have e1:J4 n rj x=rj:=by unfold J4;rw[hf]
    simp -implicitDefEqProofs only[go_sem,be,f115];unfold XK;refine⟨⟨f0,f4,f5,f113,f114,j+1,ra',ZU,rfl,K5,Hd,by rw[XC,e1];exact N5,W5,u4,u5⟩,?_⟩;simp only[vi,Zr,↓reduceIte,f115];omega
   | some sl=>
    have e1:J4 n rj x = { rj with ZW:=ins rj.ZW (sl:Int) x }:=by unfold J4;rw[hf]
    have e2:VD n rj x=sl:=by unfold VD;rw[hf]
    rw[e2];simp -implicitDefEqProofs only[go_sem,bf];have t5:hc g5 ⟨h.size+1,0,aI⟩=aa (Zz ra'.rb):=by rw[Hd];exact Zn u5.2
    unfold Zz at t5;have tx:rd g5 ⟨g3.size,0,aI⟩ 5=aa x.C:=Zy ux.2 rfl;obtain⟨_,_,_,t4,_⟩:=R5.rr;have m5:=Za u5.2;have mr:=Za R5.ZX.2;have mx:=Za ux.2;refine VS.z (g5.size) [6] (.q 0 (.p 1 (.p 2 (.q 3 (.p 4 (.q 5 (.w 6 .nil))))))) mixed uf ?_;simp -implicitDefEqProofs only[go_sem,f5,t5,t4,tx,m5,mr,mx];rw[Qb Re R5.ZW.2];obtain⟨k6,R6⟩:=R5.mw K5.Yn (k:=(sl:Int)) (x:=x);have k6':Kp (JS i) o g5 o _:=k6.mono fun t q=>.inr (.inr (.inl q));have k6a:Kp (JO i) o g5 o _:=k6.mono fun t q=>.inr (.inr (.inr (by rw[q];rfl)));simp -implicitDefEqProofs only[go_sem,f115];unfold XK;refine⟨⟨f0,f4,f5,f113,f114,j+1,ra',ZU,rfl,K5.trans k6a,Hd,?_,W5.Zf k6 (by rintro t rfl;simp[Tg.of]),u4.Zf k6,u5.Zf k6⟩,?_⟩
    .rw[XC,e1];exact⟨N5.ZX.Zf k6 Ih,Yi.UX N5.pt k6' rfl rfl R6⟩
    .simp only[vi,Zr,↓reduceIte,f115];omega
  .have Xp:¬(j:Int)<n.Zx.length:=nc;obtain rfl:j=n.Zx.length:=nc;rw[List.take_length]at hrj;simp -implicitDefEqProofs only[go_sem,f114,f115,Xp];rw[<-hrj];obtain⟨r2,hr2⟩:=ZQ (rj);rw[<-hr2]at N3 ⊢;have Zl8:∀s x m,(Pk n r2 s x m).length<=1:=fun s x m=>by unfold Pk;split<;>simp
   have Zl9:∀s,(Vx n r2 s).length<=5:=fun s=>by
    unfold Vx;split
    .split
     .exact Tv _ 1 5 (Zl8 s _)
     .simp
    .simp
   clear r4 r5 l4 l5;refine VS.Yj (fun F g=>F 0=au (aa ⟨wb,0,aI⟩)/\F 4=au (aa ⟨h.size,0,aI⟩)/\F 5=au (aa ⟨h.size+1,0,aI⟩)/\∃(s:Nat) (o':Ow) (Jv:WA),s<=40/\F 134=Q O s/\Kp (JO i) o h o' g/\Z5 o' g wb i nb { a with Zh:=aa ra' } { n with Zh:=aa r2 }/\ZZ o' g wb YL Jv (fl++(bd s).flatMap (Vx n r2)) Yv ZE/\Yb o' g h.size (al [Zz nb].toArray 98)/\Yb o' g (h.size+1) (al [Zz ra.rb].toArray 106))
    (fun F _=>40-(vi (F 134)).toNat) rfl ⟨f0,f4,f5,0,o,Xq,nc,rfl,K3,N3,by simpa using W3,y4,y5⟩ ?_
   clear f0 f4 f5 y4 y5 K3 N3 W3;rintro F4 g4 ⟨f0,f4,f5,s,o4,my,hs4,f134,K4,N4,W4,y4,y5⟩;by_cases ph:s<40
   case neg=>
    have Zf7:¬(s:Int)<40:=nc;obtain rfl:s=40:=nc;simp -implicitDefEqProofs only[go_sem,f134,Zf7];exact⟨o4,_,my,K4,N4,W4⟩
   have Dj:(s:Int)<40:=nc;have R4:Xt o4 i g4 ra' r2:=N4.pt.Zh;obtain⟨_,_,_,t4,t5⟩:=R4.rr;have P4:=ZR N4.ZX.2 N4.pt.store.len;have r4:hc g4 ⟨h.size,0,aI⟩=aa (Zz nb):=Zn y4.2;have r5:hc g4 ⟨h.size+1,0,aI⟩=aa (Zz ra'.rb):=by rw[Hd];exact Zn y5.2
   unfold Zz at r4 r5;have l4:=Za y4.2;have l5:=Za y5.2;have n4:¬h.size=g4.size:=nc;have n5:¬h.size+1=g4.size:=nc;have nnb:¬nb=g4.size:=by have:=Za N4.ZX.2;omega
   have DM:=fun (K:a9->Hp->Prop)=>Xc (K:=K) (n:=(s:Int)) (c:=true) Re Lt R4.ZW.2;rw[Jm]at DM;have Sx:=fun (K:a9->Hp->Prop) (z:Obj)=>Xc (h:=g4.push z) (K:=K) (n:=(s:Int)) (c:=true) Re Lt ((ZJ (Za N4.pt.Zi.2)).trans N4.pt.Zi.2);simp only[Jm,show ({ n with Zh:=aa r2 }:Nd).Zi=n.Zi from rfl]at Sx;have nb4:∀x y:Obj,Kp Wy o4 g4 o4 ((g4.push x).push y):=fun x y=>(Yt K4.Yn _).push _;have skip:∀(x y:Obj),Vx n r2 s=[]->Z5 o4 ((g4.push x).push y) wb i nb { a with Zh:=aa ra' } { n with Zh:=aa r2 }/\ZZ o4 ((g4.push x).push y) wb YL my (fl++(bd (s+1)).flatMap (Vx n r2)) Yv ZE/\Yb o4 ((g4.push x).push y) h.size (al [Zz nb].toArray 98)/\Yb o4 ((g4.push x).push y) (h.size+1) (al [Zz ra.rb].toArray 106):=fun x y hz=>
    ⟨N4.Zo (nb4 x y),by rw[UK,hz,a7];exact W4.Zo (nb4 x y),y4.Zf (nb4 x y),y5.Zf (nb4 x y)⟩
   cases c3:Yh r2.ZW (s:Int) with
   | none=>
    have hz:Vx n r2 s=[]:=by unfold Vx;rw[c3]
    simp only[c3,bB,bn,be,↓reduceIte]at DM
    cases c4:Yh n.Zi (s:Int) with
    | none=>
     simp only[c4,bB,bn,be,↓reduceIte]at Sx;simp -implicitDefEqProofs only[go_sem,f0,f4,f5,f134,Dj,r5,t4,r4,n4,n5,nnb,DM,Sx,P4.Zi];unfold XK;refine⟨⟨f0,f4,f5,s+1,o4,my,ph,rfl,K4.trans (Z1 (nb4 _ _)),skip _ _ hz⟩,?_⟩;simp only[vi,Zr,↓reduceIte,f134];omega
    | some y=>
     simp only[c4,bC,bo,bf,↓reduceIte]at Sx;simp -implicitDefEqProofs only[go_sem,f0,f4,f5,f134,Dj,r5,t4,r4,n4,n5,nnb,DM,Sx,P4.Zi,Sg];unfold XK;refine⟨⟨f0,f4,f5,s+1,o4,my,ph,rfl,K4.trans (Z1 (nb4 _ _)),skip _ _ hz⟩,?_⟩;simp only[vi,Zr,↓reduceIte,f134];omega
   | some x=>
    simp only[c3,bC,bo,bf,↓reduceIte]at DM
    cases c4:Yh n.Zi (s:Int) with
    | some y=>
     have hz:Vx n r2 s=[]:=by unfold Vx;rw[c3];simp only;rw[if_neg (by rw[c4];simp)]
     simp only[c4,bC,bo,bf,↓reduceIte]at Sx;simp -implicitDefEqProofs only[go_sem,f0,f4,f5,f134,Dj,r5,t4,r4,n4,n5,nnb,DM,Sx,P4.Zi,Sg];unfold XK;refine⟨⟨f0,f4,f5,s+1,o4,my,ph,rfl,K4.trans (Z1 (nb4 _ _)),skip _ _ hz⟩,?_⟩;simp only[vi,Zr,↓reduceIte,f134];omega
    | none=>
     have hz:Vx n r2 s=(bd 5).flatMap (Pk n r2 s x):=by unfold Vx;rw[c3];simp only;rw[if_pos c4]
     simp only[c4,bB,bn,be,↓reduceIte]at Sx;simp -implicitDefEqProofs only[go_sem,f0,f4,f5,f134,Dj,r5,t4,r4,n4,n5,nnb,DM,Sx,P4.Zi,Sg];obtain⟨fs,hfs⟩:=ZQ (fl++(bd s).flatMap (Vx n r2));have ZHn:(aU fs)<=900000001000:=by
      have:=Tv (Vx n r2) 5 s Zl9;rw[hfs,a5];omega
     have hnx:fl++(bd (s+1)).flatMap (Vx n r2)=fs++(bd 5).flatMap (Pk n r2 s x):=by rw[UK,hz,<-ba,<-hfs]
     rw[<-hfs]at W4;have kz:=nb4 (al x.C.toArray 25) (al IB.C.toArray 25);have xb:Yb o4 ((g4.push (al x.C.toArray 25)).push (al IB.C.toArray 25)) g4.size (al x.C.toArray 25):=⟨K4.Yn _ (a0 _),qE _ _ _⟩
     refine VS.Yj (fun F g=>F 0=au (aa ⟨wb,0,aI⟩)/\F 4=au (aa ⟨h.size,0,aI⟩)/\F 5=au (aa ⟨h.size+1,0,aI⟩)/\F 134=Q O s/\F 18=Q O s/\F 19=au (aa ⟨g4.size,0,aI⟩)/\∃(m:Nat) (o':Ow) (Jv:WA),m<=5/\F 160=Q O m/\Kp (JO i) o h o' g/\Z5 o' g wb i nb { a with Zh:=aa ra' } { n with Zh:=aa r2 }/\ZZ o' g wb YL Jv (fs++(bd m).flatMap (Pk n r2 s x)) Yv ZE/\Yb o' g h.size (al [Zz nb].toArray 98)/\Yb o' g (h.size+1) (al [Zz ra.rb].toArray 106)/\Yb o' g g4.size (al x.C.toArray 25))
      (fun F _=>5-(vi (F 160)).toNat) rfl ⟨f0,f4,f5,f134,rfl,rfl,0,o4,my,nc,rfl,K4.trans (Z1 kz),N4.Zo kz,by simpa using W4.Zo kz,y4.Zf kz,y5.Zf kz,xb⟩ ?_
     clear f0 f4 f5 f134 y4 y5 r4 r5 t4 t5 P4 DM Sx skip nb4 kz xb l4 l5 n4 n5 nnb R4;rintro F5 g5 ⟨f0,f4,f5,f134,f18,f19,m,o5,WA5,hm,f160,K5,N5,W5,y4,y5,xb⟩;by_cases lV:m<5
     case neg=>
      have hgm:¬(m:Int)<5:=nc;obtain rfl:m=5:=nc;simp -implicitDefEqProofs only[go_sem,f160,hgm,f134];unfold XK;refine⟨⟨f0,f4,f5,s+1,o5,WA5,ph,rfl,K5,N5,by rw[hnx];exact W5,y4,y5⟩,?_⟩;simp only[vi,Zr,↓reduceIte,f134];omega
     have Zmb:(m:Int)<5:=nc;have R5:Xt o5 i g5 ra' r2:=N5.pt.Zh;obtain⟨v0,_,_,_,v5⟩:=R5.rr;unfold Qz at v0;have r5:hc g5 ⟨h.size+1,0,aI⟩=aa (Zz ra'.rb):=by rw[Hd];exact Zn y5.2
     unfold Zz at r5;have lkv:=fun (K:a9->Hp->Prop)=>Xc (K:=K) (n:=(s:Int)) (c:=false) Fh DD R5.Y5.2;rw[Jm]at lkv;simp only[Bool.false_eq_true,if_false]at lkv;obtain⟨g6,Ly⟩:=ZQ (g5.push (al [].toArray 203):Hp);have e6:=Ly.symm;have k6:Kp Wy o5 g5 o5 g6:=by rw[Ly];exact Yt K5.Yn _
     have w6:wr g6 ⟨g5.size,0,aI⟩ []=aa g6:=by
      have hx:g6[g5.size]? = aa (al [].toArray 203):=by rw[Ly];exact Zc
      rw[Ye hx 0 [],if_pos ⟨Hg,rfl⟩]
      congr 1
      exact GN hx
     have N6:=N5.Zo k6;have W6:=W5.Zo k6;have z4:=y4.Zf k6;have z5:=y5.Zf k6;have zx:=xb.Zf k6;have K6:Kp (JO i) o h o5 g6:=K5.trans (Z1 k6);have P6:=ZR N6.ZX.2 N6.pt.store.len;have R6:Xt o5 i g6 ra' r2:=N6.pt.Zh;obtain⟨u0,_,_,_,_⟩:=R6.rr;unfold Qz at u0;have s4:hc g6 ⟨h.size,0,aI⟩=aa (Zz nb):=Zn z4.2;have s5:hc g6 ⟨h.size+1,0,aI⟩=aa (Zz ra'.rb):=by rw[Hd];exact Zn z5.2
     unfold Zz at s4 s5;have sx:rd g6 ⟨g4.size,0,aI⟩ 5=aa [Q O x.k,Q O x.c,Q O x.s,Q O x.n,Q O x.v]:=Zy zx.2 rfl;have m4:=Za z4.2;have m5:=Za z5.2;have mx:=Za zx.2;have mr:=Za R6.ZX.2;have zw:=Za N6.ZX.2;obtain⟨S,hS⟩:=ZQ ((Yh r2.Y5 (s:Int)).getD []);have Uo:Pk n r2 s x m=if Yh S (m:Int)=aI then [⟨2,n.me,m,Jj,QB s r2.b x,[]⟩] else []:=by unfold Pk;rw[hS]
     obtain⟨mv,hmv,lki⟩:∃mv,(Option.map mpV (Yh ra'.sv (s:Int))).getD (.map aI)=mv/\∀K:a9->Hp->Prop,Ie bk 202 mv (Q O (m:Int)) true K g5=K (.tuple #[bg #[],a8 (Yh S (m:Int)).isSome]) g5:=by
      rcases R5.Rg.Yh (s:Int) with⟨z1,z2⟩|⟨sb,S',z1,z2,hsb⟩
      .refine⟨.map aI,by rw[z1];rfl,fun K=>?_⟩;rw[CI DC ZeW,hS,z2];rfl
      .refine⟨.map (aa sb),by rw[z1];rfl,fun K=>?_⟩;have:=Xc (K:=K) (n:=(m:Int)) (c:=true) DC ZeW hsb.2;have hSS:S=S':=by rw[hS,z2];rfl
       rw[this];unfold Hc;rw[Jm,<-hSS]
       cases Yh S (m:Int)<;>rfl
     rw[hmv]at lkv
     cases cS:Yh S (m:Int) with
     | some uu=>
      rw[if_neg (by rw[cS];simp)]at Uo;simp only[cS,bf]at lki;simp -implicitDefEqProofs only[go_sem,f0,f4,f5,f18,f19,f160,Zmb,r5,v5,lkv,lki,e6,w6];unfold XK;refine⟨⟨f0,f4,f5,f134,f18,f19,m+1,o5,WA5,lV,rfl,K6,N6,by rw[UK,Uo,a7];exact W6,z4,z5,zx⟩,?_⟩;simp only[vi,Zr,↓reduceIte,f160];omega
     | none=>
      rw[if_pos cS]at Uo;simp only[cS,be]at lki;simp -implicitDefEqProofs only[go_sem,f0,f4,f5,f18,f19,f160,Zmb,r5,v5,lkv,lki,e6,w6];refine VS.z (g6.size) [11] (.p 0 (.q 1 (.p 2 (.p 3 (.q 4 (.p 5 (.p 6 (.q 7 (.q 8 (.p 9 (.p 10 (.w 11 .nil)))))))))))) mixed uf ?_;simp -implicitDefEqProofs only[go_sem,f0,f4,f5,f18,f19,f160,s4,s5,u0,sx,m4,m5,mx,mr];have rl:(fs++(bd m).flatMap (Pk n r2 s x)).length<=1000000000000:=by
       have:=Tv (Pk n r2 s x) 1 m (Zl8 s x);rw[a5];omega
      refine (VR T g6 o5 wb nb YL n.me WA5 _ Yv ZE (m:Int) ⟨2,0,0,Jj,QB s r2.b x,[]⟩ (U aI 0 0) K6.Yn W6 P6.me zw (Im.nil _ _ _ _) rl).use ?_;rintro v' g7 ⟨o7,WA7,k7,_,W7⟩;simp -implicitDefEqProofs only[go_sem,f160];unfold XK;refine⟨⟨f0,f4,f5,f134,f18,f19,m+1,o7,WA7,lV,rfl,K6.trans (k7.mono fun t q=>by rcases q with rfl|rfl<;>simp[JO]),N6.Zf k7 (by rintro t (rfl|rfl)<;>simp[Tg.of]),by rw[UK,Uo,<-ba];exact W7,z4.Zf k7,z5.Zf k7,zx.Zf k7⟩,?_⟩;simp only[vi,Zr,↓reduceIte,f160];omega
theorem Vj.fn{i nb:Nat}{ra:Option RA}{v:a9}{p:Option LV}(s:Vj o h wb i nb ra v p):(p=aI/\v=.nilFunc)\/(p.isSome=true/\∃f l,v=.func (.func f) #[] l):=by
 match p,s with
 | none,s=>exact .inl ⟨rfl,s⟩
 | some (.VB _ _ _ _),⟨_,_,_,_,e,_⟩=>exact .inr ⟨rfl,_,_,e⟩
 | some (.TC _ _ _),⟨_,_,_,_,e,_⟩=>exact .inr ⟨rfl,_,_,e⟩
 | some (.Zq _ _ _),⟨_,_,_,_,_,_,e,_⟩=>exact .inr ⟨rfl,_,_,e⟩
theorem qP(n:Nd)(r:Xw):(JM n r).n.Ys=n.Ys/\(JM n r).n.ZB=n.ZB/\(JM n r).n.me=n.me/\(JM n r).n.YX=n.YX/\(JM n r).n.Zq=n.Zq/\(JM n r).ts=[]:=by
 unfold JM;split
 .split<;>exact⟨rfl,rfl,rfl,rfl,rfl,rfl⟩
 .split<;>exact⟨rfl,rfl,rfl,rfl,rfl,rfl⟩
theorem ja(n:Nd)(r:Xw):(RN n r).length<=5:=by
 have:=Tv (fun (m:Nat)=>if Yh r.ZI (m:Int)=aI then [(⟨0,n.me,m,r.b,St,[]⟩:YF)] else []) 1 5 (fun m=>by split<;>simp);exact this
theorem qQ(n:Nd)(r:Xw):(Tt n r).length<=200:=by
 have h1:∀s x m,(Pk n r s x m).length<=1:=fun s x m=>by unfold Pk;split<;>simp
 have h2:∀s,(Vx n r s).length<=5:=fun s=>by
  unfold Vx;split
  .split
   .exact Tv _ 1 5 (h1 s _)
   .simp
  .simp
 exact Tv _ 5 40 h2
theorem Zdj(n:Nd)(r:Xw):(JM n r).ls.length<=200:=by
 unfold JM;split
 .split<;>simp
 .split
  .have:=ja n r;simp only;omega
  .exact qQ n _
theorem jc(n:Nd):(Zo n).Ys=n.Ys/\(Zo n).ZB=n.ZB/\(Zo n).me=n.me/\(Zo n).YX=n.YX/\(Zo n).Zq=n.Zq/\(Zo n).Zx=n.Zx/\(Zo n).Zs=n.Zs/\(Zo n).data=n.data/\(Zo n).YZ=n.YZ:=by
 unfold Zo;split
 .split<;>exact⟨rfl,rfl,rfl,rfl,rfl,rfl,rfl,rfl,rfl⟩
 .exact⟨rfl,rfl,rfl,rfl,rfl,rfl,rfl,rfl,rfl⟩
theorem bY(n:Nd):(Zo n).Zh=aI\/(Zo n).Zh=n.Zh:=by
 unfold Zo;split
 .split
  .exact .inl rfl
  .exact .inr rfl
 .exact .inr rfl
theorem Mg(n:Nd):(Z9 n).n.Ys=n.Ys/\(Z9 n).n.ZB=n.ZB/\(Z9 n).n.me=n.me/\(Z9 n).n.YX=n.YX/\(Z9 n).n.Zq=n.Zq/\(Z9 n).ts=[]:=by
 unfold Z9;split
 .exact qP _ _
 .split<;>exact⟨rfl,rfl,rfl,rfl,rfl,rfl⟩
theorem bZ(n:Nd):(Z9 n).ls.length<=200+n.Zx.length:=by
 unfold Z9;split
 .next r _=>have:=Zdj n r;omega
 .split
  .simp[Wu]
  .simp
set_option maxHeartbeats 4000000 in
theorem Zdk(T:bp)(h:Hp)(o:Ow)(wb i nb:Nat)(YL:Nat->Nat)(a:NA)(n:Nd)(Xq:WA)(fl:List YF)(Yv:Nat->Int)(ZE:List Ps)(d:Vp o h)(N:Z5 o h wb i nb a n)(W:ZZ o h wb YL Xq fl Yv ZE)(tb:eG o h)(ub:n.Zs=aI)(Y7:(aU fl)<=800000000000)(yD:n.Zq.l.length<=1000000)(tT:(aU n.data)<=1000000)(hr:∀r,n.Zh=aa r->(∀x∈r.ZI,x.2.length<=1000000)/\(∀x∈r.ZI,∀v∈x.2,v.Zu<=1000000)/\r.ZI.length<=1000000000000)(hl:n.ZB.length<=100000000000)(hq:n.Zx.length<=10000000000)(ht:0<=n.Ys/\n.Ys<5):
  Zd bk T 72 #[Zz wb,Zz nb] h fun v' h'=>∃o' a' Jv,Kp (JO i) o h o' h'/\Z5 o' h' wb i nb a' (Yp n).n/\ZZ o' h' wb YL Jv (fl++(Yp n).ls) Yv ZE:=by
 refine Zd.Hm (args:=#[_,_]) Tryz.func72 rfl rfl rfl ?_;obtain⟨Ze2,Zg8,sme,Zg9,qS,By,zy,Ze3,ZuU⟩:=jc n;refine VS.seq (VS.mono (N:=fun F' g'=>F' 0=au (aa ⟨wb,0,aI⟩)/\F' 1=au (aa ⟨nb,0,aI⟩)/\∃a1,Kp (JO i) o h o g'/\Z5 o g' wb i nb a1 (Zo n)/\ZZ o g' wb YL Xq fl Yv ZE) ?_ ?_ (fun _ _ _ h=>h) (fun _ _ h=>h))
 .refine Qw _ _ _ _ _ _ rfl ?_;unfold Zz;have P:=ZR N.ZX.2 N.pt.store.len;have TF:=Za N.ZX.2;have Pr:=P.Zh;have Po:=P.bK
  cases Kx:a.Zh with
  | none=>
   rw[Kx]at Pr;have hn:n.Zh=aI:=by
    have:=N.pt.Zh;rw[Kx]at this
    cases hx:n.Zh with
    | none=>rfl
    | some r=>rw[hx]at this;exact this.elim
   have es:Zo n=n:=by unfold Zo;rw[hn]
   rw[es];unfold Md at Pr;simp -implicitDefEqProofs only[go_sem,Pr];refine VS.mono (N:=fun F' g'=>Zk h.size h g'/\F' 0=au (aa ⟨wb,0,aI⟩)/\F' 1=au (aa ⟨nb,0,aI⟩)/\F' 26=a8 false) ?_ ?_ (fun _ _ _ h=>h) (fun _ _ h=>h)
   .refine VS.z (h.size) [12] (.p 0 (.p 1 (.p 2 (.p 3 (.p 4 (.p 5 (.p 6 (.q 7 (.p 8 (.p 9 (.p 10 (.q 11 (.w 12 (.p 13 .nil)))))))))))))) mixed (by kernel_rfl) ?_;simp -implicitDefEqProofs only[go_sem,Pr,Po,TF]
    try exact Zk.refl _ _
   rintro F1 g1 ⟨b1,f0,f1,f26⟩;have kb:=ZY d b1;simp -implicitDefEqProofs only[go_sem,f26];exact⟨f0,f1,a,Z1 kb,N.Zo kb,W.Zo kb⟩
  | some ra=>
   obtain⟨r,hn⟩:∃r,n.Zh=aa r:=by
    have:=N.pt.Zh;rw[Kx]at this
    cases hx:n.Zh with
    | none=>rw[hx]at this;exact this.elim
    | some r=>exact⟨r,rfl⟩
   rw[Kx]at Pr;unfold Md Zz at Pr;have R:Xt o i h ra r:=by have:=N.pt.Zh;rw[Kx,hn]at this;exact this
   obtain⟨q0,_,_,_,_⟩:=R.rr;have eI:=Za R.ZX.2;simp -implicitDefEqProofs only[go_sem,Pr];refine VS.mono (N:=fun F' g'=>Zk h.size h g'/\F' 0=au (aa ⟨wb,0,aI⟩)/\F' 1=au (aa ⟨nb,0,aI⟩)/\F' 26=a8 (decide (ZL r.b n.Zq.p))) ?_ ?_ (fun _ _ _ h=>h) (fun _ _ h=>h)
   .refine VS.z (h.size) [12] (.p 0 (.p 1 (.p 2 (.p 3 (.p 4 (.p 5 (.p 6 (.q 7 (.p 8 (.p 9 (.p 10 (.q 11 (.w 12 (.p 13 .nil)))))))))))))) mixed (by kernel_rfl) ?_;simp -implicitDefEqProofs only[go_sem,Pr,Po,q0,TF,eI];refine (Lx T h n.Zq.p r.b).use ?_;rintro _ g ⟨rfl,b⟩;simp -implicitDefEqProofs only[go_sem,b]
   rintro F1 g1 ⟨b1,f0,f1,f26⟩;have kb:=ZY d b1;have N1:=N.Zo kb;have W1:=W.Zo kb;by_cases c:ZL r.b n.Zq.p
   .have es:Zo n = { n with Zh:=aI }:=by unfold Zo;rw[hn];simp only;rw[if_pos c]
    rw[es];have hpn:a.Zs=.nilFunc:=by
     have:=N.pt.Zs;rw[ub]at this;exact this
    have pn:Vj o g1 wb i nb aI a.Zs n.Zs:=by rw[ub];exact hpn
    obtain⟨g2,w2,N2,k2⟩:=Yi.write (a:={ a with Zh:=aI }) (n:={ n with Zh:=aI }) { N1.pt with Zh:=trivial,Zs:=pn } kb.Yn N1.ZX ((XH N1.ZX.2 N1.pt.store.len).Zh aI);have Q8:=Za N1.ZX.2;unfold Md at w2;simp -implicitDefEqProofs only[go_sem,f0,f1,f26,c,w2,Q8];exact⟨_,(Z1 kb).trans (k2.mono fun t q=>.inr (.inr (.inr (by rw[q];rfl)))),N2,W1.Zf k2 (by rintro t rfl;simp[Tg.of])⟩
   .have es:Zo n=n:=by unfold Zo;rw[hn];simp only;rw[if_neg c]
    rw[es];simp -implicitDefEqProofs only[go_sem,f26,c];exact⟨f0,f1,a,Z1 kb,N1,W1⟩
 rintro F1 g1 ⟨f0,f1,a1,K1,N1,W1⟩;obtain⟨s,hs⟩:=ZQ (Zo n);rw[<-hs]at N1 Ze2 Zg8 sme Zg9 qS By zy Ze3 ZuU;have srg:s.Zh=aI\/s.Zh=n.Zh:=by rw[hs];exact bY n
 obtain⟨Ze4,Zmd,eme,Zha,ZuV,ets⟩:=Mg s;have els:=bZ s;unfold Yp;rw[<-hs];clear hs;refine VS.seq (VS.mono (N:=fun F' g'=>F' 0=au (aa ⟨wb,0,aI⟩)/\F' 1=au (aa ⟨nb,0,aI⟩)/\∃kb a1,F' 5=au (aa ⟨kb,0,aI⟩)/\Yb o g' kb (al [Q O n.Zq.p.r,Q O n.Zq.p.n].toArray 102)/\Kp (JO i) o h o g'/\Z5 o g' wb i nb a1 s/\ZZ o g' wb YL Xq fl Yv ZE) ?_ ?_ (fun _ _ _ h=>h) (fun _ _ h=>h))
 .refine Qw _ _ _ _ _ _ rfl ?_;have P1:=ZR N1.ZX.2 N1.pt.store.len;have P1o:=P1.bK;rw[qS]at P1o;have TF:=Za N1.ZX.2;obtain⟨g2,Wn⟩:=ZQ (g1.push (al [Q O n.Zq.p.r,Q O n.Zq.p.n].toArray 102):Hp);have k2:Kp Wy o g1 o g2:=by rw[Wn];exact Yt K1.Yn _
  have x5:Yb o g2 g1.size (al [Q O n.Zq.p.r,Q O n.Zq.p.n].toArray 102):=⟨K1.Yn _ (a0 _),by rw[Wn];exact Zc⟩
  have e2:=Wn.symm;simp -implicitDefEqProofs only[go_sem,f0,f1,P1o,TF,e2];exact⟨_,a1,rfl,x5,K1.trans (Z1 k2),N1.Zo k2,W1.Zo k2⟩
 clear f0 f1 K1 N1 W1;rintro F2 g2 ⟨f0,f1,kb,a2,f5,x5,K2,N2,W2⟩;have gz:=tb.Zf K2;refine VS.seq (VS.mono (N:=fun F' g'=>F' 0=au (aa ⟨wb,0,aI⟩)/\F' 1=au (aa ⟨nb,0,aI⟩)/\(Z9 s).n.Zs=aI/\∃o' a1 Jv,Kp (JO i) o h o' g'/\Z5 o' g' wb i nb a1 (Z9 s).n/\ZZ o' g' wb YL Jv (fl++(Z9 s).ls) Yv ZE) ?_ ?_ (fun _ _ _ h=>h) (fun _ _ h=>h))
 .refine Qw _ _ _ _ _ _ rfl ?_;have P2:=ZR N2.ZX.2 N2.pt.store.len;have P2r:=P2.Zh;have qU:=P2.me;have TF:=Za N2.ZX.2;have l5:=Za x5.2
  cases Kx:a2.Zh with
  | some ra=>
   obtain⟨r,hn⟩:∃r,s.Zh=aa r:=by
    have:=N2.pt.Zh;rw[Kx]at this
    cases hx:s.Zh with
    | none=>rw[hx]at this;exact this.elim
    | some r=>exact⟨r,rfl⟩
   have hnr:n.Zh=aa r:=by
    rcases srg with e|e
    .rw[e]at hn;cases hn
    .rw[<-e,hn]
   have e1:Z9 s=JM s r:=by unfold Z9;rw[hn]
   have ea:a2 = { a2 with Zh:=aa ra }:=by rw[<-Kx]
   have es:s = { s with Zh:=aa r }:=by rw[<-hn]
   obtain⟨Eb,hr2,hr3⟩:=hr r hnr;rw[Kx]at P2r;unfold Md Zz at P2r;have cr:=Zdg T g2 o wb i nb YL a2 s ra r Xq fl Yv ZE K2.Yn (by rw[<-ea,<-es];exact N2) W2 gz (by omega) (by rw[qS];exact yD) (by rw[Ze3];exact tT) Eb hr2 hr3 (by rw[Zg8];omega) (by rw[By];omega);rw[<-es,<-e1]at cr;unfold Zz at cr;simp -implicitDefEqProofs only[go_sem,f0,f1,P2r];refine cr.use ?_;rintro v' g3 ⟨o3,a3,WA3,k3,N3,W3⟩;have P3:=(ZR N3.ZX.2 N3.pt.store.len).Zs;rcases N3.pt.Zs.fn with⟨c1,c2⟩|⟨c1,f,l,c2⟩
   .rw[c2]at P3;simp -implicitDefEqProofs only[go_sem,f0,f1,P3];exact⟨c1,o3,a3,WA3,K2.trans k3,N3,W3⟩
   .rw[c2]at P3;simp -implicitDefEqProofs only[go_sem,f0,f1,P3];rw[if_pos c1];exact⟨o3,a3,WA3,K2.trans k3,N3,W3⟩
  | none=>
   have hn:s.Zh=aI:=by
    have:=N2.pt.Zh;rw[Kx]at this
    cases hx:s.Zh with
    | none=>rfl
    | some r=>rw[hx]at this;exact this.elim
   rw[Kx]at P2r;unfold Md at P2r;have r5a:hc g2 ⟨kb,0,aI⟩=aa (Q O n.Zq.p.r):=Zn x5.2;have r5b:hc g2 ⟨kb,1,aI⟩=aa (Q O n.Zq.p.n):=Zn x5.2;rw[sme]at qU;by_cases c:0<n.Zq.p.r/\n.Zq.p.n≠n.me
   case neg=>
    have e1:Z9 s=⟨s,[],[]⟩:=by unfold Z9;rw[hn];simp only;rw[qS,sme,if_neg c]
    rw[e1];have Pw:s.Zs=aI:=by rw[zy];exact ub
    simp -implicitDefEqProofs only[go_sem,f0,f1,P2r];refine VS.mono (N:=fun F' g'=>Zk g2.size g2 g'/\F' 0=au (aa ⟨wb,0,aI⟩)/\F' 1=au (aa ⟨nb,0,aI⟩)/\F' 53=a8 false) ?_ ?_ (fun _ _ _ h=>h) (fun _ _ h=>h)
    .refine VS.z (g2.size) [] (.p 0 (.q 1 (.p 2 (.p 3 (.p 4 (.q 5 (.p 6 (.p 7 (.p 8 (.q 9 (.p 10 (.p 11 (.p 12 .nil))))))))))))) mixed (by kernel_rfl) ?_;by_cases c1:0<n.Zq.p.r
     .have c2:n.Zq.p.n=n.me:=by
       rcases Decidable.em (n.Zq.p.n=n.me) with e|e
       .exact e
       .exact (c ⟨c1,e⟩).elim
      simp -implicitDefEqProofs only[go_sem,f0,f1,f5,r5a,r5b,qU,l5,TF,c1,c2]
      try exact Zk.refl _ _
     .simp -implicitDefEqProofs only[go_sem,f0,f1,f5,r5a,r5b,qU,l5,TF,c1]
      try exact Zk.refl _ _
    rintro F3 g3 ⟨b3,f0,f1,f53⟩;have TE:=ZY K2.Yn b3;simp -implicitDefEqProofs only[go_sem,f53];exact⟨f0,f1,Pw,o,a2,Xq,K2.trans (Z1 TE),N2.Zo TE,by rw[a7];exact W2.Zo TE⟩
   have e1:Z9 s=⟨s,Wu s,[]⟩:=by unfold Z9;rw[hn];simp only;rw[qS,sme,if_pos c]
   rw[e1];have Pw:s.Zs=aI:=by rw[zy];exact ub
   obtain⟨c1,c2⟩:=c;simp -implicitDefEqProofs only[go_sem,f0,f1,P2r];refine VS.mono (N:=fun F' g'=>Zk g2.size g2 g'/\F' 0=au (aa ⟨wb,0,aI⟩)/\F' 1=au (aa ⟨nb,0,aI⟩)/\F' 5=au (aa ⟨kb,0,aI⟩)/\F' 53=a8 true) ?_ ?_ (fun _ _ _ h=>h) (fun _ _ h=>h)
   .refine VS.z (g2.size) [] (.p 0 (.q 1 (.p 2 (.p 3 (.p 4 (.q 5 (.p 6 (.p 7 (.p 8 (.q 9 (.p 10 (.p 11 (.p 12 .nil))))))))))))) mixed (by kernel_rfl) ?_;simp -implicitDefEqProofs only[go_sem,f0,f1,f5,r5a,r5b,qU,l5,TF,c1,c2]
    try exact Zk.refl _ _
   clear f0 f1 f5;rintro F3 g3 ⟨b3,f0,f1,f5,f53⟩;have TE:=ZY K2.Yn b3;have N3:=N2.Zo TE;have W3:=W2.Zo TE;have K3:=K2.trans (Z1 (S:=JO i) TE);have y5:=x5.Zf TE;obtain⟨pq,cq,zv,_⟩:=Xz.ZP N3.pt.Zx;have zv:a2.Zx=U pq s.Zx.length cq:=zv;have P3q:=(ZR N3.ZX.2 N3.pt.store.len).Zx;rw[zv]at P3q;simp -implicitDefEqProofs only[go_sem,f0,f1,f53,P3q];have hql:s.Zx.length<=10000000000:=by rw[By];exact hq
   refine VS.Yj (fun F g=>F 0=au (aa ⟨wb,0,aI⟩)/\F 1=au (aa ⟨nb,0,aI⟩)/\F 5=au (aa ⟨kb,0,aI⟩)/\F 69=U pq s.Zx.length cq/\F 70=Q O s.Zx.length/\∃(j:Nat) (o':Ow) (Jv:WA),j<=s.Zx.length/\F 71=Q O j/\Kp (JO i) o h o' g/\Z5 o' g wb i nb a2 s/\ZZ o' g wb YL Jv (fl++(Wu s).take j) Yv ZE/\Yb o' g kb (al [Q O n.Zq.p.r,Q O n.Zq.p.n].toArray 102))
    (fun F _=>s.Zx.length-(vi (F 71)).toNat) rfl ⟨f0,f1,f5,rfl,rfl,0,o,Xq,by omega,rfl,K3,N3,by simpa using W3,y5⟩ ?_
   clear f0 f1 f5 f53 P3q N3 W3 K3 y5 TE b3 x5 K2 N2 W2;rintro F4 g4 ⟨f0,f1,f5,f69,f70,j,o4,my,hj,f71,K4,N4,W4,y5⟩;have hfl:(Wu s).length=s.Zx.length:=by unfold Wu;simp
   by_cases ZU:j<s.Zx.length
   .have Z8:(j:Int)<s.Zx.length:=by omega
    obtain⟨pz,cz,CL,ig⟩:=QC N4.pt.Zx.ts;obtain⟨bb,oo,hz3,Tm,Ky⟩:=ig (by intro e;have:s.Zx=[]:=e;rw[this]at ZU;simp at ZU);have CL:a2.Zx=U pz s.Zx.length cz:=CL;rw[zv]at CL;simp only[Value.slice.injEq]at CL;obtain⟨rfl,_,rfl⟩:=CL;subst hz3;have re:rd g4 ⟨bb,oo+j*5,aI⟩ 5=aa (s.Zx[j]).C:=Ky j ZU;obtain⟨x,hx⟩:=ZQ (s.Zx[j]);rw[<-hx]at re;have XC:(Wu s).take (j+1)=(Wu s).take j++[⟨4,s.me,n.Zq.p.n,Jj,QB 0 Jj x,[]⟩]:=by
     rw[Y2 _ j (by rw[hfl];exact ZU)]
     congr 2
     unfold Wu;rw[bA,<-hx,qS]
    obtain⟨g5,zC⟩:=ZQ (g4.push (al x.C.toArray 25):Hp);have k5:Kp Wy o4 g4 o4 g5:=by rw[zC];exact Yt K4.Yn _
    have x7:Yb o4 g5 g4.size (al x.C.toArray 25):=⟨K4.Yn _ (a0 _),by rw[zC];exact Zc⟩
    have e5:=zC.symm;have N5:=N4.Zo k5;have W5:=W4.Zo k5;have z5:=y5.Zf k5;have s5:hc g5 ⟨kb,1,aI⟩=aa (Q O n.Zq.p.n):=Zn z5.2;have sx:rd g5 ⟨g4.size,0,aI⟩ 5=aa [Q O x.k,Q O x.c,Q O x.s,Q O x.n,Q O x.v]:=Zy x7.2 rfl;have re:rd g4 ⟨bb,oo+j*5,aI⟩ 5=aa [Q O x.k,Q O x.c,Q O x.s,Q O x.n,Q O x.v]:=re;have e5:g4.push (al [Q O x.k,Q O x.c,Q O x.s,Q O x.n,Q O x.v].toArray 25)=g5:=e5;have P5:=ZR N5.ZX.2 N5.pt.store.len;have Mf:=Za N5.ZX.2;simp -implicitDefEqProofs only[go_sem,f0,f1,f5,f69,f70,f71,Z8,re,e5,s5,sx];have rl:(fl++(Wu s).take j).length<=1000000000000:=by
     rw[a5,List.length_take];omega
    refine (VR T g5 o4 wb nb YL s.me my _ Yv ZE n.Zq.p.n ⟨4,0,0,Jj,QB 0 Jj x,[]⟩ (U aI 0 0) k5.Yn W5 P5.me Mf (Im.nil _ _ _ _) rl).use ?_;rintro v' g6 ⟨o6,WA6,k6,_,W6⟩;simp -implicitDefEqProofs only[go_sem,f71];unfold XK;refine⟨⟨f0,f1,f5,f69,f70,j+1,o6,WA6,ZU,rfl,(K4.trans (Z1 k5)).trans (k6.mono fun t q=>by rcases q with rfl|rfl<;>simp[JO]),N5.Zf k6 (by rintro t (rfl|rfl)<;>simp[Tg.of]),by rw[XC,<-ba];exact W6,z5.Zf k6⟩,?_⟩;simp only[vi,Zr,↓reduceIte,f71];omega
   .have Xp:¬(j:Int)<s.Zx.length:=by omega
    obtain rfl:j=s.Zx.length:=by omega
    rw[List.take_of_length_le (by rw[hfl];exact a0 _)]at W4;simp -implicitDefEqProofs only[go_sem,f70,f71,Xp];exact⟨f0,f1,Pw,o4,a2,my,K4,N4,W4⟩
 clear f0 f1 f5 x5 K2 N2 W2 gz;rintro F3 g3 ⟨f0,f1,Pw,o3,a3,WA3,K3,N3,W3⟩;rw[if_neg (by rw[Pw];simp)];obtain⟨m,hm⟩:=ZQ ((Z9 s).n);obtain⟨ls,hls⟩:=ZQ ((Z9 s).ls);rw[<-hm]at Ze4 Zmd eme Zha ZuV N3 Pw;rw[<-hls]at W3 els;rw[<-hm,<-hls];clear hm hls;have hmt:0<=m.Ys/\m.Ys<5:=by rw[Ze4,Ze2];exact ht
 have ej:m.ZB.length<=100000000000:=by rw[Zmd,Zg8];exact hl
 have hll:(aU ls)<=10000000200:=by rw[By]at els;omega
 refine VS.seq (VS.mono (N:=fun F' g'=>F' 0=au (aa ⟨wb,0,aI⟩)/\F' 1=au (aa ⟨nb,0,aI⟩)/\Kp (JO i) o h o3 g'/\Z5 o3 g' wb i nb a3 (JW m)/\ZZ o3 g' wb YL WA3 (fl++ls) Yv ZE) ?_ ?_ (fun _ _ _ h=>h) (fun _ _ h=>h))
 .refine Qw _ _ _ _ _ _ rfl ?_;have P3:=ZR N3.ZX.2 N3.pt.store.len;have P3t:=P3.Ys;have TF:=Za N3.ZX.2;have et:(m.Ys+1).tmod 5=(m.Ys+1)%5:=Int.tmod_eq_emod_of_nonneg (by omega);obtain⟨g4,w4,N4,k4⟩:=Yi.write (a:=a3) (n:=JW m) { N3.pt with } K3.Yn N3.ZX ((XH N3.ZX.2 N3.pt.store.len).Ys ((m.Ys+1)%5));simp -implicitDefEqProofs only[go_sem,f0,f1,P3t,et,w4,TF];exact⟨K3.trans (k4.mono fun t q=>.inr (.inr (.inr (by rw[q];rfl)))),N4,W3.Zf k4 (by rintro t rfl;simp[Tg.of])⟩
 clear f0 f1 K3 N3 W3;rintro F4 g4 ⟨f0,f1,K4,N4,W4⟩;obtain⟨q,hq0⟩:=ZQ (JW m);have ql:q.ZB=m.ZB:=by rw[hq0];rfl
 rw[<-hq0]at N4 ⊢;clear hq0;have P4:=ZR N4.ZX.2 N4.pt.store.len;have P4t:=P4.Ys;have Zhc:=P4.me;have P4o:=P4.bK;have P4l:=P4.ZB;obtain⟨pl,cl,Mp,_⟩:=Xz.ZP N4.pt.ZB;have Mp:a3.ZB=U pl q.ZB.length cl:=Mp;rw[Mp]at P4l;have TF:=Za N4.ZX.2;rw[<-ql]at ej;refine Qw _ _ _ _ _ _ rfl ?_;simp -implicitDefEqProofs only[go_sem];by_cases c:q.Ys≠q.me/\q.ZB.length<40
 case neg=>
  have e1:UI q=[]:=by unfold UI;rw[if_neg c]
  rw[e1,a7];refine VS.mono (N:=fun F' g'=>Zk g4.size g4 g'/\F' 109=a8 false) ?_ ?_ (fun _ _ _ h=>h) (fun _ _ h=>h)
  .refine VS.z (g4.size) [] (.p 0 (.p 1 (.p 2 (.q 3 (.p 4 (.p 5 (.p 6 (.q 7 (.p 8 (.p 9 (.p 10 (.p 11 (.p 12 (.q 13 (.p 14 (.p 15 (.p 16 .nil))))))))))))))))) mixed (by kernel_rfl) ?_;by_cases c1:q.Ys=q.me
   .simp -implicitDefEqProofs only[go_sem,f0,f1,P4t,Zhc,P4l,TF,c1]
    try exact Zk.refl _ _
   .have c2:¬(q.ZB.length:Int)<40:=by
     intro e;exact c ⟨c1,by omega⟩
    simp -implicitDefEqProofs only[go_sem,f0,f1,P4t,Zhc,P4l,TF,c1,c2]
    try exact Zk.refl _ _
  rintro F5 g5 ⟨b5,f109⟩;have DJ:=ZY K4.Yn b5;simp -implicitDefEqProofs only[go_sem,f109];exact⟨o3,a3,WA3,K4.trans (Z1 DJ),N4.Zo DJ,W4.Zo DJ⟩
 have e1:UI q=[⟨5,q.me,q.Ys,Vi q,QB q.ZB.length Jj IB,[]⟩]:=by unfold UI;rw[if_pos c]
 rw[e1];obtain⟨c1,c2⟩:=c;have c2:(q.ZB.length:Int)<40:=by omega
 refine VS.mono (N:=fun F' g'=>Zk g4.size g4 g'/\F' 0=au (aa ⟨wb,0,aI⟩)/\F' 1=au (aa ⟨nb,0,aI⟩)/\F' 109=a8 true) ?_ ?_ (fun _ _ _ h=>h) (fun _ _ h=>h)
 .refine VS.z (g4.size) [] (.p 0 (.p 1 (.p 2 (.q 3 (.p 4 (.p 5 (.p 6 (.q 7 (.p 8 (.p 9 (.p 10 (.p 11 (.p 12 (.q 13 (.p 14 (.p 15 (.p 16 .nil))))))))))))))))) mixed (by kernel_rfl) ?_;simp -implicitDefEqProofs only[go_sem,f0,f1,P4t,Zhc,P4l,TF,c1,c2]
  try exact Zk.refl _ _
 clear f0 f1;rintro F5 g5 ⟨b5,f0,f1,f109⟩;have DJ:=ZY K4.Yn b5;have N5:=N4.Zo DJ;have W5:=W4.Zo DJ;have K5:Kp (JO i) o h o3 g5:=K4.trans (Z1 DJ);have P5:=ZR N5.ZX.2 N5.pt.store.len;have P5o:=P5.bK;have Mf:=Za N5.ZX.2;obtain⟨g6,Ly⟩:=ZQ (g5.push (al [Q O q.Zq.p.r,Q O q.Zq.p.n].toArray 102):Hp);have k6:Kp Wy o3 g5 o3 g6:=by rw[Ly];exact Yt K5.Yn _
 have x8:Yb o3 g6 g5.size (al [Q O q.Zq.p.r,Q O q.Zq.p.n].toArray 102):=⟨K5.Yn _ (a0 _),by rw[Ly];exact Zc⟩
 have e6:=Ly.symm;have N6:=N5.Zo k6;have W6:=W5.Zo k6;have K6:Kp (JO i) o h o3 g6:=K5.trans (Z1 k6);have P6h:=(ZR N6.ZX.2 N6.pt.store.len).YX;have zw:=Za N6.ZX.2;have l8:=Za x8.2;have r8:rd g6 ⟨g5.size,0,aI⟩ 2=aa [Q O q.Zq.p.r,Q O q.Zq.p.n]:=Zy x8.2 rfl;obtain⟨kb,hkb⟩:=ZQ (g5.size);simp -implicitDefEqProofs only[go_sem,f0,f1,f109,P5o,Mf,e6];rw[<-hkb]at x8 l8 r8 ⊢;refine VS.mono (N:=fun F' g'=>Zk g6.size g6 g'/\F' 0=au (aa ⟨wb,0,aI⟩)/\F' 1=au (aa ⟨nb,0,aI⟩)/\F' 8=au (aa ⟨kb,0,aI⟩)/\F' 120=a8 (decide (ZL q.Zq.p q.YX))) ?_ ?_ (fun _ _ _ h=>h) (fun _ _ h=>h)
 .refine VS.z (g6.size) [5] (.p 0 (.p 1 (.p 2 (.q 3 (.q 4 (.w 5 .nil)))))) mixed (by kernel_rfl) ?_;simp -implicitDefEqProofs only[go_sem,f0,f1,P6h,r8,zw,l8];refine (Lx T g6 q.YX q.Zq.p).use ?_;rintro _ g ⟨rfl,b⟩;simp -implicitDefEqProofs only[go_sem,b];exact⟨f0,f1⟩
 clear f0 f1;rintro F7 g7 ⟨b7,f0,f1,f8,f120⟩;have kb7:=ZY K6.Yn b7;have N7:=N6.Zo kb7;have W7:=W6.Zo kb7;have K7:Kp (JO i) o h o3 g7:=K6.trans (Z1 kb7);have y8:=x8.Zf kb7;have P7h:=(ZR N7.ZX.2 N7.pt.store.len).YX;have Zhd:=Za N7.ZX.2;have m8:=Za y8.2;by_cases c6:ZL q.Zq.p q.YX
 all_goals
 first
 | (have eb:Vi q=q.YX:=by unfold Vi;rw[if_pos c6]
    obtain⟨g8,EI⟩:=ZQ (g7.setIfInBounds kb (al [Q O q.YX.r,Q O q.YX.n].toArray 102):Hp);have w8:wr g7 ⟨kb,0,aI⟩ [Q O q.YX.r,Q O q.YX.n]=aa g8:=by rw[Ye y8.2 0 _,EI];rfl
    have k8:Kp Wy o3 g5 o3 g8:=by rw[EI];exact (k6.trans kb7).wh (by omega) _
    have z8:Yb o3 g8 kb (al [Q O (Vi q).r,Q O (Vi q).n].toArray 102):=⟨y8.1,by rw[EI,eb];exact ZS y8.2⟩
    simp -implicitDefEqProofs only[go_sem,f0,f1,f8,f120,c6,P7h,Zhd,w8])
 | (have eb:Vi q=q.Zq.p:=by unfold Vi;rw[if_neg c6]
    obtain⟨g8,EI⟩:=ZQ (g7:Hp);have k8:Kp Wy o3 g5 o3 g8:=by rw[EI];exact k6.trans kb7
    have z8:Yb o3 g8 kb (al [Q O (Vi q).r,Q O (Vi q).n].toArray 102):=⟨y8.1,by rw[EI,eb];exact y8.2⟩
    simp -implicitDefEqProofs only[go_sem,f120,c6];rw[<-EI])
 all_goals
  have N8:=N5.Zo k8;have W8:=W5.Zo k8;have K8:Kp (JO i) o h o3 g8:=K5.trans (Z1 k8);have P8:=ZR N8.ZX.2 N8.pt.store.len;have P8t:=P8.Ys;have P8l:=P8.ZB;rw[Mp]at P8l;have Zdl:=Za N8.ZX.2;have n8:=Za z8.2;have s8:rd g8 ⟨kb,0,aI⟩ 2=aa [Q O (Vi q).r,Q O (Vi q).n]:=Zy z8.2 rfl;refine VS.z (g8.size) [14] (.p 0 (.p 1 (.p 2 (.p 3 (.p 4 (.q 5 (.q 6 (.p 7 (.p 8 (.p 9 (.q 10 (.p 11 (.p 12 (.p 13 (.w 14 .nil))))))))))))))) mixed (by kernel_rfl) ?_;simp -implicitDefEqProofs only[go_sem,f0,f1,f8,P8t,P8l,s8,Zdl,n8];have rl:(fl++ls).length<=1000000000000:=by rw[a5];omega
  refine (VR T g8 o3 wb nb YL q.me WA3 _ Yv ZE q.Ys ⟨5,0,0,Vi q,QB q.ZB.length Jj IB,[]⟩ (U aI 0 0) K8.Yn W8 P8.me Zdl (Im.nil _ _ _ _) rl).use ?_;rintro v' g9 ⟨o9,WA9,k9,_,W9⟩;simp -implicitDefEqProofs only[go_sem];exact⟨o9,a3,WA9,K8.trans (k9.mono fun t q=>by rcases q with rfl|rfl<;>simp[JO]),N8.Zf k9 (by rintro t (rfl|rfl)<;>simp[Tg.of]),by rw[<-ba];exact W9⟩
structure jd(n:Nd)(l:YF)(fl ZE:Nat):Prop where
 Z7:0<=l.Z7/\l.Z7<=7
 room:fl<=1000000000000
 XO:n.Zq.l.length<=1000000
 data:(aU n.data)<=1000000
 Zi:n.Zi.length<=100000000000
 ZB:n.ZB.length<=100000000000
 ZE:ZE<=100000000000
 Zx:n.Zx.length<=1000000000000
 Zj:n.Zj.length<=1000000000000
 Rg:∀r s,n.Zh=aa r->((Yh r.Y5 s).getD []).length<=1000000
structure zD(n:Nd)(fl:Nat):Prop where
 room:fl<=800000000000
 XO:n.Zq.l.length<=1000000
 data:(aU n.data)<=1000000
 SG:∀r,n.Zh=aa r->(∀x∈r.ZI,x.2.length<=1000000)/\(∀x∈r.ZI,∀v∈x.2,v.Zu<=1000000)/\r.ZI.length<=1000000000000
 ZB:n.ZB.length<=100000000000
 Zx:n.Zx.length<=10000000000
 Ys:0<=n.Ys/\n.Ys<5
def OS:Nd->List YF->Nat->Nat->Prop
 | _,[],_,_=>True
 | n,l :: k,f,t=>n.Zs.isSome=true\/(jd { n with Zg:=k } l f t/\OS (Zw { n with Zg:=k } l).n k (f+(Zw { n with Zg:=k } l).ls.length) (t+(Zw { n with Zg:=k } l).ts.length))
structure je(n:Nd)(fl ZE:Nat):Prop where
 data:(aU n.data)<=1000000
 room:fl<=1000000000000
 dr:n.Zs=aI->OS n n.Zg fl ZE
 du:n.Zs=aI->(ZA n n.Zg).n.Zs=aI->zD (ZA n n.Zg).n (fl+(ZA n n.Zg).ls.length)
theorem Bz(n:Nd)(l:YF)(k:List YF):(Zw { n with Zg:=k } l).n.Zg=k:=by
 have hL:∀(m:Nat) (x:Nd),(Yg m x).1.Zg=x.Zg:=by
  intro m
  induction m with
  | zero=>intro x;rfl
  | succ m ih=>
   intro x;unfold Yg;split
   .rfl
   .simp only;rw[ih];rfl
 have hl:∀(x:Nd) s c,(Jg x s c).n.Zg=x.Zg:=fun x s c=>by unfold Jg;simp only;rw[hL];rfl
 have hn:∀x:Nd,(Xs x l).Zg=x.Zg:=fun x=>by unfold Xs;split<;>rfl
 unfold Zw;split
 .unfold YB;split;· rfl
  split;· rfl
  split<;>rfl
 split
 .unfold Yl;split
  .rfl
  .split
   .split<;>rfl
   .split;· rfl
    split
    .rw[hl];rfl
    .rfl
 split
 .unfold asked;split;· rfl
  split;· rfl
  split<;>rfl
 split
 .unfold add;simp only;split<;>rfl
 split
 .unfold Qp;split
  .simp only;rw[hn]
  .simp only;rw[hn]
 split
 .rw[hl]
 .simp only;rw[hn]
theorem Zdm{t:Tg}{v:a9}{l:YF}{k:List YF}(s:Wv o t h v (l :: k)):
  ∃w b off c,v=U (aa ⟨b,off,aI⟩) ((aU k)+1) c/\(aU k)+1<=c/\rd h ⟨b,off,aI⟩ 14=aa (XN l w)/\TD o h w l.vs/\Wv o t h (U (if c=1 then aa ⟨b,off,aI⟩ else aa ⟨b,off+14,aI⟩) (aU k) (c-1)) k:=by
 obtain⟨xs,h1,h2,h3⟩:=s
 cases xs with
 | nil=>cases h1
 | cons x xs=>
  obtain⟨l',w⟩:=x;simp only[List.map_cons,List.cons.injEq]at h1;obtain⟨rfl,rfl⟩:=h1;have h2':=h2;rcases h2 with⟨_,e,_⟩|⟨b,off,cap,pre,ZG,g1,rfl,g3,g4,g5,g6,g7⟩
  .cases e
  refine⟨w,b,off,cap,by rw[bc];rfl,by rw[bc];exact g7,?_,h3 (l',w) Hg,?_⟩
  .have e1:ZT IE ((l',w) :: xs)=XN l' w++ZT IE xs:=by simp[ZT,IE]
   have g5':(ZT IE ((l',w) :: xs)).length=((aU xs)+1)*14:=g5;rw[YJ g3 (by simp only[a5];omega),<-g4,List.drop_left,e1,ba];rfl
  .refine⟨xs,rfl,?_,fun x hx=>h3 x (by simp[hx])⟩;have tl:=h2'.tail (k:=1) Hg;have e1:ZT IE ((l',w) :: xs)=XN l' w++ZT IE xs:=by simp[ZT,IE]
   rw[e1]at tl;have e2:(XN l' w++ZT IE xs).drop (1*14)=ZT IE xs:=rfl;rw[e2]at tl
   simpa [XJ] using tl
def ce(nb:Nat)(g:Hp):Nat:=match hc g ⟨nb,54,aI⟩ with
 | some (U _ m _)=>m
 | _=>0
theorem cj{i nb:Nat}{a:NA}{n:Nd}(N:Z5 o h wb i nb a n):ce nb h=n.Zg.length:=by
 obtain⟨xs,h1,h2,_⟩:=N.pt.Zg;obtain⟨p,c,h3,_⟩:=h2.ZP;have:=(ZR N.ZX.2 N.pt.store.len).Zg;unfold ce;rw[this,h3,<-h1,bc]
theorem cC{i:Nat}(t:Tg)(q:Zg3 i t):JO i t:=by
 rcases q with rfl|rfl|rfl|rfl|rfl
 .exact .inl rfl
 .exact .inr (.inl rfl)
 all_goals exact .inr (.inr (.inr rfl))
set_option maxHeartbeats 4000000 in
theorem zE(T:bp)(h:Hp)(o:Ow)(wb i nb:Nat)(YL:Nat->Nat)(a:NA)(n:Nd)(Xq:WA)(fl:List YF)(Yv:Nat->Int)(ZE:List Ps)(d:Vp o h)(N:Z5 o h wb i nb a n)(W:ZZ o h wb YL Xq fl Yv ZE)(tb:eG o h)(ok:je n (aU fl) (aU ZE)):
  Zd bk T 52 #[Zz wb,Zz nb] h fun v' h'=>∃o' a' Jv,Kp (JO i) o h o' h'/\Z5 o' h' wb i nb a' (step n).n/\ZZ o' h' wb YL Jv (fl++(step n).ls) Yv (ZE++(step n).ts):=by
 refine Zd.XS [_,_] Tryz.func52 ?_;unfold Zz;have P:=ZR N.ZX.2 N.pt.store.len;have TF:=Za N.ZX.2;have Pu:=P.up
 cases hu:n.up with
 | false=>
  have e1:step n=⟨n,[],[]⟩:=by unfold step;rw[hu];rfl
  rw[hu]at Pu;rw[e1,a7,a7];simp -implicitDefEqProofs only[go_sem,Pu];exact⟨o,a,Xq,Kp.refl d _,N,W⟩
 | true=>
 rw[hu]at Pu;have Pp:=P.Zs
 cases hp:n.Zs with
 | some p=>
  have e1:step n=YK (ZO n) p:=by unfold step;rw[hu,hp];rfl
  rw[e1];have Pn:=N.pt.Zs;rw[hp]at Pn;obtain⟨f,l,hf⟩:∃f l,a.Zs=.func (.func f) #[] l:=by
   rcases Pn.fn with⟨c,_⟩|⟨_,c⟩
   .cases c
   .exact c
  have Pp':=Pp;rw[hf]at Pp';obtain⟨pd,cd,Pw⟩:=N.pt.data.1.ZP;have Pw:a.data=U pd (aU n.data) cd:=Pw;have Pt:=P.tape;rw[Pw]at Pt;have Nd:=N.pt.data;rw[Pw]at Nd;simp -implicitDefEqProofs only[go_sem,Pu,Pp',Pt];refine (Zcf T h _ n.YZ n.data Nd.bs (by have:=ok.data;omega)).use ?_;rintro v1 h1 ⟨b1,s1⟩;have kb:=ZY d b1;have N1:=N.Zo kb;have W1:=W.Zo kb;obtain⟨p1,c1,rfl,i1⟩:∃p1 c1,v1=.tuple [bg [U p1 (ZO n).data.length c1,Q O (ZO n).YZ].toArray,Q O (if YW n.data n.YZ then 0 else 5)].toArray/\Pv o h1 (U p1 (ZO n).data.length c1) (ZO n).data:=by
   unfold gQ at s1;by_cases c:YW n.data n.YZ
   .rw[if_pos (show (aU n.data)<=100000/\0<=n.YZ/\n.YZ<=(aU n.data) from c)]at s1;obtain⟨w,rfl,o1⟩:=s1;obtain⟨p1,c1,rfl,_⟩:=o1.bs.open;have e2:(ZO n).data=n.data:=by unfold ZO;simp only;rw[if_pos c]
    have e3:(ZO n).YZ=(aU n.data):=by unfold ZO;simp only;rw[if_pos c]
    rw[e2,e3,if_pos c];exact⟨p1,c1,rfl,Im.WK o1.Zq (fun b hb=>d b hb),o1.byte⟩
   .rw[if_neg (show ¬((aU n.data)<=100000/\0<=n.YZ/\n.YZ<=(aU n.data)) from c)]at s1;have e2:(ZO n).data=[]:=by unfold ZO;simp only;rw[if_neg c]
    have e3:(ZO n).YZ=0:=by unfold ZO;simp only;rw[if_neg c]
    rw[e2,e3,if_neg c];exact⟨aI,0,s1,Im.nil _ _ _ _,fun x hx=>by cases hx⟩
  obtain⟨g2,w2,N2,k2⟩:=Yi.write (a:={ a with data:=U p1 (ZO n).data.length c1 }) (n:={ n with data:=(ZO n).data,YZ:=(ZO n).YZ }) { N1.pt with data:=i1 } kb.Yn N1.ZX ((XH N1.ZX.2 N1.pt.store.len).tape (U p1 (ZO n).data.length c1) (ZO n).YZ rfl);have Q8:=Za N1.ZX.2;have Ui:=Za N2.ZX.2;have jf:hc g2 ⟨nb,55,aI⟩=aa a.Zs:=(ZR N2.ZX.2 N2.pt.store.len).Zs;have pn:Vj o g2 wb i nb a.Zh .nilFunc aI:=rfl;obtain⟨g3,w3,N3,k3⟩:=Yi.write (a:={ a with data:=U p1 (ZO n).data.length c1,Zs:=.nilFunc }) (n:=ZO n) { N2.pt with Zs:=pn } k2.Yn N2.ZX ((XH N2.ZX.2 N2.pt.store.len).Zs .nilFunc rfl);have K3:Kp (JO i) o h o g3:=((Z1 kb).trans (k2.mono fun t q=>.inr (.inr (.inr (by rw[q];rfl))))).trans (k3.mono fun t q=>.inr (.inr (.inr (by rw[q];rfl))));have W3:=(W1.Zf k2 (by rintro t rfl;simp[Tg.of])).Zf k3 (by rintro t rfl;simp[Tg.of]);have Pn3:Vj o g3 wb i nb a.Zh a.Zs (aa p):=((Pn.Zf kb (by rintro⟨⟩)).Zf k2 Ih).Zf k3 Ih;clear hf Pp';rw[show (YK (ZO n) p).ts=[] from by cases p<;>rfl,a7];have rm:=ok.room;have hns:(ZO n).Zs=aI:=rfl
  cases p with
  | VB acc to b vs=>
   obtain⟨b6,b4,b9,u,h1',h2',h3',h4',h5'⟩:=Pn3;have cf:=Zc2 T g3 o wb i nb YL Xq fl Yv ZE _ (ZO n) acc to b vs b6 b4 b9 u k3.Yn N3 W3 rm h2' h3' h4' h5';rw[h1']at jf;unfold TM at jf;simp only[b0]at jf;unfold Zz at jf cf;simp -implicitDefEqProofs only[go_sem,w2,Q8,jf,w3,Ui];refine cf.use ?_;rintro v' h' ⟨o',a',Jv,k,N',W'⟩;simp -implicitDefEqProofs only[go_sem];exact⟨o',a',Jv,K3.trans (k.mono cC),N',W'⟩
  | TC acc to x=>
   obtain⟨b6,b4,b9,u,h1',h2',h3',h4',h5'⟩:=Pn3;have cf:=Zc3 T g3 o wb i nb YL Xq fl Yv ZE _ (ZO n) acc to x b6 b4 b9 u k3.Yn N3 W3 rm h2' h3' h4' h5';rw[h1']at jf;unfold TM at jf;simp only[b0]at jf;unfold Zz at jf cf;simp -implicitDefEqProofs only[go_sem,w2,Q8,jf,w3,Ui];refine cf.use ?_;rintro v' h' ⟨o',a',Jv,k,N',W'⟩;simp -implicitDefEqProofs only[go_sem];exact⟨o',a',Jv,K3.trans (k.mono cC),N',W'⟩
  | Zq acc vs cur=>
   obtain⟨b6,b4,b7,b5,h1',cf⟩:=Zc4 T g3 o wb i nb _ (ZO n) acc vs cur a.Zs k3.Yn N3 hns Pn3;rw[h1']at jf;unfold TM at jf;simp only[b0]at jf;unfold Zz at jf cf;rw[show (YK (ZO n) (.Zq acc vs cur)).ls=[] from rfl,a7];simp -implicitDefEqProofs only[go_sem,w2,Q8,jf,w3,Ui];refine cf.use ?_;rintro v' h' ⟨o',a',k,N'⟩;simp -implicitDefEqProofs only[go_sem];exact⟨o',a',Xq,K3.trans (k.mono fun t q=>by rcases q with rfl|rfl|rfl<;>exact .inr (.inr (.inr rfl))),N',W3.Zf k (fun t q=>by rcases q with rfl|rfl|rfl<;>simp[Tg.of])⟩
 | none=>
  have Pp0:a.Zs=.nilFunc:=by have:=N.pt.Zs;rw[hp]at this;exact this
  have Pp1:=P.Zs;rw[Pp0]at Pp1;simp -implicitDefEqProofs only[go_sem,Pu,Pp1];obtain⟨D,hD⟩:=ZQ (ZA n n.Zg);have dr:=ok.dr hp;have du:=ok.du hp;have e1:step n=if D.n.Zs.isSome=true then D else ⟨(Yp D.n).n,D.ls++(Yp D.n).ls,D.ts++(Yp D.n).ts⟩:=by unfold step;rw[hu,hp,hD];rfl
  rw[<-hD]at du;rw[e1];refine VS.Yj (fun F g=>F 0=au (aa ⟨wb,0,aI⟩)/\F 1=au (aa ⟨nb,0,aI⟩)/\∃(o':Ow) (a':NA) (Jv:WA) (m:Nd) (ls:List YF) (ts:List Ps),Kp (JO i) o h o' g/\Z5 o' g wb i nb a' m/\ZZ o' g wb YL Jv (fl++ls) Yv (ZE++ts)/\D=⟨(ZA m m.Zg).n,ls++(ZA m m.Zg).ls,ts++(ZA m m.Zg).ts⟩/\OS m m.Zg ((aU fl)+(aU ls)) ((aU ZE)+(aU ts)))
   (fun _ g=>ce nb g) rfl ⟨rfl,rfl,o,a,Xq,n,[],[],Kp.refl d _,N,by simpa using W,by rw[hD];rfl,by simpa using dr⟩ ?_
  clear Pu Pp Pp0 Pp1 P TF N W d;rintro F1 g1 ⟨f0,f1,o1,a1,WA1,m,ls,ts,K1,N1,W1,hDm,dr1⟩;have P1:=ZR N1.ZX.2 N1.pt.store.len;have Q8:=Za N1.ZX.2;have P1i:=P1.Zg;have P1p:=P1.Zs;have stop:(m.Zg=[]\/m.Zs.isSome=true)->D=⟨m,ls,ts⟩:=by
   intro q;have e2:ZA m m.Zg=⟨m,[],[]⟩:=by
    cases hmi:m.Zg with
    | nil=>unfold ZA;rw[<-hmi]
    | cons l k=>
     rcases q with q|q
     .rw[hmi]at q;cases q
     .unfold ZA;rw[if_pos q,<-hmi]
   rw[hDm,e2];simp
  rcases N1.pt.Zs.fn with⟨c1,c2⟩|⟨c1,f,fl',c2⟩
  .rw[c2]at P1p
   cases hmi:m.Zg with
   | nil=>
    have eD:=stop (.inl hmi);obtain⟨p,c,hi⟩:∃p c,a1.Zg=U p 0 c:=by
     have:=N1.pt.Zg;rw[hmi]at this;obtain⟨xs,h1,h2,_⟩:=this;obtain⟨p,c,h3,_⟩:=h2.ZP;rw[List.map_eq_nil_iff]at h1;subst h1;exact⟨p,c,h3⟩
    rw[hi]at P1i;have dok:=du (by rw[eD];exact c1);rw[eD]at dok;rw[eD,if_neg (by rw[c1];simp)];have cd:=Zdk T g1 o1 wb i nb YL a1 m WA1 (fl++ls) Yv (ZE++ts) K1.Yn N1 W1 (tb.Zf K1) c1 (by rw[a5];exact dok.room) dok.XO dok.data dok.SG dok.ZB dok.Zx dok.Ys;unfold Zz at cd;simp -implicitDefEqProofs only[go_sem,f0,f1,P1i,P1p];refine cd.use ?_;rintro v' g2 ⟨o2,a2,WA2,k2,N2,W2⟩;simp -implicitDefEqProofs only[go_sem];have edt:(Yp m).ts=[]:=by
     unfold Yp;split
     .exact (Mg _).2.2.2.2.2
     .rfl
    refine⟨o2,a2,WA2,K1.trans k2,N2,?_⟩;rw[edt,a7,<-ba];exact W2
   | cons l k=>
    have NI:=N1.pt.Zg;rw[hmi]at NI;obtain⟨w,b,off,c,hi,Wr,Ky,iv,tl⟩:=Zdm NI;rw[hi]at P1i;rw[hmi]at dr1;have hk:jd { m with Zg:=k } l ((aU fl)+(aU ls)) ((aU ZE)+(aU ts))/\OS (Zw { m with Zg:=k } l).n k ((aU fl)+(aU ls)+(Zw { m with Zg:=k } l).ls.length) ((aU ZE)+(aU ts)+(Zw { m with Zg:=k } l).ts.length):=by
     rcases dr1 with q|q
     .rw[c1]at q;cases q
     .exact q
    obtain⟨hk,dr2⟩:=hk;have eH:D=⟨(ZA (Zw { m with Zg:=k } l).n k).n,(ls++(Zw { m with Zg:=k } l).ls)++(ZA (Zw { m with Zg:=k } l).n k).ls,(ts++(Zw { m with Zg:=k } l).ts)++(ZA (Zw { m with Zg:=k } l).n k).ts⟩:=by
     rw[hDm,hmi];have e2:ZA m (l :: k)=⟨(ZA (Zw { m with Zg:=k } l).n k).n,(Zw { m with Zg:=k } l).ls++(ZA (Zw { m with Zg:=k } l).n k).ls,(Zw { m with Zg:=k } l).ts++(ZA (Zw { m with Zg:=k } l).n k).ts⟩:=by
      rw[ZA];rw[if_neg (by rw[c1];simp)]
     rw[e2];simp
    have NH:=Bz m l k;clear stop dr1 hDm;obtain⟨pw,cw,rfl⟩:=iv.ZP;obtain⟨g2,Wn⟩:=ZQ (g1.push (al (XN l (U pw (aU l.vs) cw)).toArray 135):Hp);have k2:Kp Wy o1 g1 o1 g2:=by rw[Wn];exact Yt K1.Yn _
    have x5:Yb o1 g2 g1.size (al (XN l (U pw (aU l.vs) cw)).toArray 135):=⟨K1.Yn _ (a0 _),by rw[Wn];exact Zc⟩
    have e2:=Wn.symm;have N2:=N1.Zo k2;have W2:=W1.Zo k2;have P2i:=(ZR N2.ZX.2 N2.pt.store.len).Zg;rw[hi]at P2i;have Ui:=Za N2.ZX.2;obtain⟨vi',hvi⟩:∃v:a9,v=U (if c=1 then aa ⟨b,off,aI⟩ else aa ⟨b,off+14,aI⟩) (aU k) (c-1):=⟨_,rfl⟩
    have tl2:Wv o1 (.Zg i) g2 vi' k:=by rw[hvi];exact tl.Zf k2 (fun q=>q.elim)
    obtain⟨g3,w3,N3,k3⟩:=Yi.write (a:={ a1 with Zg:=vi' }) (n:={ m with Zg:=k }) { N2.pt with Zg:=tl2 } k2.Yn N2.ZX ((XH N2.ZX.2 N2.pt.store.len).Zg vi' (by rw[hvi];rfl));rw[hvi]at w3;have y5:=x5.Zf k3;have W3:=W2.Zf k3 (by rintro t rfl;simp[Tg.of]);have r5:rd g3 ⟨g1.size,0,aI⟩ 14=aa (XN l (U pw (aU l.vs) cw)):=Zy y5.2 rfl;have K3:Kp (JO i) o h o1 g3:=(K1.trans (Z1 k2)).trans (k3.mono fun t q=>.inr (.inr (.inr (by rw[q];rfl))));have F9:(1:Int)<=c:=nc;have ch:=qI T g3 o1 wb i nb YL _ { m with Zg:=k } WA1 (fl++ls) Yv (ZE++ts) l (U pw (aU l.vs) cw) k3.Yn N3 W3 ((iv.Zf k2).Zf k3) (tb.Zf K3) hk.Z7 (by rw[a5];exact hk.room) hk.XO hk.data hk.Zi hk.ZB (by rw[a5];exact hk.ZE) hk.Zx hk.Zj hk.Rg;unfold Zz XN at ch;unfold XN at Ky e2 r5;simp -implicitDefEqProofs only[go_sem,f0,f1,P1i,P1p,Ky,e2,P2i,Ui,w3,Wr,F9,r5,Nat.add_sub_cancel];refine ch.use ?_;rintro v' g4 ⟨o4,a4,my,k4,N4,W4⟩;simp -implicitDefEqProofs only[go_sem];unfold XK;have in4:=cj N4;have in1:=cj N1;rw[NH]at in4;rw[hmi]at in1;refine⟨⟨f0,f1,o4,a4,my,(Zw { m with Zg:=k } l).n,ls++(Zw { m with Zg:=k } l).ls,ts++(Zw { m with Zg:=k } l).ts,K3.trans k4,N4,by rw[<-ba,<-ba];exact W4,by rw[NH];exact eH,by rw[NH,a5,a5,<-Nat.add_assoc,<-Nat.add_assoc];exact dr2⟩,?_⟩;show ce nb g4<ce nb g1;rw[in4,in1];simp
  .rw[c2]at P1p;have eD:=stop (.inr c1);rw[eD,if_pos c1];obtain⟨p,c,hi⟩:∃p c,a1.Zg=U p m.Zg.length c:=by
    obtain⟨xs,h1,h2,_⟩:=N1.pt.Zg;obtain⟨p,c,h3,_⟩:=h2.ZP;rw[<-h1,bc];exact⟨p,c,h3⟩
   rw[hi]at P1i;by_cases hz:0<m.Zg.length
   .have An:(0:Int)<m.Zg.length:=nc;simp -implicitDefEqProofs only[go_sem,f0,f1,P1i,P1p,An];exact⟨o1,a1,WA1,K1,N1,W1⟩
   .have An:¬(0:Int)<m.Zg.length:=nc;simp -implicitDefEqProofs only[go_sem,f0,f1,P1i,P1p,An];exact⟨o1,a1,WA1,K1,N1,W1⟩
def Sy(t:Tg):Prop:=True
def Zmg(t:Tg):Prop:=∃i,t.of=aa i
theorem YQ{S:Tg->Prop}{o':Ow}{h':Hp}(k:Kp S o h o' h'):Kp Sy o h o' h':=k.mono fun _ _=>trivial
structure QD(o:Ow)(h:Hp)(wb:Nat)(YL:Nat->Nat)(Xq:WA)(w:Wd):Prop where
 wd:ZZ o h wb YL Xq w.Zp w.Yv w.ZE
 nd:∀i,i<5->∃a,Z5 o h wb i (YL i) a (w.Zb i)
theorem QD.Zo{h':Hp}{YL:Nat->Nat}{Xq:WA}{w:Wd}{o':Ow}(A:QD o h wb YL Xq w)(k:Kp Wy o h o' h'):QD o' h' wb YL Xq w:=
 ⟨A.wd.Zo k,fun i hi=>by obtain⟨a,N⟩:=A.nd i hi;exact⟨a,N.Zo k⟩⟩
theorem QD.Ys{o':Ow}{h':Hp}{YL:Nat->Nat}{Xq WA1:WA}{w:Wd}{i:Nat}{a:NA}{n:Nd}{fl:List YF}{Yv:Nat->Int}{ZE:List Ps}(A:QD o h wb YL Xq w)(k:Kp (JO i) o h o' h')(N:Z5 o' h' wb i (YL i) a n)(W:ZZ o' h' wb YL WA1 fl Yv ZE):QD o' h' wb YL WA1 { Zb:=fun j=>if j=i then n else w.Zb j,Zp:=fl,Yv:=Yv,ZE:=ZE }:=by
 refine⟨W,fun j hj=>?_⟩;by_cases e:j=i
 .subst e;exact⟨a,by simpa using N⟩
 .obtain⟨b,M⟩:=A.nd j hj;refine⟨b,?_⟩;simp only[if_neg e];refine M.Zf k fun t q hq=>?_;rcases q with rfl|rfl|rfl|q
  .cases hq
  .cases hq
  .cases hq
  .rw[hq]at q;exact e (Option.some.inj q)
theorem Tw{YL:Nat->Nat}{Xq:WA}{fl:List YF}{Yv:Nat->Int}{ZE:List Ps}(W:ZZ o h wb YL Xq fl Yv ZE):
  ∃b off c,Xq.Zb=U (aa ⟨b,off,aI⟩) 5 c/\5<=c/\b<h.size/\∀i,i<5->hc h ⟨b,off+i,aI⟩=aa (Zz (YL i)):=by
 rcases W.Zb with⟨_,e,_⟩|⟨b,off,cap,pre,ZG,g1,g2,g3,g4,g5,g6,g7⟩
 .cases e
 refine⟨b,off,cap,g2,g7,Za g3,fun i hi=>?_⟩;rw[Zn g3,YR,<-g4,List.getElem?_append_right nc,bl]
 match i,hi with
 | 0,_=>rfl
 | 1,_=>rfl
 | 2,_=>rfl
 | 3,_=>rfl
 | 4,_=>rfl
theorem qW{T:bp}{K:a9->Hp->Prop}{ty:TypeId}{t:Tg}{v:a9}{l:List YF}{x:YF}{w:a9}{bx:Nat}{cb:Array Bool}(s:Wv o t h v l)(d:Vp o h)(iv:TD o h w x.vs)(hb:h[bx]? = aa (al (XN x w).toArray 135))(hr:(aU l)<=1000000000000)(H:∀p c o' h',Wv o' t h' (U p ((aU l)+1) c) (l++[x])->Kp (fun u=>u=t) o h o' h'->K (U p ((aU l)+1) c) h'):
  Pm bk T .append #[95,95] ty cb [v,U (aa ⟨bx,0,aI⟩) 1 1] K h:=by
 have src:Sl 14 h (U (aa ⟨bx,0,aI⟩) 1 1) 1 (XN x w):=⟨_,1,rfl,rfl,fun _=>⟨bx,0,rfl,fun i hi=>by
  rw[Zn hb,YR,Nat.zero_add];exact bz hi⟩⟩
 obtain⟨p,c,hw⟩:=iv.ZP;have XV:YC w=true:=by rw[hw];rfl
 obtain⟨xs,UY,NV,ic⟩:=s;have Bd:(aU xs)=(aU l):=by rw[<-UY,bc]
 refine QV (E:=135) (n:=14) (bytes:=128) (k:=1) kQ Tryz.underlying95 wq kT rfl Zez NV d src (by rw[XN,List.all_eq_true];intro x hx;simp at hx;rcases hx with rfl|rfl|rfl|rfl|rfl|rfl|rfl|rfl|rfl|rfl|rfl|rfl|rfl|rfl<;>first|rfl|exact XV) nc nc ?_;intro v' o' h' w' k _;obtain⟨p',c',rfl,_⟩:=w'.ZP;rw[Bd];refine H p' c' o' h' ⟨xs++[(x,w)],by rw[bS,UY];rfl,?_,fun y hy=>?_⟩ k
 .rw[Y8,Te,a5,<-Bd];exact w'
 .rcases List.mem_append.1 hy with hy|hy
  .exact (ic y hy).Zf k
  .have:y=(x,w):=by simpa using hy
   subst this;exact iv.Zf k
theorem Rj{t:Tg}{v:a9}{l:List YF}(s:Wv o t h v l):∃p c,v=U p (aU l) c/\(aU l)<=c:=by
 obtain⟨xs,h1,h2,_⟩:=s;obtain⟨p,c,h3,h4⟩:=h2.ZP;rw[<-h1,bc];exact⟨p,c,h3,h4⟩
set_option maxHeartbeats 4000000 in
theorem BA(T:bp)(h:Hp)(o:Ow)(wb:Nat)(YL:Nat->Nat)(Xq:WA)(w:Wd)(l:YF)(v:a9)(d:Vp o h)(A:QD o h wb YL Xq w)(iv:TD o h v l.vs)(hto:0<=l.to/\l.to<5)(NH:∀i,i<5->(w.Zb i).Zg.length<=1000000000000):
  Zd bk T 54 #[Zz wb,bg (XN l v).toArray] h fun v' h'=>∃o',Kp Zmg o h o' h'/\QD o' h' wb YL Xq (Q3 w l):=by
 obtain⟨pw,cw,rfl⟩:=iv.ZP;obtain⟨j,hj⟩:∃j:Nat,(j:Int)=l.to:=⟨l.to.toNat,nc⟩
 have hj5:j<5:=nc;have hjn:l.to.toNat=j:=nc;refine Zd.XS [_,_] Tryz.func54 ?_;unfold Zz XN;obtain⟨h1,Xk⟩:=ZQ (h.push (al (XN l (U pw (aU l.vs) cw)).toArray 135):Hp);have k1:Kp Wy o h o h1:=by rw[Xk];exact Yt d _
 have x3:Yb o h1 h.size (al (XN l (U pw (aU l.vs) cw)).toArray 135):=⟨d _ (a0 _),by rw[Xk];exact Zc⟩
 have e0:=Xk.symm;unfold XN at e0;have A1:=A.Zo k1;have R1:=XP A1.wd.ZX.2;obtain⟨b,off,c,hn,hc5,hb,Ky⟩:=Tw A1.wd;have Rn:=R1.Zb;rw[hn]at Rn;have Bw:=Za A1.wd.ZX.2;have r3:hc h1 ⟨h.size,2,aI⟩=aa (Q O j):=by rw[hj];exact Zn x3.2
 have l3:=Za x3.2;have rj:=Ky j hj5;unfold Zz at rj;have Zu8:(j:Int)<5:=nc;simp -implicitDefEqProofs only[go_sem,e0];refine VS.mono (N:=fun F' g'=>Zk h1.size h1 g'/\F' 3=au (aa ⟨h.size,0,aI⟩)/\F' 4=au (aa ⟨YL j,0,aI⟩)) ?_ ?_ (fun _ _ _ h=>h) (fun _ _ h=>h)
 .refine VS.z (h1.size) [] (.p 0 (.p 1 (.p 2 (.q 3 (.p 4 (.q 5 (.p 6 (.q 7 (.p 8 .nil))))))))) mixed uf ?_;simp -implicitDefEqProofs only[go_sem,Rn,r3,Bw,l3,hb,Zu8,rj]
  try exact Zk.refl _ _
 rintro F1 g1 ⟨b1,f3,f4⟩;have kb:=ZY k1.Yn b1;have A2:=A1.Zo kb;have K2:=k1.trans kb;have y3:=x3.Zf kb;obtain⟨a,N2⟩:=A2.nd j hj5;have P2:=ZR N2.ZX.2 N2.pt.store.len;have mz:=P2.up;have TF:=Za N2.ZX.2;unfold Q3;rw[hjn]
 cases hu:(w.Zb j).up with
 | false=>
  rw[hu]at mz;rw[if_neg Hg];simp -implicitDefEqProofs only[go_sem,f4,mz];exact⟨o,Z1 K2,A2⟩
 | true=>
  rw[hu]at mz;rw[if_pos rfl];obtain⟨pi,ci,hi,_⟩:=Rj N2.pt.Zg;have P2i:=P2.Zg;rw[hi]at P2i;have r3:rd g1 ⟨h.size,0,aI⟩ 14=aa (XN l (U pw (aU l.vs) cw)):=Zy y3.2 rfl;unfold XN at r3;have l3:=Za y3.2;simp -implicitDefEqProofs only[go_sem,f4,mz];refine VS.z (g1.size) [7,10] (.p 0 (.p 1 (.p 2 (.p 3 (.q 4 (.q 5 (.s 6 (.w 7 (.p 8 (.p 9 (.w 10 .nil))))))))))) mixed uf ?_;simp -implicitDefEqProofs only[go_sem,f3,f4,P2i,r3,TF,l3];obtain⟨g2,Wn⟩:=ZQ (g1.push (al (XN l (U pw (aU l.vs) cw)).toArray 135):Hp);have k2:Kp Wy o g1 o g2:=by rw[Wn];exact Yt K2.Yn _
  have e2:=Wn.symm;unfold XN at e2;rw[e2];have N3:=N2.Zo k2;have A3:=A2.Zo k2;have K3:=K2.trans k2;have LI:=N3.pt.Zg;rw[hi]at LI;refine qW LI K3.Yn ((iv.Zf K2).Zf k2) (by rw[Wn];exact Zc) (NH j hj5) ?_;intro p3 c3 o3 g3 L3 k3;have k3:Kp (fun t=>t=.Zg j) o g2 o3 g3:=k3;have N4:=Yi.qx N3.pt k3 L3;have B4:=N3.ZX.Zf k3 Ih;have W4:=A3.wd.Zf k3 (by rintro t rfl;simp[Tg.of]);obtain⟨g5,w5,N5,k5⟩:=Yi.write N4 k3.Yn B4 ((XH B4.2 N3.pt.store.len).Zg (U p3 ((w.Zb j).Zg.length+1) c3) rfl);have Hf:=Za B4.2;simp -implicitDefEqProofs only[go_sem,w5,Hf];have W5:=W4.Zf k5 (by rintro t rfl;simp[Tg.of]);have kk:Kp (fun t=>t.of=aa j) o g2 o3 g5:=(k3.mono fun t q=>by rw[q];rfl).trans (k5.mono fun t q=>by rw[q];rfl);exact⟨o3,(Z1 K3).trans (kk.mono fun t q=>⟨j,q⟩),A3.Ys (kk.mono fun t q=>.inr (.inr (.inr q))) N5 W5⟩
theorem mA{t:Tg}{v:a9}{l:List YF}(s:Wv o t h v l)(k:Nat)(hk:k<(aU l)):
  ∃w b off c,v=U (aa ⟨b,off,aI⟩) (aU l) c/\(aU l)<=c/\b<h.size/\rd h ⟨b,off+k*14,aI⟩ 14=aa (XN l[k] w)/\TD o h w l[k].vs:=by
 obtain⟨xs,rfl,h2,h3⟩:=s;rw[bc]at hk;rcases h2 with⟨_,e,_⟩|⟨b,off,cap,pre,ZG,g1,rfl,g3,g4,g5,g6,g7⟩
 .omega
 refine⟨xs[k].2,b,off,cap,by rw[bc],by rw[bc];exact g7,Za g3,?_,?_⟩
 .have hlen:∀x,(IE x).length=14:=fun x=>rfl;have hle:k*14+14<=(aU xs)*14:=by omega
  rw[YJ g3 (by simp only[a5];omega),<-g4,List.drop_append,List.drop_of_length_le (by omega),bT,bl];rw[List.drop_append_of_le_length (by omega),List.take_append_of_le_length (by rw[List.length_drop];omega)];rw[Ri hlen xs k (by omega),List.drop_eq_getElem_cons hk];have e1:ZT IE (xs[k] :: xs.drop (k+1))=XN xs[k].1 xs[k].2++ZT IE (xs.drop (k+1)):=by simp[ZT,IE]
  rw[e1,bA];rfl
 .rw[bA];exact h3 _ (bG hk)
theorem qX{o':Ow}{t:Tg}{h':Hp}{xs:List (YF × a9)}{v:a9}{k:Nat}(hk:k<(aU xs))(h2:Xz o' t 135 14 h' v ((aU xs)-1) ((ZT IE xs).take (k*14)++(ZT IE xs).drop ((k+1)*14)))(h3:∀x∈xs,TD o' h' x.2 x.1.vs):
  Wv o' t h' v ((xs.map (·.1)).eraseIdx k):=by
 have hlen:∀x,(IE x).length=14:=fun x=>rfl;have el:(xs.eraseIdx k).length=(aU xs)-1:=by rw[List.length_eraseIdx_of_lt hk]
 refine⟨xs.eraseIdx k,?_,?_,fun x hx=>h3 x (List.mem_of_mem_eraseIdx hx)⟩
 .rw[bh,bh,bS,List.map_take,List.map_drop]
 .rw[el];have e1:ZT IE (xs.eraseIdx k)=(ZT IE xs).take (k*14)++(ZT IE xs).drop ((k+1)*14):=by
   rw[OR hlen xs k nc,Ri hlen xs (k+1) nc,<-Y8,bh]
  rw[e1];exact h2
theorem ZZ.DP{o1:Ow}{h1:Hp}{nb:Nat->Nat}{a:WA}{fl fl':List YF}{Yv:Nat->Int}{ZE:List Ps}{v:a9}(W:ZZ o h wb nb a fl Yv ZE)(k:Kp (fun t=>t=.Zp) o h o1 h1)(hv:Wv o1 .Zp h1 v fl'){e:Option Hp}(w:e=aa (h1.setIfInBounds wb (al (X7 Yv { a with Zp:=v }).toArray 97))):
  ∃g,e=aa g/\ZZ o1 g wb nb { a with Zp:=v } fl' Yv ZE/\Kp (fun t=>t=.world) o1 h1 o1 g:=by
 have b:=W.ZX.Zf k Ih;have kk:Kp (fun t=>t=.world) o1 h1 o1 (h1.setIfInBounds wb (al (X7 Yv { a with Zp:=v }).toArray 97)):=(Kp.refl k.Yn (fun t=>t=.world)).set b.1 rfl _;exact⟨_,w,⟨⟨b.1,ZS b.2⟩,(W.Zb.Zf k Ih).Zf kk Ih,hv.Zf kk Ih,(W.ZE.Zf k Ih).Zf kk Ih⟩,kk⟩
theorem QD.Zdn{S:Tg->Prop}{o':Ow}{h':Hp}{YL:Nat->Nat}{Xq WA1:WA}{w:Wd}{fl:List YF}{Yv:Nat->Int}{ZE:List Ps}(A:QD o h wb YL Xq w)(k:Kp S o h o' h')(hn:∀t,S t->t.of=aI)(W:ZZ o' h' wb YL WA1 fl Yv ZE):
  QD o' h' wb YL WA1 { w with Zp:=fl,Yv:=Yv,ZE:=ZE }:=
 ⟨W,fun i hi=>by obtain⟨a,N⟩:=A.nd i hi;exact⟨a,N.Zf k fun t q e=>by rw[hn t q]at e;cases e⟩⟩
theorem Zdo:∀(xs:List (YF × a9)),(∀x∈xs,TD o h x.2 x.1.vs)->(ZT IE xs).all YC=true:=by
 intro xs
 induction xs with
 | nil=>intro _;rfl
 | cons x xs ih=>
  intro hx;have e1:ZT IE (x :: xs)=IE x++ZT IE xs:=by simp[ZT]
  obtain⟨p,c,hw⟩:=(hx x Hg).ZP;rw[e1,List.all_append,ih (fun y hy=>hx y (by simp[hy])),Bool.and_true];unfold IE;rw[hw];rfl
set_option maxHeartbeats 4000000 in
theorem zF(T:bp)(h:Hp)(o:Ow)(wb:Nat)(YL:Nat->Nat)(Xq:WA)(w:Wd)(at':Nat)(comes stays:Bool)(d:Vp o h)(A:QD o h wb YL Xq w)(hto:∀l∈w.Zp,0<=l.to/\l.to<5)(hfl:w.Zp.length<=1000000000000)(NH:∀i,i<5->(w.Zb i).Zg.length<=1000000000000):
  Zd bk T 53 #[Zz wb,Q O at',a8 comes,a8 stays] h fun v' h'=>∃o' Jv,Kp Sy o h o' h'/\QD o' h' wb YL Jv (pick w at' comes stays):=by
 refine Zd.XS [_,_,_,_] Tryz.func53 ?_;unfold Zz;have R:=XP A.wd.ZX.2;have Rf:=R.Zp;have Bw:=Za A.wd.ZX.2;obtain⟨pf,cf,hf,hfc⟩:=Rj A.wd.Zp;rw[hf]at Rf;by_cases hz:w.Zp.length=0
 .have hp:pick w at' comes stays=w:=by
   unfold pick;rw[List.getElem?_eq_none (by rw[hz];exact Nat.zero_le _)]
  rw[hp];have An:(w.Zp.length:Int)=0:=nc;simp -implicitDefEqProofs only[go_sem,Rf,An];exact⟨o,Xq,Kp.refl d _,A⟩
 have An:¬(w.Zp.length:Int)=0:=nc;obtain⟨k,hk⟩:=ZQ (at'%w.Zp.length);have hkl:k<w.Zp.length:=by rw[hk];exact Nat.mod_lt _ nc
 have ek:(at':Int).tmod (w.Zp.length:Int)=(k:Int):=by rw[hk];rfl
 have Zhf:(k:Int)<w.Zp.length:=nc;obtain⟨v,b,off,c,hv,hvc,hb,Ky,iv⟩:=mA A.wd.Zp k hkl;rw[hf]at hv;simp only[Value.slice.injEq]at hv;obtain⟨rfl,_,rfl⟩:=hv;obtain⟨l,hl⟩:=ZQ (w.Zp[k]);rw[<-hl]at Ky iv;have lV:l∈w.Zp:=by rw[hl];exact bG hkl
 obtain⟨pw,cw,rfl⟩:=iv.ZP;obtain⟨h1,Xk⟩:=ZQ (h.push (al (XN l (U pw (aU l.vs) cw)).toArray 135):Hp);have k1:Kp Wy o h o h1:=by rw[Xk];exact Yt d _
 have x9:Yb o h1 h.size (al (XN l (U pw (aU l.vs) cw)).toArray 135):=⟨d _ (a0 _),by rw[Xk];exact Zc⟩
 have e0:=Xk.symm;unfold XN at e0 Ky;have A1:=A.Zo k1;have R1:=XP A1.wd.ZX.2;have R1f:=R1.Zp;rw[hf]at R1f;have Zhg:=Za A1.wd.ZX.2;have r9:rd h1 ⟨h.size,0,aI⟩ 14=aa (XN l (U pw (aU l.vs) cw)):=Zy x9.2 rfl;unfold XN at r9;have eg:w.Zp[at'%w.Zp.length]? = aa l:=by rw[<-hk,hl];exact bz hkl
 have ep:pick w at' comes stays=if comes=true then Q3 (if stays=true then w else { w with Zp:=w.Zp.eraseIdx k }) l else (if stays=true then w else { w with Zp:=w.Zp.eraseIdx k }):=by
  unfold pick;rw[eg,hk]
 rw[ep]
 cases stays with
 | true=>
  rw[if_pos rfl]
  cases comes with
  | false=>
   rw[if_neg Hg];simp -implicitDefEqProofs only[go_sem,Rf,An,ek,Zhf,Ky,e0];exact⟨o,Xq,YQ k1,A1⟩
  | true=>
   rw[if_pos rfl];have cc:=BA T h1 o wb YL Xq w l (U pw (aU l.vs) cw) k1.Yn A1 (iv.Zf k1) (hto l lV) NH;unfold Zz XN at cc;simp -implicitDefEqProofs only[go_sem,Rf,An,ek,Zhf,Ky,e0,r9];refine cc.use ?_;rintro v' g ⟨o',kk,A'⟩;simp -implicitDefEqProofs only[go_sem];exact⟨o',Xq,(YQ k1).trans (YQ kk),A'⟩
 | false=>
  rw[if_neg (show ¬(false=true) by simp)];obtain⟨xs,UY,NV,ic⟩:=A1.wd.Zp;have Bd:(aU xs)=w.Zp.length:=by rw[<-UY,bc]
  have cd:=bM T h1 o .Zp Xq.Zp (aU xs) k (ZT IE xs) NV k1.Yn (Zdo xs ic) nc nc;rw[hf]at cd;have ek2:(k:Int)+1=((k:Int)+1):=rfl;simp -implicitDefEqProofs only[go_sem,Rf,An,ek,Zhf,Ky,e0,R1f];refine cd.use ?_;rintro v2 g2 ⟨L2,k2⟩;have k2:Kp (fun t=>t=.Zp) o h1 o g2:=k2;have L3:Wv o .Zp g2 v2 (w.Zp.eraseIdx k):=by
   rw[<-UY];exact qX nc L2 (fun x hx=>(ic x hx).Zf k2)
  have B2:=A1.wd.ZX.Zf k2 Ih;obtain⟨p2,c2,rfl,_⟩:=Rj L3;obtain⟨g3,w3,W3,k3⟩:=A1.wd.DP k2 L3 ((XP B2.2).Bv (U p2 (w.Zp.eraseIdx k).length c2) rfl);have A3:QD o g3 wb YL { Xq with Zp:=U p2 (w.Zp.eraseIdx k).length c2 } { w with Zp:=w.Zp.eraseIdx k }:=
   A1.Zdn (S:=fun t=>t=.Zp\/t=.world) ((k2.mono fun t q=>.inl q).trans (k3.mono fun t q=>.inr q)) (by rintro t (rfl|rfl)<;>rfl) W3
  have Zhh:=Za B2.2;have y9:=(x9.Zf k2).Zf k3;have r9:rd g3 ⟨h.size,0,aI⟩ 14=aa (XN l (U pw (aU l.vs) cw)):=Zy y9.2 rfl;unfold XN at r9;have K3:Kp Sy o h o g3:=((YQ k1).trans (YQ k2)).trans (YQ k3)
  cases comes with
  | false=>
   rw[if_neg (show ¬(false=true) by simp)];simp -implicitDefEqProofs only[go_sem,w3,Zhh];exact⟨o,_,K3,A3⟩
  | true=>
   rw[if_pos rfl];have cc:=BA T g3 o wb YL _ _ l (U pw (aU l.vs) cw) k3.Yn A3 (((iv.Zf k1).Zf k2).Zf k3) (hto l lV) NH;unfold Zz XN at cc;simp -implicitDefEqProofs only[go_sem,w3,Zhh,r9];refine cc.use ?_;rintro v' g ⟨o',kk,A'⟩;simp -implicitDefEqProofs only[go_sem];exact⟨o',_,K3.trans (YQ kk),A'⟩
theorem Zdp(rc:List Nat)(now:Int):bJ rc now=(Xo rc now).C:=by
 unfold bJ Xo;split<;>rfl
theorem Zhi{Yv:Nat->Int}{a:WA}(H:h[wb]? = aa (al (X7 Yv a).toArray 97))(i:Nat)(hi:i<5):
  hc h ⟨wb,9+i,aI⟩=aa (Q O (Yv i))/\∀k,QP h ⟨wb,9+i,aI⟩ (Q O k)=aa (h.setIfInBounds wb (al (X7 (fun j=>if j=i then k else Yv j) a).toArray 97)):=by
 match i,hi with
 | 0,_=>exact⟨Zn H,fun k=>by rw[Xe H,if_pos ⟨by simp[X7],rfl⟩];rfl⟩
 | 1,_=>exact⟨Zn H,fun k=>by rw[Xe H,if_pos ⟨by simp[X7],rfl⟩];rfl⟩
 | 2,_=>exact⟨Zn H,fun k=>by rw[Xe H,if_pos ⟨by simp[X7],rfl⟩];rfl⟩
 | 3,_=>exact⟨Zn H,fun k=>by rw[Xe H,if_pos ⟨by simp[X7],rfl⟩];rfl⟩
 | 4,_=>exact⟨Zn H,fun k=>by rw[Xe H,if_pos ⟨by simp[X7],rfl⟩];rfl⟩
theorem zH{i:Nat}(t:Tg)(q:ZgZ i t):JO i t:=by
 rcases q with rfl|rfl<;>exact .inr (.inr (.inr rfl))
theorem add_same(n:Nd)(x:Cm):(add n x).Zj=n.Zj/\(add n x).me=n.me:=by
 unfold add;split<;>exact⟨rfl,rfl⟩
set_option maxHeartbeats 4000000 in
theorem qY(T:bp)(h:Hp)(o:Ow)(wb:Nat)(YL:Nat->Nat)(Xq:WA)(w:Wd)(i:Nat)(rc:List Nat)(v:a9)(d:Vp o h)(A:QD o h wb YL Xq w)(hi:i<5)(EJ:(w.Zb i).me=i)(iv:Pv o h v rc)(W0:Ph v)(hrl:(aU rc)<=140737488355328)(tb:eG o h)(hq:(w.Zb i).Zx.length<=1000000000000)(hl:(w.Zb i).ZB.length<=1000000000000)(HQ:(w.Zb i).Zj.length<=1000000000000)(ht:w.ZE.length<=1000000000000)(hb:0<=w.Yv i/\w.Yv i<=1000000000000):
  Zd bk T 50 #[Zz wb,Zz (YL i),v] h fun v' h'=>∃o' Jv,Kp Sy o h o' h'/\QD o' h' wb YL Jv (JN w i rc):=by
 obtain⟨pv,cv,rfl⟩:=iv.1.ZP;refine Zd.XS [_,_,_] Tryz.func50 ?_;unfold Zz;obtain⟨a,N⟩:=A.nd i hi;obtain⟨n,hn⟩:=ZQ (w.Zb i);unfold JN;rw[<-hn]at N EJ hq hl HQ ⊢;have P:=ZR N.ZX.2 N.pt.store.len;have TF:=Za N.ZX.2;have Pu:=P.up
 cases hu:n.up with
 | false=>
  rw[hu]at Pu;rw[if_neg Hg];simp -implicitDefEqProofs only[go_sem,Pu];exact⟨o,Xq,Kp.refl d _,A⟩
 | true=>
 rw[hu]at Pu;rw[if_pos rfl];have Pl:=P.ZB;obtain⟨pl,cl,Mp,_⟩:=Xz.ZP N.pt.ZB;have Mp:a.ZB=U pl n.ZB.length cl:=Mp;rw[Mp]at Pl;obtain⟨E,hE⟩:=ZQ (YP rc n.ZB.length);obtain⟨x,hx⟩:=ZQ (Xo rc n.ZB.length);have co:=yM T h (U pv (aU rc) cv) rc n.ZB.length iv.bs W0 hrl tb.tk tb.tn;rw[Zdp,<-hE,<-hx]at co;rw[<-hE,<-hx];simp -implicitDefEqProofs only[go_sem,Pu,Pl];refine co.use ?_;rintro _ g ⟨rfl,b⟩;have kb:=ZY d b;obtain⟨g1,Ns⟩:=ZQ (g.push (al x.C.toArray 25):Hp);have e1:=Ns.symm;have k1:Kp Wy o h o g1:=by rw[Ns];exact kb.push _
 have x6:Yb o g1 g.size (al x.C.toArray 25):=⟨kb.Yn _ (a0 _),by rw[Ns];exact Zc⟩
 have A1:=A.Zo k1;have N1:=N.Zo k1;have P1:=ZR N1.ZX.2 N1.pt.store.len;have Zhj:=P1.me;rw[EJ]at Zhj;have Q8:=Za N1.ZX.2;have Zhg:=Za A1.wd.ZX.2;obtain⟨br,bw⟩:=Zhi A1.wd.ZX.2 i hi;have r6:rd g1 ⟨g.size,0,aI⟩ 5=aa x.C:=Zy x6.2 rfl;have l6:=Za x6.2;have Kj:(i:Int)<5:=nc;by_cases hz:E=0
 case neg=>
  rw[if_pos (by simpa using hz)];simp -implicitDefEqProofs only[go_sem,e1,hz];refine VS.z (g1.size) [15] (.p 0 (.p 1 (.p 2 (.p 3 (.q 4 (.p 5 (.p 6 (.p 7 (.p 8 (.q 9 (.p 10 (.p 11 (.p 12 (.p 13 (.p 14 (.w 15 .nil)))))))))))))))) mixed uf ?_;simp -implicitDefEqProofs only[go_sem,Zhj,Q8,Zhg,Kj,br,bw];have kk:Kp (fun t=>t=.world) o g1 o (g1.setIfInBounds wb (al (X7 (fun j=>if j=i then w.Yv i+1 else w.Yv j) Xq).toArray 97)):=(Kp.refl k1.Yn (fun t=>t=.world)).set A1.wd.ZX.1 rfl _;exact⟨o,Xq,(YQ k1).trans (YQ kk),A1.Zdn kk (by rintro t rfl;rfl) ⟨⟨A1.wd.ZX.1,ZS A1.wd.ZX.2⟩,A1.wd.Zb.Zf kk Ih,A1.wd.Zp.Zf kk Ih,A1.wd.ZE.Zf kk Ih⟩⟩
 rw[if_neg (by simpa using hz)];have P1l:hc g1 ⟨YL i,11,aI⟩=aa a.ZB:=P1.ZB;simp -implicitDefEqProofs only[go_sem,e1,hz];obtain⟨J,hJ⟩:=ZQ (Rh n.ZB x);refine VS.mono (N:=fun F' g'=>Zk g1.size g1 g'/\F' 0=au (aa ⟨wb,0,aI⟩)/\F' 1=au (aa ⟨YL i,0,aI⟩)/\F' 6=au (aa ⟨g.size,0,aI⟩)/\F' 8=Q O J) ?_ ?_ (fun _ _ _ h=>h) (fun _ _ h=>h)
 .refine VS.z (g1.size) [5] (.p 0 (.p 1 (.p 2 (.q 3 (.q 4 (.w 5 (.p 6 .nil))))))) mixed uf ?_;simp -implicitDefEqProofs only[go_sem,P1l,r6,Q8,l6];refine (Fj T g1 _ n.ZB x N1.pt.ZB.ts nc).use ?_;rintro _ g2 ⟨rfl,b2⟩;simp -implicitDefEqProofs only[go_sem,b2,hJ]
 rintro F2 g2 ⟨b2,f0,f1,f6,f8⟩;have Nc:=ZY k1.Yn b2;have A2:=A1.Zo Nc;have N2:=N1.Zo Nc;have y6:=x6.Zf Nc;have K2:Kp Wy o h o g2:=k1.trans Nc;have P2:=ZR N2.ZX.2 N2.pt.store.len;have qU:=P2.me;rw[EJ]at qU;have Ui:=Za N2.ZX.2;have Zhh:=Za A2.wd.ZX.2;have r62:rd g2 ⟨g.size,0,aI⟩ 5=aa x.C:=Zy y6.2 rfl;have l62:=Za y6.2;clear r6 l6 Q8 Zhg br bw P1 Zhj P1l e1;by_cases hm:x∈n.ZB
 .have hJ0:0<=J:=by rw[hJ];exact (Lw _ _).2 hm
  rw[if_pos hm];have call:=fun G=>mf T G n.store N2.pt.store x;have P2s:rd g2 ⟨YL i,12,aI⟩ 40=aa n.store:=P2.store;obtain⟨D,hDe⟩:=ZQ (Fe n.store x);obtain⟨E2,qF⟩:=ZQ (U7 n.store x);obtain⟨c1,Wr⟩:=ZQ (Oi n.store x);obtain⟨c2,F9⟩:=ZQ (IC n.store x);have hD:=N2.pt.store.do x
  rw[<-hDe]at hD;rw[<-hDe,<-qF,<-Wr,<-F9]at call;rw[<-Wr,<-F9];have II:=hD.len;have eH:=hD.one;unfold Sg at call;have I0:=Z3 (zs:=Y1) (vs:=D) (by rw[II];rfl);unfold Y1 at I0;simp only[rep,List.cons_append,bT]at I0;have wA:∀(G:Hp) (k:Nat),G[k]? = aa (al Y1.toArray 55)->wr G ⟨k,0,aI⟩ D=aa (G.setIfInBounds k (al D.toArray 55)):=fun G k hx=>by
   rw[Ye hx 0 D,Z3 (by rw[II];rfl),if_pos ⟨by rw[II];simp[Y1,rep],eH⟩]
  have wB:∀(G:Hp) (k:Nat),G[k]? = aa (al [Q O 0,Q O 0].toArray 51)->wr G ⟨k,0,aI⟩ [Q O c1,Q O c2]=aa (G.setIfInBounds k (al [Q O c1,Q O c2].toArray 51)):=fun G k hx=>by
   rw[Ye hx 0 _];rfl
  have gl:∀(G:Hp) (X Y:Obj),((G.push X).push Y)[G.size]? = aa X:=fun G X Y=>by rw[ZJ Hg,Zc]
  have gs:∀(G:Hp) (k:Nat) (X Y:Obj),((G.setIfInBounds k X).push Y)[G.size]? = aa Y:=fun G k X Y=>by
   have:=Zc (h:=G.setIfInBounds k X) (o:=Y);rwa [Array.size_setIfInBounds]at this
  have gl':=gs;have gr:∀(G:Hp) (X Y:Obj),((G.push X).push Y)[G.size+1]? = aa Y:=fun G X Y=>by
   have:=Zc (h:=G.push X) (o:=Y);rwa [a6]at this
  simp -implicitDefEqProofs only[go_sem,f8,hJ0];refine VS.mono (N:=fun F' g'=>Zk g2.size g2 g'/\F' 0=au (aa ⟨wb,0,aI⟩)/\F' 1=au (aa ⟨YL i,0,aI⟩)/\F' 6=au (aa ⟨g.size,0,aI⟩)/\∃B,F' 10=au (aa ⟨B,0,aI⟩)/\g2.size<=B/\g'[B]? = aa (al [Q O c1,Q O c2].toArray 51)) ?_ ?_ (fun _ _ _ h=>h) (fun _ _ h=>h)
  .refine VS.z (g2.size) [5,12,13] (.p 0 (.p 1 (.p 2 (.q 3 (.q 4 (.or 5 (.p 6 (.p 7 (.p 8 (.p 9 (.or 10 (.s 11 (.w 12 (.w 13 (.p 14 .nil)))) (.s 11 (.s 10 (.w 12 (.w 13 (.p 14 .nil)))))))))) (.or 10 (.or 5 (.p 6 (.p 7 (.p 8 (.p 9 (.s 11 (.w 12 (.w 13 (.p 14 .nil)))))))) (.s 11 (.w 5 (.p 6 (.p 7 (.p 8 (.p 9 (.w 12 (.w 13 (.p 14 .nil)))))))))) (.s 11 (.or 5 (.p 6 (.p 7 (.p 8 (.p 9 (.s 10 (.w 12 (.w 13 (.p 14 .nil)))))))) (.s 10 (.w 5 (.p 6 (.p 7 (.p 8 (.p 9 (.w 12 (.w 13 (.p 14 .nil)))))))))))))))))) mixed uf ?_;simp -implicitDefEqProofs only[go_sem,f0,f1,f6,P2s,Ui,l62,r62]
   repeat' (first|with_reducible exact Zk.refl _ _|with_reducible exact Zk.push nc _|with_reducible refine b8 ?_ ?_)
   all_goals first
    | (refine (call g2).use ?_
       rintro _ g5 ⟨rfl,b5⟩;have s5:=b5.size;simp -implicitDefEqProofs only[go_sem,b5,II,eH,I0];refine⟨⟨f0,f1,f6,_,rfl,nc,gr _ _ _⟩,⟨f0,f1,f6,_,rfl,s5,gl _ _ _⟩⟩)
    | (refine (call (g2.push (al _ 55))).use ?_
       rintro _ g5 ⟨rfl,b5⟩;have s5:=b5.size;rw[a6]at s5;have B5:Zk g2.size g2 g5:=(Zk.push (a0 _) _).trans (b5.mono Hg);have xA:=b5.get (k:=g2.size) Hg Zc;have Pc:=wA _ _ xA;have zA:=Za xA;simp -implicitDefEqProofs only[go_sem,B5,II,eH,Pc,zA];exact⟨f0,f1,f6,_,rfl,nc,gs _ _ _ _⟩)
    | (refine (call (g2.push (al _ 51))).use ?_
       rintro _ g5 ⟨rfl,b5⟩;have s5:=b5.size;rw[a6]at s5;have B5:Zk g2.size g2 g5:=(Zk.push (a0 _) _).trans (b5.mono Hg);have xB:=b5.get (k:=g2.size) Hg Zc;have Fp:=wB _ _ xB;have zB:=Za xB;have gB:=ZS (o:=al [Q O c1,Q O c2].toArray 51) xB;simp -implicitDefEqProofs only[go_sem,B5,II,eH,Fp,I0,zB];exact⟨f0,f1,f6,_,rfl,a0 _,by rw[ZJ (by simpa using zB)];exact gB⟩)
    | (refine (call ((g2.push (al _ 55)).push (al _ 51))).use ?_
       rintro _ g5 ⟨rfl,b5⟩;have s5:=b5.size;rw[a6,a6]at s5;have B5:Zk g2.size g2 g5:=((Zk.push (a0 _) _).YU Hg _).trans (b5.mono KQ);have xA:=b5.get (k:=g2.size) KQ (gl _ _ _);have xB:=b5.get (k:=g2.size+1) Hg (gr _ _ _);have Pc:=wA _ _ xA;have zA:=Za xA;have Kw:=(Xa (o:=al D.toArray 55) (show g2.size≠g2.size+1 by omega)).trans xB;have Fp:=wB _ _ Kw;have zB:=Za Kw;simp -implicitDefEqProofs only[go_sem,B5,II,eH,Pc,zA,Fp,zB];exact⟨f0,f1,f6,_,rfl,nc,ZS Kw⟩)
    | (refine (call ((g2.push (al _ 51)).push (al _ 55))).use ?_
       rintro _ g5 ⟨rfl,b5⟩;have s5:=b5.size;rw[a6,a6]at s5;have B5:Zk g2.size g2 g5:=((Zk.push (a0 _) _).YU Hg _).trans (b5.mono KQ);have xB:=b5.get (k:=g2.size) KQ (gl _ _ _);have xA:=b5.get (k:=g2.size+1) Hg (gr _ _ _);have Pc:=wA _ _ xA;have zA:=Za xA;have Kw:=(Xa (o:=al D.toArray 55) (show g2.size+1≠g2.size by omega)).trans xB;have Fp:=wB _ _ Kw;have zB:=Za Kw;simp -implicitDefEqProofs only[go_sem,B5,II,eH,Pc,zA,Fp,zB];exact⟨f0,f1,f6,_,rfl,nc,ZS Kw⟩)
  clear f0 f1 f6 f8;rintro F5 g5 ⟨b5,f0,f1,f6,B,f10,hB,yB⟩;have DJ:=ZY K2.Yn b5;have A5:=A2.Zo DJ;have N5:=N2.Zo DJ;have z6:=y6.Zf DJ;have K5:Kp Wy o h o g5:=K2.trans DJ;have xB:Yb o g5 B (al [Q O c1,Q O c2].toArray 51):=⟨K2.Yn _ hB,yB⟩
  have Zva:=(ZR N5.ZX.2 N5.pt.store.len).me;have Mf:=Za N5.ZX.2;have U5:=XP A5.wd.ZX.2;have jg:=Za A5.wd.ZX.2;have rx1:hc g5 ⟨g.size,1,aI⟩=aa (Q O x.c):=Zn z6.2;have rx2:hc g5 ⟨g.size,2,aI⟩=aa (Q O x.s):=Zn z6.2;have rB:rd g5 ⟨B,0,aI⟩ 2=aa [Q O c1,Q O c2]:=Zy yB rfl;have zx:=Za z6.2;have zB:=Za yB;refine VS.z (g5.size) [17,21] (.p 0 (.p 1 (.p 2 (.p 3 (.p 4 (.q 5 (.p 6 (.p 7 (.p 8 (.q 9 (.p 10 (.q 11 (.p 12 (.q 13 (.q 14 (.p 15 (.s 16 (.w 17 (.p 18 (.p 19 (.p 20 (.w 21 .nil)))))))))))))))))))))) mixed uf ?_;simp -implicitDefEqProofs only[go_sem,f0,f1,f6,f10,U5.ZE,Zva,rx1,rx2,rB,Mf,jg,zx,zB];have k6:=Yt K5.Yn (al (Fi ⟨n.me,x.c,x.s,c1,c2⟩).toArray 152);have A6:=A5.Zo k6;refine IH (l:=w.ZE) (x:=⟨n.me,x.c,x.s,c1,c2⟩) A6.wd.ZE k6.Yn Zc ht ?_;intro p7 c7 o7 g7 q7 k7;have b7:=A6.wd.ZX.Zf k7 Ih;obtain⟨g8,w8,W8,k8⟩:=A6.wd.mg k7 q7 ((XP b7.2).ZeX (U p7 _ c7) rfl);have z7:=Za b7.2;simp -implicitDefEqProofs only[go_sem,w8,z7];have A8:=A6.Zdn (S:=fun t=>t=.ZE\/t=.world) ((k7.mono fun t q=>.inl q).trans (k8.mono fun t q=>.inr q)) (by rintro t (rfl|rfl)<;>rfl) W8;exact⟨o7,_,(((YQ K5).trans (YQ k6)).trans (YQ k7)).trans (YQ k8),A8⟩
 .have hJ0:¬0<=J:=by rw[hJ];exact fun e=>hm ((Lw _ _).1 e)
  rw[if_neg hm];have ca:=yX T g2 o wb i (YL i) a n x K2.Yn N2 hq hl;unfold Zz Sg at ca;simp -implicitDefEqProofs only[go_sem,f1,f6,f8,hJ0,r62];refine ca.use ?_;rintro v3 g3 ⟨o3,a3,k3,N3⟩;have k3a:Kp (JO i) o g2 o3 g3:=k3.mono zH;obtain⟨aw,am⟩:=add_same n x;obtain⟨m,tM⟩:=ZQ (add n x);rw[<-tM]at N3 aw am ⊢;have W3:=A2.wd.Zf k3 (by rintro t (rfl|rfl)<;>simp[Tg.of]);have z6:=y6.Zf k3;have P3:=ZR N3.ZX.2 N3.pt.store.len;have P3w:hc g3 ⟨YL i,53,aI⟩=aa a3.Zj:=P3.Zj;have Me:=Za N3.ZX.2;have r63:rd g3 ⟨g.size,0,aI⟩ 5=aa x.C:=Zy z6.2 rfl;have l63:=Za z6.2;have hmw:m.Zj.length<=1000000000000:=by rw[aw];exact HQ
  have K3:Kp Sy o h o3 g3:=(YQ K2).trans (YQ k3);simp -implicitDefEqProofs only[go_sem];refine VS.mono (N:=fun F' g'=>Zk g3.size g3 g'/\F' 1=au (aa ⟨YL i,0,aI⟩)/\F' 6=au (aa ⟨g.size,0,aI⟩)/\F' 92=a8 (!decide (x∈m.Zj))) ?_ ?_ (fun _ _ _ h=>h) (fun _ _ h=>h)
  .refine VS.z (g3.size) [5] (.p 0 (.p 1 (.p 2 (.q 3 (.q 4 (.w 5 (.p 6 .nil))))))) mixed uf ?_;simp -implicitDefEqProofs only[go_sem,f1,f6,P3w,r63,Me,l63];refine (Sv T g3 _ m.Zj x N3.pt.Zj.ts nc).use ?_;rintro _ g4 ⟨rfl,b4⟩;simp -implicitDefEqProofs only[go_sem,b4];exact⟨f1,f6⟩
  clear f0 f1 f6;rintro F4 g4 ⟨b4,f1,f6,f92⟩;have kb4:=ZY K3.Yn b4;have N4:=N3.Zo kb4;have W4:=W3.Zo kb4;have k4a:Kp (JO i) o g2 o3 g4:=k3a.trans (Z1 kb4);have K4:Kp Sy o h o3 g4:=K3.trans (YQ kb4);by_cases Zdq:x∈m.Zj
  .have e5:Rc m x=m:=by unfold Rc;rw[if_pos Zdq]
   rw[e5];simp -implicitDefEqProofs only[go_sem,f92,Zdq];exact⟨o3,_,K4,A2.Ys k4a N4 W4⟩
  .have e5:Rc m x = { m with Zj:=m.Zj++[x] }:=by unfold Rc;rw[if_neg Zdq]
   rw[e5];have q6:=z6.Zf kb4;have P4w:=(ZR N4.ZX.2 N4.pt.store.len).Zj;obtain⟨pw,cw,hpw,_⟩:=Xz.ZP N4.pt.Zj;have hpw:a3.Zj=U pw m.Zj.length cw:=hpw;have P4w:hc g4 ⟨YL i,53,aI⟩=aa (U pw m.Zj.length cw):=by rw[<-hpw];exact P4w
   have Hf:=Za N4.ZX.2;have r64:rd g4 ⟨g.size,0,aI⟩ 5=aa x.C:=Zy q6.2 rfl;have l64:=Za q6.2;simp -implicitDefEqProofs only[go_sem,f92,Zdq];refine VS.z (g4.size) [7,10] (.p 0 (.p 1 (.p 2 (.p 3 (.q 4 (.q 5 (.s 6 (.w 7 (.p 8 (.p 9 (.w 10 .nil))))))))))) mixed uf ?_;simp -implicitDefEqProofs only[go_sem,f1,f6,P4w,r64,Hf,l64];have k5:=Yt K4.Yn (al x.C.toArray 25);have N5:=N4.Zo k5;have W5:=W4.Zo k5;have Q5:=N5.pt.Zj;rw[hpw]at Q5;refine Ku (l:=m.Zj) Q5 k5.Yn Zc hmw ?_;intro p6 c6 o6 g6 q7 k6;have b6:=N5.ZX.Zf k6 Ih;obtain⟨g7,w7,N7,k7⟩:=(N5.pt.IF k6 q7).write k6.Yn b6 ((XH b6.2 N5.pt.store.len).Zj (U p6 (m.Zj.length+1) c6) rfl);have zw:=Za b6.2;simp -implicitDefEqProofs only[go_sem,w7,zw];have kk:Kp (JO i) o g2 o6 g7:=((k4a.trans (Z1 k5)).trans (k6.mono fun t q=>.inr (.inr (.inr (by rw[q];rfl))))).trans (k7.mono fun t q=>.inr (.inr (.inr (by rw[q];rfl))));exact⟨o6,_,(YQ K2).trans (YQ kk),A2.Ys kk N7 ((W5.Zf k6 (by rintro t rfl;simp[Tg.of])).Zf k7 (by rintro t rfl;simp[Tg.of]))⟩
def Fs(i:Nat)(t:Tg):Prop:=t=.ZV i\/t=.Zi i
set_option maxHeartbeats 4000000 in
theorem Ft(T:bp)(h:Hp)(o:Ow)(wb i:Nat)(dv:a9)(jh:List Nat)(YZ:Int)(vv:a9)(TN:UC)(d:Vp o h)(iD:Pv o h dv jh)(iV:TD o h vv TN.l):
  Zd bk T 49 #[Q O i,bg #[dv,Q O YZ],bg #[Q O TN.p.r,Q O TN.p.n,vv]] h fun v' h'=>∃nb o' a',v'=Zz nb/\Zk h.size h h'/\Kp (Fs i) o h o' h'/\Z5 o' h' wb i nb a' (Yr i true jh YZ TN):=by
 obtain⟨pd,cd,rfl⟩:=iD.1.ZP;obtain⟨pv,cv,rfl⟩:=iV.ZP;refine Zd.XS [_,_,_] Tryz.func49 ?_;unfold Zz;obtain⟨h1,Xk⟩:=ZQ ((h.push (al [U pd (aU jh) cd,Q O YZ].toArray 100)).push (al [Q O TN.p.r,Q O TN.p.n,U pv (aU TN.l) cv].toArray 105):Hp);have k1:Kp Wy o h o h1:=by rw[Xk];exact ((Kp.refl d _).push _).push _
 have x4:Yb o h1 h.size (al [U pd (aU jh) cd,Q O YZ].toArray 100):=⟨d _ (a0 _),by rw[Xk];exact qE _ _ _⟩
 have x5:Yb o h1 (h.size+1) (al [Q O TN.p.r,Q O TN.p.n,U pv (aU TN.l) cv].toArray 105):=⟨d _ nc,by rw[Xk];exact tZ _ _ _⟩
 have e0:=Xk.symm;have r4:rd h1 ⟨h.size,0,aI⟩ 2=aa [U pd (aU jh) cd,Q O YZ]:=Zy x4.2 rfl;have r5:rd h1 ⟨h.size+1,0,aI⟩ 3=aa [Q O TN.p.r,Q O TN.p.n,U pv (aU TN.l) cv]:=Zy x5.2 rfl;simp -implicitDefEqProofs only[go_sem,e0,r4,r5];obtain⟨A,hA⟩:∃A:NA,A=⟨U pd (aU jh) cd,U pv (aU TN.l) cv,aI,h1.size,U aI 0 0,U aI 0 0,U aI 0 0,U aI 0 0,.nilFunc⟩:=⟨_,rfl⟩
 obtain⟨h2,VQ⟩:=ZQ (h1.push (Jn []):Hp);obtain⟨h3,G8⟩:=ZQ (h2.push (Jb (Yr i true jh YZ TN) A):Hp);have s2:h2.size=h1.size+1:=by rw[VQ];simp
 have ee:h3=(h1.push (.map #[] 0)).push (Jb (Yr i true jh YZ TN) A):=by rw[G8,VQ];rfl
 rw[hA]at ee;refine⟨h1.size+1,QS (QS o h1.size (.Zi i)) (h1.size+1) (.ZV i),A,rfl,?_⟩;have k2:Kp (Fs i) o h1 (QS o h1.size (.Zi i)) h2:=by rw[VQ];exact ((Kp.refl k1.Yn _).push _).PI (a0 _) Hg (.inr rfl)
 have k3:Kp (Fs i) o h1 (QS (QS o h1.size (.Zi i)) (h1.size+1) (.ZV i)) h3:=by rw[G8];exact (k2.push _).PI nc (by rw[a6];omega) (.inl rfl)
 have kx:Kp (fun t=>t=.ZV i) (QS o h1.size (.Zi i)) h2 (QS (QS o h1.size (.Zi i)) (h1.size+1) (.ZV i)) h3:=by rw[G8];exact ((Kp.refl k2.Yn _).push _).PI nc (by rw[a6];omega) rfl
 have m2:UW (QS o h1.size (.Zi i)) (.Zi i) h2 h1.size (Vu Sg []):=⟨XT,by rw[VQ];exact Zc⟩
 have iD3:=(iD.Zf k1).Zf k3;have iV3:=(iV.Zf k1).Zf k3;have K3:Kp (Fs i) o h (QS (QS o h1.size (.Zi i)) (h1.size+1) (.ZV i)) h3:=(Z1 k1).trans k3;have st:Lu Y1:=Lu.zc uf;show Zk h.size h ((h1.push (.map #[] 0)).push (Jb (Yr i true jh YZ TN) ⟨U pd (aU jh) cd,U pv (aU TN.l) cv,aI,h1.size,U aI 0 0,U aI 0 0,U aI 0 0,U aI 0 0,.nilFunc⟩))/\Kp (Fs i) o h _ ((h1.push (.map #[] 0)).push (Jb (Yr i true jh YZ TN) ⟨U pd (aU jh) cd,U pv (aU TN.l) cv,aI,h1.size,U aI 0 0,U aI 0 0,U aI 0 0,U aI 0 0,.nilFunc⟩))/\Z5 _ ((h1.push (.map #[] 0)).push (Jb (Yr i true jh YZ TN) ⟨U pd (aU jh) cd,U pv (aU TN.l) cv,aI,h1.size,U aI 0 0,U aI 0 0,U aI 0 0,U aI 0 0,.nilFunc⟩)) wb i (h1.size+1) A (Yr i true jh YZ TN);rw[<-ee];refine⟨by rw[G8,VQ,Xk];exact ((((Zk.refl _ _).add _).add _).add _).add _,K3,⟨XT,by rw[G8,<-s2];exact Zc⟩,?_⟩;rw[hA];exact⟨iD3,iV3,trivial,m2.Zf kx Ih,Xz.nil _ _ _ _ _,Xz.nil _ _ _ _ _,Xz.nil _ _ _ _ _,⟨[],rfl,Xz.nil _ _ _ _ _,fun x hx=>by cases hx⟩,rfl,st⟩
theorem cD{S:Tg->Prop}{o':Ow}{h':Hp}(k:Kp S o h o' h'){b:Nat}{t u:Tg}(hb:o' b=aa t)(ht:S t)(hu:S u):Kp S o h (QS o' b u) h':=by
 refine⟨k.size,fun c hc hn=>⟨(k.Zf c hc hn).1,?_⟩,fun c hc v hv hs=>?_,fun c hc v hv=>?_,fun c hc=>?_⟩
 .by_cases e:c=b
  .subst e;have:=(k.Zf c hc hn).2;rw[hb]at this;exact (hn t this.symm ht).elim
  .rw[XX e];exact (k.Zf c hc hn).2
 .by_cases e:c=b
  .subst e;exact⟨u,XT,hu⟩
  .rw[XX e];exact k.stay c hc v hv hs
 .by_cases e:c=b
  .subst e;rw[XT]at hv;cases hv;exact hu
  .rw[XX e]at hv;exact k.new c hc v hv
 .by_cases e:c=b
  .subst e;rw[k.Yn c hc]at hb;cases hb
  .rw[XX e];exact k.Yn c hc
def Fu(i:Nat)(t:Tg):Prop:=t=.Zh i\/t=.ZI i\/t=.X3 i
theorem qZ{i nb:Nat}{a:NA}{n:Nd}(d:Vp o h)(N:Z5 o h wb i nb a n):
  ∃o',Kp (Fu i) o h o' h/\Yi o' h wb i nb { a with Zh:=aI } { n with Zh:=aI,Zs:=X3 n.Zs }/\o' nb=aa (.ZV i):=by
 have key:∀o',Kp (Fu i) o h o' h->Vj o' h wb i nb aI a.Zs (X3 n.Zs)->Yi o' h wb i nb { a with Zh:=aI } { n with Zh:=aI,Zs:=X3 n.Zs }:=fun o' k p=>
  ⟨N.pt.data.Zf k,N.pt.XO.Zf k,trivial,N.pt.Zi.Zf k (by rintro (e|e|e)<;>cases e),N.pt.ZB.Zf k (by rintro (e|e|e)<;>cases e),N.pt.Zx.Zf k (by rintro (e|e|e)<;>cases e),N.pt.Zj.Zf k (by rintro (e|e|e)<;>cases e),N.pt.Zg.Zf k (by rintro (e|e|e)<;>cases e),p,N.pt.store⟩
 have hp:=N.pt.Zs;have hR:=N.pt.Zh
 cases Kx:a.Zh with
 | none=>
  rw[Kx]at hp;refine⟨o,Kp.refl d _,key o (Kp.refl d _) ?_,N.ZX.1⟩
  match hn:n.Zs,hp with
  | none,hp=>exact hp
  | some (.VB _ _ _ _),hp=>exact hp
  | some (.TC _ _ _),hp=>exact hp
  | some (.Zq _ _ false),hp=>exact hp
  | some (.Zq _ _ true),⟨b6,b4,b7,b5,w,rb,h1,h2,h3,h4,h5,h6,a',h7,_⟩=>cases h7
 | some ra=>
  rw[Kx]at hp hR;obtain⟨r,hr⟩:∃r,n.Zh=aa r:=by
   cases hx:n.Zh with
   | none=>rw[hx]at hR;exact hR.elim
   | some r=>exact⟨r,rfl⟩
  rw[hr]at hR;have hR:Xt o i h ra r:=hR;have Y4:ra.rb≠ra.pb:=fun e=>by
   have h1:=hR.ZX.1;have h2:=hR.ZI.1;rw[e,h2]at h1;cases h1
  have k1:Kp (Fu i) o h (QS o ra.rb (.X3 i)) h:=cD (Kp.refl d (Fu i)) hR.ZX.1 (.inl rfl) (.inr (.inr rfl));have hp1:QS o ra.rb (.X3 i) ra.pb=aa (.ZI i):=by rw[XX (fun e=>Y4 e.symm)];exact hR.ZI.1
  have k2:Kp (Fu i) o h (QS (QS o ra.rb (.X3 i)) ra.pb (.X3 i)) h:=cD k1 hp1 (.inr (.inl rfl)) (.inr (.inr rfl));obtain⟨o2,tP⟩:=ZQ (QS (QS o ra.rb (.X3 i)) ra.pb (.X3 i));rw[<-tP]at k2;have s1:o2 ra.rb=aa (.X3 i):=by rw[tP,XX Y4];exact XT
  have s2:o2 ra.pb=aa (.X3 i):=by rw[tP];exact XT
  have so:∀b,b≠ra.rb->b≠ra.pb->o2 b=o b:=fun b e1 e2=>by rw[tP,XX e2,XX e1]
  have sst:∀b,o b=aa (.X3 i)->o2 b=aa (.X3 i):=fun b hb=>by
   by_cases e1:b=ra.rb
   .rw[e1];exact s1
   .by_cases e2:b=ra.pb
    .rw[e2];exact s2
    .rw[so b e1 e2];exact hb
  have TF:o2 nb=aa (.ZV i):=by
   rw[so nb (fun e=>by have:=N.ZX.1;rw[e,hR.ZX.1]at this;cases this) (fun e=>by have:=N.ZX.1;rw[e,hR.ZI.1]at this;cases this)];exact N.ZX.1
  refine⟨o2,k2,key o2 k2 ?_,TF⟩
  match hn:n.Zs,hp with
  | none,hp=>exact hp
  | some (.VB a to b vs),⟨b6,b4,b9,u,h1,h2,h3,h4,h5⟩=>exact⟨b6,b4,b9,u,h1,h2.Zf k2,h3.Zf k2,h4.Zf k2,h5.Zf k2⟩
  | some (.TC a to x),⟨b6,b4,b9,u,h1,h2,h3,h4,h5⟩=>exact⟨b6,b4,b9,u,h1,h2.Zf k2,h3.Zf k2,h4.Zf k2,h5.Zf k2⟩
  | some (.Zq a vs cur),⟨b6,b4,b7,b5,w,rb,h1,h2,h3,h4,h5,h6,h7⟩=>
   refine⟨b6,b4,b7,b5,w,rb,h1,h2.Zf k2,h3.Zf k2,h4.Zf k2,h5.Zf k2,h6.Zf k2,?_⟩;rw[if_neg Hg]
   cases cur with
   | false=>
    rw[if_neg Hg]at h7;obtain⟨cs,pb,pv,g1,g2,g3⟩:=h7;exact⟨cs,pb,pv,⟨sst _ g1.1,g1.2⟩,g2,sst _ g3.1,g3.2⟩
   | true=>
    rw[if_pos rfl]at h7;obtain⟨a',q1,q2⟩:=h7;obtain rfl:=Option.some.inj q1;rw[<-q2];exact⟨_,ra.pb,ra.pv,⟨s1,hR.ZX.2⟩,rfl,s2,hR.ZI.2⟩
theorem Zdr{i nb:Nat}{ra:Option RA}{v:a9}{p:Option LV}(s:Vj o h wb i nb aI v (X3 p)):Vj o h wb i nb ra v (X3 p):=by
 match p,s with
 | none,s=>exact s
 | some (.VB _ _ _ _),s=>exact s
 | some (.TC _ _ _),s=>exact s
 | some (.Zq _ _ _),s=>exact s
set_option maxHeartbeats 4000000 in
theorem Zds(T:bp)(h:Hp)(o:Ow)(wb i nb:Nat)(a:NA)(n:Nd)(d:Vp o h)(N:Z5 o h wb i nb a n)(hb:n.Zq.p.r<=1000000000000/\n.YX.r<=1000000000000 /\ -1000000000000<=n.Zq.p.r /\ -1000000000000<=n.YX.r)(hr:∀r,n.Zh=aa r->r.b.r<=1000000000000 /\ -1000000000000<=r.b.r):
  Zd bk T 51 #[Zz wb,Zz nb] h fun v' h'=>∃o' a',Kp (fun t=>t.of=aa i) o h o' h'/\Z5 o' h' wb i nb a' (lead n):=by
 refine Zd.Hm (args:=#[_,_]) Tryz.func51 rfl rfl rfl ?_;obtain⟨M,hM⟩:=ZQ (max n.Zq.p.r n.YX.r+1);refine VS.seq (VS.mono (N:=fun F' g'=>F' 1=au (aa ⟨nb,0,aI⟩)/\Zk h.size h g'/\∃kb,h.size<=kb/\F' 4=au (aa ⟨kb,0,aI⟩)/\g'[kb]? = aa (al [Q O M,Q O n.me].toArray 102)) ?_ ?_ (fun _ _ _ h=>h) (fun _ _ h=>h))
 .refine Qw _ _ _ _ _ _ rfl ?_;unfold Zz;have P:=ZR N.ZX.2 N.pt.store.len;have TF:=Za N.ZX.2;simp -implicitDefEqProofs only[go_sem];refine VS.z (h.size) [19] (.p 0 (.p 1 (.p 2 (.p 3 (.p 4 (.q 5 (.p 6 (.p 7 (.p 8 (.p 9 (.q 10 (.p 11 (.p 12 (.p 13 (.p 14 (.p 15 (.q 16 (.p 17 (.s 18 (.w 19 .nil)))))))))))))))))))) mixed uf ?_;simp -implicitDefEqProofs only[go_sem,P.Zt9,P.ZgW,P.me,TF];have em:(if n.YX.r>n.Zq.p.r then n.YX.r else n.Zq.p.r)+1=M:=by
   rw[hM];split<;>omega
  rw[em];exact⟨_,a0 _,rfl,Zc⟩
 rintro F1 g1 ⟨f1,b1,kb,hkb,f4,y4⟩;refine VS.seq (VS.mono (N:=fun F' g'=>F' 1=au (aa ⟨nb,0,aI⟩)/\F' 4=au (aa ⟨kb,0,aI⟩)/\Zk h.size h g'/\g'[kb]? = aa (al [Q O (Jp n).r,Q O n.me].toArray 102)) ?_ ?_ (fun _ _ _ h=>h) (fun _ _ h=>h))
 .refine Qw _ _ _ _ _ _ rfl ?_;have k1:=ZY d b1;have N1:=N.Zo k1;have P1:=ZR N1.ZX.2 N1.pt.store.len;have P1r:=P1.Zh;have Q8:=Za N1.ZX.2;have l4:=Za y4;have r4:hc g1 ⟨kb,0,aI⟩=aa (Q O M):=Zn y4
  cases Kx:a.Zh with
  | none=>
   rw[Kx]at P1r;unfold Md at P1r;have hn:n.Zh=aI:=by
    have:=N.pt.Zh;rw[Kx]at this
    cases hx:n.Zh with
    | none=>rfl
    | some r=>rw[hx]at this;exact this.elim
   have e1:(Jp n).r=M:=by unfold Jp;rw[hn,hM]
   rw[e1];simp -implicitDefEqProofs only[go_sem,f1,P1r];exact⟨f4,b1,y4⟩
  | some ra=>
   rw[Kx]at P1r;unfold Md Zz at P1r;obtain⟨r,hn⟩:∃r,n.Zh=aa r:=by
    have:=N.pt.Zh;rw[Kx]at this
    cases hx:n.Zh with
    | none=>rw[hx]at this;exact this.elim
    | some r=>exact⟨r,rfl⟩
   have R1:Xt o i g1 ra r:=by have:=N1.pt.Zh;rw[Kx,hn]at this;exact this
   have eI:=Za R1.ZX.2;have rr0:hc g1 ⟨ra.rb,0,aI⟩=aa (Q O r.b.r):=Zn R1.ZX.2;have e1:(Jp n).r=max M (r.b.r+1):=by unfold Jp;rw[hn,hM]
   obtain⟨Eb,hr2⟩:=hr r hn;obtain⟨Z,hZ⟩:=ZQ ((Jp n).r);have hz:(if r.b.r+1>M then r.b.r+1 else M)=Z:=by
    rw[hZ,e1];split<;>omega
   rw[<-hZ];have w4:QP g1 ⟨kb,0,aI⟩ (Q O Z)=aa (g1.setIfInBounds kb (al [Q O Z,Q O n.me].toArray 102)):=by rw[Xe y4 0 _];rfl
   simp -implicitDefEqProofs only[go_sem,f1,P1r];refine VS.z (g1.size) [10] (.p 0 (.q 1 (.p 2 (.p 3 (.p 4 (.p 5 (.q 6 (.p 7 (.p 8 (.p 9 (.w 10 .nil))))))))))) mixed uf ?_;simp -implicitDefEqProofs only[go_sem,f1,f4,P1r,r4,rr0,eI,l4,hz,w4];exact⟨b1.Zt hkb _,ZS y4⟩
 clear f1 f4 y4 b1;rintro F3 g3 ⟨f1,f4,b3,y4⟩;refine Qw _ _ _ _ _ _ rfl ?_;have k3:=ZY d b3;have N3:=N.Zo k3;have P3:=ZR N3.ZX.2 N3.pt.store.len;have P3u:=P3.up;have Me:=Za N3.ZX.2;have l4:=Za y4;have r4a:hc g3 ⟨kb,0,aI⟩=aa (Q O (Jp n).r):=Zn y4
 cases hu:n.up with
 | false=>
  rw[hu]at P3u;have e1:lead n=n:=by unfold lead;rw[if_pos (.inl hu)]
  rw[e1];simp -implicitDefEqProofs only[go_sem,f1,P3u];exact⟨o,a,Z1 k3,N3⟩
 | true=>
 rw[hu]at P3u;by_cases c:65536<(Jp n).r
 .have e1:lead n=n:=by unfold lead;rw[if_pos (.inr c)]
  rw[e1];have c':(Jp n).r>65536:=c;simp -implicitDefEqProofs only[go_sem,f1,f4,P3u,r4a,c,c'];exact⟨o,a,Z1 k3,N3⟩
 have e1:lead n = { n with Zh:=aa ⟨Jp n,[],false,[],[]⟩,Zs:=X3 n.Zs }:=by
  unfold lead;rw[if_neg];rintro (e|e)
  .rw[hu]at e;cases e
  .exact c e
 rw[e1];have c':¬(Jp n).r>65536:=c;have r4:rd g3 ⟨kb,0,aI⟩ 2=aa [Q O (Jp n).r,Q O n.me]:=Zy y4 rfl;obtain⟨o2,k2,pt2,Ui⟩:=qZ k3.Yn N3;obtain⟨ra,Kx⟩:∃ra:RA,ra=⟨g3.size+3,g3.size,g3.size+1,g3.size+2,[],[]⟩:=⟨_,rfl⟩
 obtain⟨r,hr0⟩:∃r:Xw,r=⟨Jp n,[],false,[],[]⟩:=⟨_,rfl⟩
 obtain⟨p1,hp1⟩:=ZQ (g3.push (Jn []):Hp);obtain⟨p2,vQ⟩:=ZQ (p1.push (Jn []):Hp);obtain⟨p3,hp3⟩:=ZQ (p2.push (Jn []):Hp);obtain⟨p4,hp4⟩:=ZQ (p3.push (al (iW r ra).toArray 157):Hp);have s1:p1.size=g3.size+1:=by rw[hp1];simp
 have s2:p2.size=g3.size+2:=by rw[vQ,a6,s1]
 have s3:p3.size=g3.size+3:=by rw[hp3,a6,s2]
 have s4:p4.size=g3.size+4:=by rw[hp4,a6,s3]
 have q1:p4[g3.size]? = aa (Jn []):=by rw[hp4,ZJ nc,hp3,ZJ nc,vQ,ZJ nc,hp1];exact Zc
 have q2:p4[g3.size+1]? = aa (Jn []):=by rw[hp4,ZJ nc,hp3,ZJ nc,vQ,<-s1];exact Zc
 have q3:p4[g3.size+2]? = aa (Jn []):=by rw[hp4,ZJ nc,hp3,<-s2];exact Zc
 have q4:p4[g3.size+3]? = aa (al (iW r ra).toArray 157):=by rw[hp4,<-s3];exact Zc
 have kp:Kp (JS i) o2 g3 o2 p4:=by rw[hp4,hp3,vQ,hp1];exact ((((Kp.refl k2.Yn _).push _).push _).push _).push _
 have ka:=kp.PI (b:=g3.size) (t:=.ZI i) (a0 _) nc (.inr (.inl rfl));have kb':=ka.PI (b:=g3.size+1) (t:=.ZW i) nc nc (.inr (.inr (.inl rfl)));have kc:=kb'.PI (b:=g3.size+2) (t:=.Y5 i) nc nc (.inr (.inr (.inr (.inl rfl))));have k5:=kc.PI (b:=g3.size+3) (t:=.Zh i) nc nc (.inl rfl);obtain⟨o5,ho5⟩:=ZQ (QS (QS (QS (QS o2 g3.size (.ZI i)) (g3.size+1) (.ZW i)) (g3.size+2) (.Y5 i)) (g3.size+3) (.Zh i));rw[<-ho5]at k5;clear ka kb' kc kp;have t1:o5 g3.size=aa (.ZI i):=by rw[ho5,XX nc,XX nc,XX nc];exact XT
 have t2:o5 (g3.size+1)=aa (.ZW i):=by rw[ho5,XX nc,XX nc];exact XT
 have t3:o5 (g3.size+2)=aa (.Y5 i):=by rw[ho5,XX nc];exact XT
 have t4:o5 (g3.size+3)=aa (.Zh i):=by rw[ho5];exact XT
 have R5:Xt o5 i p4 ra r:=by
  rw[Kx,hr0];rw[Kx,hr0]at q4;exact⟨⟨t4,q4⟩,⟨t1,q1⟩,.nil,⟨t2,q2⟩,⟨t3,q3⟩,.nil,Hg⟩
 have en:∀t:Tg,(t=.Zi i\/t=.ZB i\/t=.Zx i\/t=.Zj i\/t=.Zg i\/t=.X3 i\/t=.ZV i)->¬JS i t:=by
  intro t ht hr;rcases ht with rfl|rfl|rfl|rfl|rfl|rfl|rfl<;>rcases hr with e|e|e|e|⟨s,e⟩<;>cases e
 have pn:Vj o5 p4 wb i nb (aa ra) a.Zs (X3 n.Zs):=Zdr (pt2.Zs.Zf k5 (en _ Hg));have pt5:Yi o5 p4 wb i nb { a with Zh:=aa ra } { n with Zh:=aa r,Zs:=X3 n.Zs }:=
  ⟨pt2.data.Zf k5,pt2.XO.Zf k5,R5,pt2.Zi.Zf k5 (en _ Hg),pt2.ZB.Zf k5 (en _ Hg),pt2.Zx.Zf k5 (en _ Hg),pt2.Zj.Zf k5 (en _ Hg),pt2.Zg.Zf k5 (en _ Hg),pn,pt2.store⟩
 have B5:Ww o5 (.ZV i) p4 nb (Jb n a):=Ww.Zf (o:=o2) ⟨Ui,N3.ZX.2⟩ k5 (en _ Hg);obtain⟨g6,w6,N6,k6⟩:=Yi.write pt5 k5.Yn B5 ((XH B5.2 N.pt.store.len).Zh (aa ra));have Mf:=Za B5.2;have ee:p4=(((g3.push (.map #[] 0)).push (.map #[] 0)).push (.map #[] 0)).push (al #[Q O (Jp n).r,Q O n.me,.map (aa g3.size),a8 false,.map (aa (g3.size+1)),.map (aa (g3.size+2))] 157):=by
  rw[hp4,hp3,vQ,hp1,Kx,hr0];rfl
 have w6':QP p4 ⟨nb,9,aI⟩ (au (aa ⟨g3.size+3,0,aI⟩))=aa g6:=by rw[<-w6,Kx];rfl
 have ee':=ee.symm;rw[hr0]at N6;simp -implicitDefEqProofs only[go_sem,f1,f4,P3u,r4a,c,c',r4,ee',w6',Mf];refine⟨o5,_,((Z1 k3).trans (k2.mono fun t q=>?_)).trans ((k5.mono fun t q=>Kt q).trans (k6.mono fun t q=>by rw[q];rfl)),N6⟩;rcases q with rfl|rfl|rfl<;>rfl
theorem Zhn{l:List Nat}{a r:UC}{k j:Nat}(h:Rec l a k r j):∀f,(aU l)+1<=k+f->Ff l f a k=(r,j):=by
 induction h with
 | stop e=>
  intro f hf
  cases f with
  | zero=>rfl
  | succ f=>unfold Ff;rw[e]
 | @go a a' r k k' j e _ ih=>
  intro f hf;have e':=e;unfold Y3 at e';split at e'
  .rename_i q;rw[Option.map_eq_some_iff]at e';obtain⟨x,_,hx⟩:=e';have hk:k'=k+(Vh l k+4):=(congrArg Prod.snd hx).symm
   cases f with
   | zero=>omega
   | succ f=>
    unfold Ff;rw[e];exact ih f nc
  .cases e'
theorem OT{l:List Nat}{r:UC}{k:Nat}(h:Rec l JE 0 r k):Tu l=(r,k):=Zhn h _ nc
theorem DQ{YL:Nat->Nat}{Xq:WA}{fl:List YF}{Yv:Nat->Int}{ZE:List Ps}(d:Vp o h)(W:ZZ o h wb YL Xq fl Yv ZE)(i nb:Nat)(hi:i<5):
  ∃b off c g,Xq.Zb=U (aa ⟨b,off,aI⟩) 5 c/\QP h ⟨b,off+i,aI⟩ (Zz nb)=aa g/\Kp (fun t=>t=.Zb) o h o g/\ZZ o g wb (fun j=>if j=i then nb else YL j) Xq fl Yv ZE:=by
 rcases hw:W.Zb with⟨_,e,_⟩|⟨b,off,cap,pre,ZG,g1,g2,g3,g4,g5,g6,g7⟩
 .cases e
 have hw':QP h ⟨b,off+i,aI⟩ (Zz nb)=aa (h.setIfInBounds b (al (pre++([Zz (YL 0),Zz (YL 1),Zz (YL 2),Zz (YL 3),Zz (YL 4)].set i (Zz nb)++ZG)).toArray 98)):=by
  rw[Xe g3,if_pos ⟨by simp only[a5,bR];omega,rfl⟩];rw[<-g4,List.set_append_right _ _ nc,bl,List.set_append_left _ _ (by simpa using hi)]
 have kk:Kp (fun t=>t=.Zb) o h o (h.setIfInBounds b (al (pre++([Zz (YL 0),Zz (YL 1),Zz (YL 2),Zz (YL 3),Zz (YL 4)].set i (Zz nb)++ZG)).toArray 98)):=(Kp.refl d (fun t=>t=.Zb)).set g1 rfl _;refine⟨b,off,cap,_,g2,hw',kk,W.ZX.Zf kk Ih,?_,W.Zp.Zf kk Ih,W.ZE.Zf kk Ih⟩;refine .inr ⟨b,off,cap,pre,ZG,g1,g2,?_,g4,rfl,g6,g7⟩;rw[ZS g3]
 match i,hi with
 | 0,_=>rfl
 | 1,_=>rfl
 | 2,_=>rfl
 | 3,_=>rfl
 | 4,_=>rfl
def Fv(k n a b:Int)(d:a9):List a9:=[Q O k,Q O n,Q O a,Q O b,d]
structure WOk(w:Wd):Prop where
 me:∀i,i<5->(w.Zb i).me=i
 step:∀i,i<5->je (w.Zb i) w.Zp.length w.ZE.length
 Zx:∀i,i<5->(w.Zb i).Zx.length<=100000000000
 ZB:∀i,i<5->(w.Zb i).ZB.length<=100000000000
 Zj:∀i,i<5->(w.Zb i).Zj.length<=100000000000
 Zg:∀i,i<5->(w.Zb i).Zg.length<=100000000000
 data:∀i,i<5->(w.Zb i).data.length<=1000000
 ZE:w.ZE.length<=100000000000
 Yv:∀i,i<5->0<=w.Yv i/\w.Yv i<=1000000000000
 Zvc:∀i,i<5->(w.Zb i).Zq.p.r<=1000000000000/\(w.Zb i).YX.r<=1000000000000 /\ -1000000000000<=(w.Zb i).Zq.p.r /\ -1000000000000<=(w.Zb i).YX.r
 SG:∀i,i<5->∀r,(w.Zb i).Zh=aa r->r.b.r<=1000000000000 /\ -1000000000000<=r.b.r
 to:∀l∈w.Zp,0<=l.to/\l.to<5
 room:w.Zp.length<=100000000000
theorem QD.fresh{o':Ow}{h':Hp}{YL:Nat->Nat}{Xq:WA}{w:Wd}{i nb:Nat}{a:NA}{n:Nd}(A:QD o h wb YL Xq w)(k:Kp (fun t=>t=.Zb\/t.of=aa i) o h o' h')(N:Z5 o' h' wb i nb a n)(W:ZZ o' h' wb (fun j=>if j=i then nb else YL j) Xq w.Zp w.Yv w.ZE):QD o' h' wb (fun j=>if j=i then nb else YL j) Xq (w.set i n):=by
 refine⟨W,fun j hj=>?_⟩;by_cases e:j=i
 .subst e;refine⟨a,?_⟩;unfold Wd.set
  simpa using N
 .obtain⟨b,M⟩:=A.nd j hj;refine⟨b,?_⟩;unfold Wd.set;simp only[if_neg e];refine M.Zf k fun t q hq=>?_;rcases q with rfl|q
  .cases hq
  .rw[hq]at q;exact e (Option.some.inj q)
theorem cE(w:Wd)(i:Nat):w.set i (w.Zb i)=w:=by
 unfold Wd.set;have:(fun j=>if j=i then w.Zb i else w.Zb j)=w.Zb:=by
  funext j;split
  .next e=>rw[e]
  .rfl
 rw[this]
theorem Fw{h':Hp}{p:Option Addr}{c:Nat}{L:List Nat}(d:Vp o h')(hb:Bs h' (U p (aU L) c) L)(hc:(aU L)<=c)(hf:∀b,Yf (U p (aU L) c)=aa b->o b=aI/\b<h'.size):Pv o h' (U p (aU L) c) L:=
 ⟨⟨hb.sl,⟨p,c,rfl,hc⟩,fun b q=>⟨(hf b q).2,(hf b q).1⟩⟩,hb.byte⟩
theorem cF{v:a9}{l:List Nat}{k:Nat}(d:Vp o h)(s:Pv o h v l)(hk:k<h.size)(hv:∀b,Yf v=aa b->b≠k)(x:Obj):Pv o (h.setIfInBounds k x) v l:=by
 have d2:Vp (QS o k Tg.Zb) h:=fun b hb=>by rw[XX nc];exact d b hb
 have s2:Pv (QS o k Tg.Zb) h v l:=⟨⟨s.1.sl,s.1.fits,fun b hb=>⟨(s.1.free b hb).1,by rw[XX (hv b hb)];exact (s.1.free b hb).2⟩⟩,s.2⟩
 have k2:Kp (fun t=>t=Tg.Zb) (QS o k Tg.Zb) h (QS o k Tg.Zb) (h.setIfInBounds k x):=(Kp.refl d2 (fun t=>t=Tg.Zb)).set XT rfl x;have s3:=s2.Zf k2;exact⟨⟨s3.1.sl,s3.1.fits,fun b hb=>⟨(s3.1.free b hb).1,(s.1.free b hb).2⟩⟩,s3.2⟩
theorem jj(i:Nat)(n:Nd)(k:Int)(L:List Nat)(Z E:Int)(hu:n.up=true)(h:PZ n.data n.YZ k=(L,Z,E)):XF i n k = { Yr i true L Z JE with up:=false }:=by
 unfold XF;rw[if_pos hu];unfold PZ at h;by_cases c:YW n.data n.YZ
 .rw[if_pos (show (aU n.data)<=100000/\0<=n.YZ/\n.YZ<=(aU n.data) from c)]at h;by_cases q:k<0
  .rw[if_pos q]at h
   cases h
   rw[if_neg (fun e=>by have:=e.2;omega)];rfl
  .rw[if_neg q]at h
   cases h
   rw[if_pos ⟨c,nc⟩];rfl
 .rw[if_neg (show ¬((aU n.data)<=100000/\0<=n.YZ/\n.YZ<=(aU n.data)) from c)]at h
  cases h
  rw[if_neg (fun e=>c e.1)];rfl
theorem jk(w:Wd)(l:YF)(i:Nat):((Q3 w l).Zb i).Zg.length<=(w.Zb i).Zg.length+1:=by
 unfold Q3;split
 .unfold Wd.set;simp only;split
  .next e=>subst e;simp
  .omega
 .omega
theorem cG(i:Nat):∀(ls:List YF) (w:Wd),((ls.foldl Q3 w).Zb i).Zg.length<=(w.Zb i).Zg.length+(aU ls):=by
 intro ls
 induction ls with
 | nil=>intro w;simp
 | cons l ls ih=>
  intro w;have h1:=ih (Q3 w l);have h2:=jk w l i;simp only[List.foldl_cons,bR];omega
end Go.Proofs.YthlfaofofaphfaaGreatDoor
