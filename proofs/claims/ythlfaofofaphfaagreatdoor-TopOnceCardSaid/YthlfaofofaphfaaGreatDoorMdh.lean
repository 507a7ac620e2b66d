/- Part Mdh. -/
import Derived.Test.YthlfaofofaphfaaGreatDoorMoy
open Go.Value renaming int→Q,slice→U,pointer→ag,bool→a6,agg→be
open Go.IntKind renaming i64→O
open Go.Obj renaming cells→ab
open Go.Proofs.Tryz renaming prog→bg
open List renaming length→aD,length_append→aO,append_nil→a5,append_assoc→a8,length_map→a9,range→ba,eraseIdx_eq_take_drop_succ→bf,getElem?_eq_getElem→bo,getElem_map→bp,getElem_mem→bB,length_cons→bG,map_append→bN,nil_append→bR,map→bS
open Nat renaming le_refl→aN,add_sub_cancel_left→bh
open Option renaming isSome_none→bc,isSome_some→bd,getD_none→bk,getD_some→bl,map_none→bz,map_some→bA,some→aa,none→al
open Array renaming size_push→a0
open And renaming intro→b0
open Go renaming Value→a7,World→bn
namespace Go.Proofs.YthlfaofofaphfaaGreatDoor
open Go Go.V
set_option linter.unusedSimpArgs false
set_option linter.unusedVariables false
set_option maxRecDepth 100000
variable{h:Hp}{o:Ow}{wb:Nat}
theorem UW{α:Type}(f:Nat->List α)(m:Nat):(ba (m+1)).flatMap f=(ba m).flatMap f++f m:=by
 rw[List.range_succ,List.flatMap_append];simp
theorem TL{α:Type}(f:Nat->List α)(k m:Nat)(h:∀i,(f i).length<=k):((ba m).flatMap f).length<=m*k:=by
 induction m with
 | zero=>simp
 | succ m ih=>rw[UW,aO,Nat.add_mul];have:=h m;omega
theorem tp{n n':Nd}(hk:n.Zi=n'.Zi)(r:XE)(x:Cm):∀k s,Qo n r x k s=Qo n' r x k s:=by
 intro k
 induction k with
 | zero=>intro s;rfl
 | succ k ih=>intro s;unfold Qo;rw[hk,ih]
theorem An{n n':Nd}(hk:n.Zi=n'.Zi)(hl:n.ZA=n'.ZA)(r:XE)(x:Cm):free n r x=free n' r x:=by
 unfold free;rw[hl,tp hk]
theorem ZaN{n n':Nd}(hk:n.Zi=n'.Zi)(hl:n.ZA=n'.ZA)(r:XE)(x:Cm):Qc n r x=Qc n' r x:=by
 unfold Qc;rw[An hk hl]
theorem j5{n n':Nd}(hk:n.Zi=n'.Zi)(hl:n.ZA=n'.ZA):∀(l:List Cm) (r:XE),Jj n r l=Jj n' r l:=by
 intro l
 induction l with
 | nil=>intro r;rfl
 | cons x l ih=>intro r;show Jj n (Qc n r x) l=Jj n' (Qc n' r x) l;rw[ZaN hk hl,ih]
theorem tq{n n':Nd}(hk:n.Zi=n'.Zi)(LL:List (List Vt)):J6 n LL=J6 n' LL:=by
 funext pr s;unfold J6;rw[hk]
theorem tC{n n':Nd}(hk:n.Zi=n'.Zi)(hl:n.ZA=n'.ZA)(r:XE):Wn n r=Wn n' r:=by
 unfold Wn;rw[hl,tq hk]
theorem Zeh{n n':Nd}(hk:n.Zi=n'.Zi)(hm:n.me=n'.me)(r:XE):VG n r=VG n' r:=by
 funext s;unfold VG PU;rw[hk,hm]
theorem ZaO{n n':Nd}(hk:n.Zi=n'.Zi)(hm:n.me=n'.me)(r:XE):TH n r=TH n' r:=by
 unfold TH;rw[Zeh hk hm]
set_option maxHeartbeats 4000000 in
theorem Zei(T:bn)(h:Hp)(o:Ow)(wb i nb:Nat)(YN:Nat->Nat)(a:NA)(n:Nd)(ra:RA)(r:XE)(Xw:WA)(fl:List YH)(Yy:Nat->Int)(ZE:List Ob)(d:Vz o h)(N:Z6 o h wb i nb { a with Zh:=aa ra } { n with Zh:=aa r })(W:Z1 o h wb YN Xw fl Yy ZE)(tb:dp o h)(Xf:(aD fl)<=900000000000)(hvl:n.Zq.l.length<=1000000)(vB:(aD n.data)<=1000000)(hp:∀x∈r.ZI,x.2.length<=1000000)(hs:∀x∈r.ZI,∀v∈x.2,v.Zu<=1000000)(MV:r.ZI.length<=1000000000000)(hl:n.ZA.length<=1000000000000)(hq:n.Zx.length<=1000000000000):
  Zd bg T 93 #[Zz wb,Zz nb,Zz ra.rb] h fun v' h'=>∃o' a' JD,Kp (JV i) o h o' h'/\Z6 o' h' wb i nb a' (JU { n with Zh:=aa r } r).n/\Z1 o' h' wb YN JD (fl++(JU { n with Zh:=aa r } r).ls) Yy ZE:=by
 refine Zd.XS [_,_,_] Tryz.func93 ?_;obtain⟨h1,Xp⟩:=ZL ((h.push (ab [Zz nb].toArray 98)).push (ab [Zz ra.rb].toArray 106):Hp);have k1:Kp Wy o h o h1:=by rw[Xp];exact ((Kp.refl d _).push _).push _
 have x4:Yb o h1 h.size (ab [Zz nb].toArray 98):=⟨d _ (aN _),by rw[Xp];exact sW _ _ _⟩
 have x5:Yb o h1 (h.size+1) (ab [Zz ra.rb].toArray 106):=⟨d _ pA,by rw[Xp];exact vG _ _ _⟩
 have e0:=Xp.symm;unfold Zz at e0 ⊢;have N1:=N.Zo k1;have W1:=W.Zo k1;have R1:XA o i h1 ra r:=N1.pt.Zh;obtain⟨q0,q2,q3,q4,q5⟩:=R1.rr;have P1:=ZR N1.ZZ.2 N1.pt.store.len;have l4:=Za x4.2;have l5:=Za x5.2;have gk:=Za R1.ZZ.2;have Uh:=Za N1.ZZ.2;have r4:hc h1 ⟨h.size,0,al⟩=aa (Zz nb):=Zn x4.2;have r5:hc h1 ⟨h.size+1,0,al⟩=aa (Zz ra.rb):=Zn x5.2;unfold Zz at r4 r5;have P1p:rd h1 ⟨nb,4,al⟩ 2=aa (QI n.Zq.p):=P1.dq;simp -implicitDefEqProofs only[go_sem,e0];refine VS.mono (N:=fun F' g'=>Zj h1.size h1 g'/\F' 0=ag (aa ⟨wb,0,al⟩)/\F' 4=ag (aa ⟨h.size,0,al⟩)/\F' 5=ag (aa ⟨h.size+1,0,al⟩)/\F' 35=a6 (decide (ZM n.Zq.p r.b))) ?_ ?_ (fun _ _ _ h=>h) (fun _ _ h=>h)
 .refine VS.z (h1.size) [9] (.q 0 (.p 1 (.p 2 (.q 3 (.q 4 (.p 5 (.p 6 (.p 7 (.q 8 (.w 9 .nil)))))))))) mixed vM ?_;simp -implicitDefEqProofs only[go_sem,r4,r5,q0,P1p,l4,l5,gk,Uh];refine (Kb T h1 r.b n.Zq.p).use ?_;rintro _ g ⟨rfl,b⟩;simp -implicitDefEqProofs only[go_sem,b]
 rintro F1 g1 ⟨b1,f0,f4,f5,f35⟩;have kb:=ZX k1.Yn b1
 replace N1:=N1.Zo kb
 replace W1:=W1.Zo kb
 replace k1:=k1.trans kb
 replace x4:=x4.Zf kb
 replace x5:=x5.Zf kb
 have tb1:=tb.Zf k1;clear R1 q0 q2 q3 q4 q5 P1 P1p l4 l5 gk Uh r4 r5 e0;have R1:XA o i g1 ra r:=N1.pt.Zh;obtain⟨q0,q2,q3,q4,q5⟩:=R1.rr;have P1:=ZR N1.ZZ.2 N1.pt.store.len;have l4:=Za x4.2;have l5:=Za x5.2;have gk:=Za R1.ZZ.2;have Uh:=Za N1.ZZ.2;have r4:hc g1 ⟨h.size,0,al⟩=aa (Zz nb):=Zn x4.2;have r5:hc g1 ⟨h.size+1,0,al⟩=aa (Zz ra.rb):=Zn x5.2;unfold Zz at r4 r5;by_cases c1:ZM n.Zq.p r.b
 .have ZaP:=P1.Zq;obtain⟨pv,cv,vH⟩:=N1.pt.XW.ZP;have vH:a.XW=U pv n.Zq.l.length cv:=vH;have ZaP:rd g1 ⟨nb,4,al⟩ 3=aa [Q O n.Zq.p.r,Q O n.Zq.p.n,U pv n.Zq.l.length cv]:=by rw[<-vH];exact ZaP
  have N1v:TY o g1 (U pv n.Zq.l.length cv) n.Zq.l:=by rw[<-vH];exact N1.pt.XW
  unfold QI at q0;have call:∀G,Zj g1.size g1 G->Zd bg T 95 #[be #[Q O n.Zq.p.r,Q O n.Zq.p.n,U pv n.Zq.l.length cv],be #[Q O r.b.r,Q O r.b.n]] G fun v' h'=>bM G.size h' v' n.Zq.p n.Zq.l r.b/\Zj G.size G h':=fun G hG=>
   Pg T G n.Zq.p _ n.Zq.l r.b (N1v.ts.Yz hG) pA
  obtain⟨E,hE⟩:=ZL (YI n.Zq.p n.Zq.l r.b);have wA:∀(G:Hp) (k:Nat) (r m:Int) (p:Option Addr) (L c:Nat),G[k]? = aa (ab [Q O 0,Q O 0,U al 0 0].toArray 105)->wr G ⟨k,0,al⟩ [Q O r,Q O m,U p L c]=aa (G.setIfInBounds k (ab [Q O r,Q O m,U p L c].toArray 105)):=fun G k r m p L c hx=>by
   rw[Ye hx 0 _];rfl
  have wB:∀(G:Hp) (k:Nat) (p:Option Addr) (L c:Nat),G[k]? = aa (ab [U al 0 0].toArray 103)->QX G ⟨k,0,al⟩ (U p L c)=aa (G.setIfInBounds k (ab [U p L c].toArray 103)):=fun G k p L c hx=>by
   rw[Xj hx 0 _];rfl
  simp -implicitDefEqProofs only[go_sem,f35,c1];refine VS.mono (N:=fun F' g'=>Zj g1.size g1 g'/\F' 4=ag (aa ⟨h.size,0,al⟩)/\F' 5=ag (aa ⟨h.size+1,0,al⟩)/\nP g1.size g' (F' 6) (F' 7) n.Zq.p n.Zq.l r.b) ?_ ?_ (fun _ _ _ h=>h) (fun _ _ h=>h)
  .refine VS.z (g1.size) [8,15,16] (.q 0 (.p 1 (.p 2 (.q 3 (.q 4 (.p 5 (.p 6 (.q 7 (.or 8 (.p 9 (.p 10 (.p 11 (.p 12 (.or 13 (.s 14 (.w 15 (.w 16 (.p 17 .nil)))) (.s 14 (.s 13 (.w 15 (.w 16 (.p 17 .nil)))))))))) (.or 13 (.or 8 (.p 9 (.p 10 (.p 11 (.p 12 (.s 14 (.w 15 (.w 16 (.p 17 .nil)))))))) (.s 14 (.w 8 (.p 9 (.p 10 (.p 11 (.p 12 (.w 15 (.w 16 (.p 17 .nil)))))))))) (.s 14 (.or 8 (.p 9 (.p 10 (.p 11 (.p 12 (.s 13 (.w 15 (.w 16 (.p 17 .nil)))))))) (.s 13 (.w 8 (.p 9 (.p 10 (.p 11 (.p 12 (.w 15 (.w 16 (.p 17 .nil))))))))))))))))))))) mixed vM ?_;simp -implicitDefEqProofs only[go_sem,f4,f5,r4,r5,ZaP,q0,Uh,gk,l4,l5];unfold nP Zz XC
   repeat' (first|with_reducible exact Zj.refl _ _|with_reducible exact Zj.push pA _|with_reducible refine b0 ?_ ?_)
   all_goals first
    | (refine (call g1 (Zj.refl _ _)).use ?_
       rintro _ g5 ⟨⟨w1,w2,rfl,o1,o2⟩,b5⟩;obtain⟨p1,c1,rfl,_⟩:=o1.open;obtain⟨p2,c2,rfl,_⟩:=o2.open;rw[<-hE]at *;have s5:=b5.size;unfold XC;simp -implicitDefEqProofs only[go_sem,b5];refine⟨⟨f4,f5,_,_,_,_,rfl,rfl,s5,pA,sW _ _ _,vG _ _ _,(o1.push _).push _,(o2.push _).push _⟩,⟨f4,f5,_,_,_,_,rfl,rfl,pA,s5,vG _ _ _,sW _ _ _,(o1.push _).push _,(o2.push _).push _⟩⟩)
    | (refine (call (g1.push (ab _ 105)) (Zj.push (aN _) _)).use ?_
       rintro _ g5 ⟨⟨w1,w2,rfl,o1,o2⟩,b5⟩;obtain⟨p1,c1,rfl,_⟩:=o1.open;obtain⟨p2,c2,rfl,_⟩:=o2.open;rw[<-hE]at *;have s5:=b5.size;rw[a0]at s5;have B5:Zj g1.size g1 g5:=(Zj.push (aN _) _).trans (b5.mono IQ);have xA:=b5.get (k:=g1.size) IQ Zc;have PM:=wA _ _ (if E=0 then r.b else ⟨0,0⟩).r (if E=0 then r.b else ⟨0,0⟩).n p1 (if E=0 then n.Zq.l else []).length c1 xA;have zA:=Za xA;unfold XC;simp -implicitDefEqProofs only[go_sem,B5,PM,zA];exact⟨f4,f5,_,_,_,_,rfl,rfl,aN _,pA,by rw[ZJ (by simpa using zA)];exact ZV xA,gs2 _ _ _ _,((o1.Ya IQ _).push _).mono IQ,((o2.Ya IQ _).push _).mono IQ⟩)
    | (refine (call (g1.push (ab _ 103)) (Zj.push (aN _) _)).use ?_
       rintro _ g5 ⟨⟨w1,w2,rfl,o1,o2⟩,b5⟩;obtain⟨p1,c1,rfl,_⟩:=o1.open;obtain⟨p2,c2,rfl,_⟩:=o2.open;rw[<-hE]at *;have s5:=b5.size;rw[a0]at s5;have B5:Zj g1.size g1 g5:=(Zj.push (aN _) _).trans (b5.mono IQ);have xB:=b5.get (k:=g1.size) IQ Zc;have FX:=wB _ _ p2 (if E=0 then n.Zq.l else []).length c2 xB;have zB:=Za xB;unfold XC;simp -implicitDefEqProofs only[go_sem,B5,FX,zB];exact⟨f4,f5,_,_,_,_,rfl,rfl,pA,aN _,gs2 _ _ _ _,by rw[ZJ (by simpa using zB)];exact ZV xB,((o1.Ya IQ _).push _).mono IQ,((o2.Ya IQ _).push _).mono IQ⟩)
    | (refine (call ((g1.push (ab _ 105)).push (ab _ 103)) ((Zj.push (aN _) _).YX IQ _)).use ?_
       rintro _ g5 ⟨⟨w1,w2,rfl,o1,o2⟩,b5⟩;obtain⟨p1,c1,rfl,_⟩:=o1.open;obtain⟨p2,c2,rfl,_⟩:=o2.open;rw[<-hE]at *;have s5:=b5.size;rw[a0,a0]at s5;have B5:Zj g1.size g1 g5:=((Zj.push (aN _) _).YX IQ _).trans (b5.mono VL);have xA:=b5.get (k:=g1.size) VL (sW _ _ _);have xB:=b5.get (k:=g1.size+1) IQ (vG _ _ _);have PM:=wA _ _ (if E=0 then r.b else ⟨0,0⟩).r (if E=0 then r.b else ⟨0,0⟩).n p1 (if E=0 then n.Zq.l else []).length c1 xA;have zA:=Za xA;have Ig:=fun o:Obj=>(Xg (o:=o) (show g1.size≠g1.size+1 by omega)).trans xB;have FX:=fun o:Obj=>wB _ _ p2 (if E=0 then n.Zq.l else []).length c2 (Ig o);have zB:g1.size+1<g5.size:=Za xB;unfold XC;simp -implicitDefEqProofs only[go_sem,B5,PM,zA,FX,zB];exact⟨f4,f5,_,_,_,_,rfl,rfl,pA,pA,(Xg pA).trans (ZV xA),ZV (Ig _),((o1.Ya VL _).Ya IQ _).mono VL,((o2.Ya VL _).Ya IQ _).mono VL⟩)
    | (refine (call ((g1.push (ab _ 103)).push (ab _ 105)) ((Zj.push (aN _) _).YX IQ _)).use ?_
       rintro _ g5 ⟨⟨w1,w2,rfl,o1,o2⟩,b5⟩;obtain⟨p1,c1,rfl,_⟩:=o1.open;obtain⟨p2,c2,rfl,_⟩:=o2.open;rw[<-hE]at *;have s5:=b5.size;rw[a0,a0]at s5;have B5:Zj g1.size g1 g5:=((Zj.push (aN _) _).YX IQ _).trans (b5.mono VL);have xB:=b5.get (k:=g1.size) VL (sW _ _ _);have xA:=b5.get (k:=g1.size+1) IQ (vG _ _ _);have PM:=wA _ _ (if E=0 then r.b else ⟨0,0⟩).r (if E=0 then r.b else ⟨0,0⟩).n p1 (if E=0 then n.Zq.l else []).length c1 xA;have zA:=Za xA;have Ig:=fun o:Obj=>(Xg (o:=o) (show g1.size+1≠g1.size by omega)).trans xB;have FX:=fun o:Obj=>wB _ _ p2 (if E=0 then n.Zq.l else []).length c2 (Ig o);have zB:g1.size<g5.size:=Za xB;unfold XC;simp -implicitDefEqProofs only[go_sem,B5,PM,zA,FX,zB];exact⟨f4,f5,_,_,_,_,rfl,rfl,pA,pA,(Xg pA).trans (ZV xA),ZV (Ig _),((o1.Ya IQ _).Ya VL _).mono VL,((o2.Ya IQ _).Ya VL _).mono VL⟩)
  rintro F2 g2 ⟨b2,f4,f5,ka,kc,w1,w2,fA,fC,ge1,ge2,yA,yC,o1,o2⟩;rw[<-hE]at yA o1 o2;obtain⟨A,hA⟩:∃A:UP,A=if E=0 then ⟨r.b,n.Zq.l⟩ else JN:=⟨_,rfl⟩
  obtain⟨V,hV⟩:∃V:List Vt,V=if E=0 then n.Zq.l else []:=⟨_,rfl⟩
  have hAp:(if E=0 then r.b else ⟨0,0⟩)=A.p:=by rw[hA];split<;>rfl
  have hAl:(if E=0 then n.Zq.l else [])=A.l:=by rw[hA];split<;>rfl
  have hVl:(if E=0 then n.Zq.l else [])=V:=hV.symm;rw[hAp]at yA;rw[hAl]at o1;rw[hVl]at o2;have NM:=ZX k1.Yn b2;have N2:=N1.Zo NM;have W2:=W1.Zo NM;have K2:=k1.trans NM;have z4:=x4.Zf NM;have z5:=x5.Zf NM;have iO:=tb1.Zf NM;have R2:XA o i g2 ra r:=N2.pt.Zh;obtain⟨u0,_,_,_,_⟩:=R2.rr;unfold QI at u0;have iv7:TY o g2 w2 V:=Im.WS o2.Zq (fun b hb=>k1.Yn b hb);have iv6:TY o g2 w1 A.l:=Im.WS o1.Zq (fun b hb=>k1.Yn b hb);have z6:Yb o g2 ka _:=⟨k1.Yn ka ge1,yA⟩
  have z7:Yb o g2 kc _:=⟨k1.Yn kc ge2,yC⟩
  have P2:=ZR N2.ZZ.2 N2.pt.store.len;have m4:=Za z4.2;have m5:=Za z5.2;have mr:=Za R2.ZZ.2;have Us:=Za N2.ZZ.2;have s4:hc g2 ⟨h.size,0,al⟩=aa (Zz nb):=Zn z4.2;have s5:hc g2 ⟨h.size+1,0,al⟩=aa (Zz ra.rb):=Zn z5.2;unfold Zz at s4 s5 fA fC;have R3t:=P2.tape;obtain⟨pd,cd,Oc⟩:=N2.pt.data.1.ZP;have Oc:a.data=U pd (aD n.data) cd:=Oc;have R3t:rd g2 ⟨nb,2,al⟩ 2=aa [U pd (aD n.data) cd,Q O n.Y4]:=by rw[<-Oc];exact R3t
  have N2d:Pv o g2 (U pd (aD n.data) cd) n.data:=by rw[<-Oc];exact N2.pt.data
  obtain⟨E2,sX⟩:=ZL (Jp n.data n.Y4 r.b);have call2:∀G,Zj g2.size g2 G->Zd bg T 107 #[be #[U pd (aD n.data) cd,Q O n.Y4],be #[Q O r.b.r,Q O r.b.n]] G fun v' h'=>Pk G.size h' v' n.data n.Y4 E2 (YV (JT r.b))/\Zj G.size G h':=fun G hG=>by
   rw[sX];exact I6 T G _ n.Y4 n.data r.b (N2d.bs.Yz hG) pA (iO.tk.Qj hG)
  have wT:∀(G:Hp) (k:Nat) (m:Int) (p:Option Addr) (L c:Nat),G[k]? = aa (ab [U al 0 0,Q O 0].toArray 100)->wr G ⟨k,0,al⟩ [U p L c,Q O m]=aa (G.setIfInBounds k (ab [U p L c,Q O m].toArray 100)):=fun G k m p L c hx=>by
   rw[Ye hx 0 _];rfl
  refine VS.mono (N:=fun F' g'=>Zj g2.size g2 g'/\F' 4=ag (aa ⟨h.size,0,al⟩)/\F' 5=ag (aa ⟨h.size+1,0,al⟩)/\F' 6=ag (aa ⟨ka,0,al⟩)/\F' 7=ag (aa ⟨kc,0,al⟩)/\F' 10=Q O E2/\Cl g2.size g' (F' 9) n.data n.Y4 E2 (YV (JT r.b))) ?_ ?_ (fun _ _ _ h=>h) (fun _ _ h=>h)
  .refine VS.z (g2.size) [8,13] (.q 0 (.p 1 (.p 2 (.q 3 (.q 4 (.p 5 (.p 6 (.q 7 (.or 8 (.p 9 (.p 10 (.p 11 (.s 12 (.w 13 (.p 14 .nil)))))) (.s 12 (.w 8 (.p 9 (.p 10 (.p 11 (.w 13 (.p 14 .nil)))))))))))))))) mixed vM ?_;simp -implicitDefEqProofs only[go_sem,f4,f5,fA,fC,s4,s5,R3t,u0,m4,m5,mr,Us];unfold Cl
   repeat' (first|with_reducible exact Zj.refl _ _|with_reducible exact Zj.push pA _|with_reducible refine b0 ?_ ?_)
   all_goals first
    | (refine (call2 g2 (Zj.refl _ _)).use ?_
       rintro _ g5 ⟨⟨w,rfl,o1⟩,b5⟩;obtain⟨p1,c1,rfl,_⟩:=o1.bs.open;have s5:=b5.size;simp -implicitDefEqProofs only[go_sem,b5];exact⟨f4,f5,fA,fC,_,_,rfl,s5,Zc,o1.push _⟩)
    | (refine (call2 (g2.push (ab _ 100)) (Zj.push (aN _) _)).use ?_
       rintro _ g5 ⟨⟨w,rfl,o1⟩,b5⟩;obtain⟨p1,c1,rfl,_⟩:=o1.bs.open;have B5:Zj g2.size g2 g5:=(Zj.push (aN _) _).trans (b5.mono IQ);have xA:=b5.get (k:=g2.size) IQ Zc;have PM:=wT _ _ (if E2=0 then n.Y4 else 0) p1 (if E2=0 then n.data++YV (JT r.b) else []).length c1 xA;have zA:=Za xA;simp -implicitDefEqProofs only[go_sem,B5,PM,zA];exact⟨f4,f5,fA,fC,_,_,rfl,aN _,ZV xA,(o1.Ya IQ _).mono IQ⟩)
  rintro F3 g3 ⟨b3,f4,f5,f6,f7,f10,kt,wt,fT,ge3,yT,oT⟩;have TZ:=ZX K2.Yn b3;have N4:=N2.Zo TZ;have W4:=W2.Zo TZ;have K4:Kp Wy o h o g3:=K2.Yz b3;by_cases e2:E2=0
  case neg=>
   have eP:JU { n with Zh:=aa r } r=⟨{ n with Zh:=aa r },[],[]⟩:=by unfold JU;rw[if_pos c1,if_pos (by rw[<-sX];exact e2)]
   rw[eP,a5];simp -implicitDefEqProofs only[go_sem,f10,e2];exact⟨o,_,Xw,Z0 K4,N4,W4⟩
  rw[if_pos e2]at yT oT;have u4:=z4.Zf TZ;have u5:=z5.Zf TZ;have u6:=z6.Zf TZ;have u7:=z7.Zf TZ;have iu6:=iv6.Zf TZ;have iu7:=iv7.Zf TZ;have iT:Pv o g3 wt (n.data++YV (JT r.b)):=⟨Im.WS oT.Zq (fun b hb=>K2.Yn b hb),oT.byte⟩
  have eP:JU { n with Zh:=aa r } r=⟨{ n with Zh:=aa r,data:=n.data++YV (JT r.b),Zs:=aa (.Zq A V true) },[],[]⟩:=by
   unfold JU;rw[if_pos c1,if_neg (by rw[<-sX];simpa using e2),hA,hV,hE]
  rw[eP,a5];obtain⟨pt,ct,rfl,_⟩:=oT.bs.open;have v4:hc g3 ⟨h.size,0,al⟩=aa (Zz nb):=Zn u4.2;have vT:rd g3 ⟨kt,0,al⟩ 2=aa [U pt (n.data++YV (JT r.b)).length ct,Q O n.Y4]:=Zy yT rfl;have HX:=Za N4.ZZ.2;obtain⟨g4,w4,N5,k5⟩:=Yi.write (a:={ a with Zh:=aa ra,data:=U pt (n.data++YV (JT r.b)).length ct }) (n:={ n with Zh:=aa r,data:=n.data++YV (JT r.b) }) { N4.pt with data:=iT } K4.Yn N4.ZZ ((XM N4.ZZ.2 N4.pt.store.len).tape (U pt (n.data++YV (JT r.b)).length ct) n.Y4 rfl);have v4':hc g4 ⟨h.size,0,al⟩=aa (Zz nb):=Zn (u4.Zf k5).2;have MI:=Za N5.ZZ.2;have pn:Vu o g4 wb i nb (aa ra) (Sa 115 [ka,h.size,kc,h.size+1]) (aa (.Zq A V true)):=
   ⟨ka,h.size,kc,h.size+1,w2,ra.rb,rfl,⟨_,u6.Zf k5,iu6.Zf k5⟩,u4.Zf k5,u7.Zf k5,iu7.Zf k5,u5.Zf k5,by rw[if_pos rfl];exact⟨ra,rfl,rfl⟩⟩
  obtain⟨g6,w6,N6,k6⟩:=Yi.write (a:={ a with Zh:=aa ra,data:=U pt (n.data++YV (JT r.b)).length ct,Zs:=Sa 115 [ka,h.size,kc,h.size+1] }) (n:={ n with Zh:=aa r,data:=n.data++YV (JT r.b),Zs:=aa (.Zq A V true) }) { N5.pt with Zs:=pn } k5.Yn N5.ZZ ((XM N5.ZZ.2 N5.pt.store.len).Zs (Sa 115 [ka,h.size,kc,h.size+1]) rfl);unfold Sa at w6;simp only[bS]at w6;unfold Zz at v4 v4' w6;simp -implicitDefEqProofs only[go_sem,f10,e2,f4,f5,f6,f7,fT,v4,vT,w4,HX,v4',w6,MI];have K6:Kp (JV i) o h o g6:=((Z0 K4).trans (k5.mono fun t q=>.inr (.inr (.inr (by rw[q];rfl))))).trans (k6.mono fun t q=>.inr (.inr (.inr (by rw[q];rfl))));exact⟨o,_,Xw,K6,N6,(W4.Zf k5 (by rintro t rfl;simp[Tg.of])).Zf k6 (by rintro t rfl;simp[Tg.of])⟩
 by_cases c2:5<2*r.ZI.length
 case neg=>
  have eP:JU { n with Zh:=aa r } r=⟨{ n with Zh:=aa r },Pq n r,[]⟩:=by unfold JU;rw[if_neg c1,if_pos c2];rfl
  rw[eP];have lm:=fun (K:a7->Hp->Prop) (cs:Array Bool) (ty:TypeId)=>R7 (T:=T) (K:=K) (ty:=ty) (cs:=cs) Hc R1.ZI.2;rw[R1.OO.length]at lm;simp -implicitDefEqProofs only[go_sem,f0,f4,f5,f35,c1,r4,r5,q2,lm];refine (Gm T g1 r.ZI.length MV).use ?_;rintro _ _ ⟨rfl,rfl⟩;simp -implicitDefEqProofs only[go_sem,c2,f0,f4,f5];obtain⟨pf,hpf⟩:∃pf:Nat->List YH,pf=fun (m:Nat)=>if Yh r.ZI (m:Int)=al then [⟨0,n.me,m,r.b,SU,[]⟩] else []:=⟨_,rfl⟩
  have Znh:Pq n r=(ba 5).flatMap pf:=by rw[hpf];rfl
  have Zv8:∀m,(pf m).length<=1:=fun m=>by rw[hpf];simp only;split<;>simp
  rw[Znh];clear r4 r5 q0 q2 q3 q4 q5 l4 l5 gk Uh P1 R1 lm Znh;refine VS.Yk (fun F g=>F 0=ag (aa ⟨wb,0,al⟩)/\F 4=ag (aa ⟨h.size,0,al⟩)/\F 5=ag (aa ⟨h.size+1,0,al⟩)/\∃(m:Nat) (o':Ow) (JD:WA),m<=5/\F 78=Q O m/\Kp nH o h o' g/\Z6 o' g wb i nb { a with Zh:=aa ra } { n with Zh:=aa r }/\Z1 o' g wb YN JD (fl++(ba m).flatMap pf) Yy ZE/\Yb o' g h.size (ab [Zz nb].toArray 98)/\Yb o' g (h.size+1) (ab [Zz ra.rb].toArray 106))
   (fun F _=>5-(vi (F 78)).toNat) rfl ⟨f0,f4,f5,0,o,Xw,pA,rfl,Z0 k1,N1,by simpa using W1,x4,x5⟩ ?_
  rintro F2 g2 ⟨f0,f4,f5,m,o2,WA2,hm,f78,K2,N2,W2,x4,x5⟩;by_cases ZT:m<5
  .have Z7:(m:Int)<5:=pA;have R2:XA o2 i g2 ra r:=N2.pt.Zh;obtain⟨q0,q2,q3,q4,q5⟩:=R2.rr;have P2:=ZR N2.ZZ.2 N2.pt.store.len;have l4:=Za x4.2;have l5:=Za x5.2;have gk:=Za R2.ZZ.2;have Us:=Za N2.ZZ.2;have r4:hc g2 ⟨h.size,0,al⟩=aa (Zz nb):=Zn x4.2;have r5:hc g2 ⟨h.size+1,0,al⟩=aa (Zz ra.rb):=Zn x5.2;unfold Zz at r4 r5;unfold QI at q0;have lk:=fun (K:a7->Hp->Prop)=>Xi (K:=K) (n:=(m:Int)) (c:=true) Hc Zat R2.ZI.2;have hpm:pf m=if Yh r.ZI (m:Int)=al then [⟨0,n.me,m,r.b,SU,[]⟩] else []:=by rw[hpf]
   rcases R2.OO.Yh (m:Int) with⟨z1,z2⟩|⟨w,vs,z1,z2,iv⟩
   .rw[if_pos z2]at hpm;simp only[z1,bk,bc,↓reduceIte]at lk;simp -implicitDefEqProofs only[go_sem,f0,f4,f5,f78,Z7,r5,q2,lk];refine VS.z (g2.size) [8] (.p 0 (.q 1 (.p 2 (.q 3 (.p 4 (.p 5 (.q 6 (.p 7 (.w 8 .nil))))))))) mixed vM ?_;simp -implicitDefEqProofs only[go_sem,f0,f4,f5,f78,r4,r5,q0,l4,l5,gk];have rl:(fl++(ba m).flatMap pf).length<=1000000000000:=by
     have:=TL pf 1 m Zv8;rw[aO];omega
    refine (V3 T g2 o2 wb nb YN n.me WA2 _ Yy ZE (m:Int) ⟨0,0,0,r.b,SU,[]⟩ (U al 0 0) K2.Yn W2 P2.me Us (Im.nil _ _ _ _) rl).use ?_;rintro v' g3 ⟨o3,WA3,k3,_,W3⟩;simp -implicitDefEqProofs only[go_sem,f78];unfold XN;refine⟨⟨f0,f4,f5,m+1,o3,WA3,ZT,rfl,K2.trans k3,N2.Zf k3 (by rintro t (rfl|rfl)<;>simp[Tg.of]),by rw[UW,hpm,<-a8];exact W3,x4.Zf k3,x5.Zf k3⟩,?_⟩;simp only[vi,Zr,↓reduceIte,f78];omega
   .rw[if_neg (by rw[z2];simp)]at hpm;obtain⟨pw,cw,rfl⟩:=iv.ZP;simp only[z1,bl,bd,↓reduceIte]at lk;simp -implicitDefEqProofs only[go_sem,f0,f4,f5,f78,Z7,r5,q2,lk];unfold XN;refine⟨⟨f0,f4,f5,m+1,o2,WA2,ZT,rfl,K2,N2,by rw[UW,hpm,a5];exact W2,x4,x5⟩,?_⟩;simp only[vi,Zr,↓reduceIte,f78];omega
  .have Xv:¬(m:Int)<5:=pA;obtain rfl:m=5:=pA;simp -implicitDefEqProofs only[go_sem,f78,Xv];exact⟨o2,_,WA2,K2.mono (fun t q=>by rcases q with rfl|rfl<;>simp[JV]),N2,W2⟩
 have lm:=fun (K:a7->Hp->Prop) (cs:Array Bool) (ty:TypeId)=>R7 (T:=T) (K:=K) (ty:=ty) (cs:=cs) Hc R1.ZI.2;rw[R1.OO.length]at lm;obtain⟨r1,HP⟩:=ZL (if r.XU=true then r else Wn n r);have eP:JU { n with Zh:=aa r } r=⟨{ n with Zh:=aa (Jj n r1 n.Zx) },TH n (Jj n r1 n.Zx),[]⟩:=by
  unfold JU;rw[if_neg c1,if_neg (by simpa using c2)];have e1:X9 { n with Zh:=aa r } r=Jj n r1 n.Zx:=by
   unfold X9;rw[HP,tC (n:={ n with Zh:=aa r }) (n':=n) rfl rfl,j5 (n:={ n with Zh:=aa r }) (n':=n) rfl rfl]
  rw[e1,ZaO (n:={ n with Zh:=aa r }) (n':=n) rfl rfl]
 rw[eP];simp -implicitDefEqProofs only[go_sem,f0,f4,f5,f35,c1,r4,r5,q2,lm];refine (Gm T g1 r.ZI.length MV).use ?_;rintro _ g' ⟨rfl,EL⟩;rw[EL]
 cases cb:r.XU
 all_goals
 first
 | (rw[cb,if_neg IQ]at HP
    rw[cb]at q3;simp -implicitDefEqProofs only[go_sem,c2,f0,f4,f5,r4,r5,q3];refine (ZaM T g1 o wb i nb a n ra r k1.Yn N1 hp hs hl).use ?_;rintro v' g2 ⟨ra1,HU,kx,N3⟩;rw[<-HP]at N3;have kx':Kp (JV i) o g1 o g2:=kx.mono fun t q=>.inr (.inr (.inr (If q)));have W3:=W1.Zf kx (by intro t q;rw[If q];simp);have y4:=x4.Zf kx;have y5:=x5.Zf kx;have K3:Kp (JV i) o h o g2:=(Z0 k1).trans kx')
 | (rw[cb,if_pos rfl]at HP
    rw[cb]at q3;simp -implicitDefEqProofs only[go_sem,c2,f0,f4,f5,r4,r5,q3];obtain⟨g2,Wv⟩:=ZL (g1);obtain⟨ra1,sV⟩:=ZL (ra);have HU:ra1.rb=ra.rb:=by rw[sV]
    have N3:Z6 o g2 wb i nb { a with Zh:=aa ra1 } { n with Zh:=aa r1 }:=by rw[sV,HP,Wv];exact N1
    have W3:Z1 o g2 wb YN Xw fl Yy ZE:=by rw[Wv];exact W1
    have y4:Yb o g2 h.size (ab [Zz nb].toArray 98):=by rw[Wv];exact x4
    have y5:Yb o g2 (h.size+1) (ab [Zz ra.rb].toArray 106):=by rw[Wv];exact x5
    have K3:Kp (JV i) o h o g2:=by rw[Wv];exact Z0 k1
    rw[<-Wv])
 all_goals
  clear r4 r5 q0 q2 q3 q4 q5 l4 l5 gk Uh P1 R1 lm;have P3:=ZR N3.ZZ.2 N3.pt.store.len;obtain⟨pq,cq,hpq,_⟩:=XB.ZP N3.pt.Zx;have hpq:a.Zx=U pq n.Zx.length cq:=hpq;have P3q:hc g2 ⟨nb,52,al⟩=aa (U pq n.Zx.length cq):=by rw[<-hpq];exact P3.Zx
  have r4:hc g2 ⟨h.size,0,al⟩=aa (Zz nb):=Zn y4.2;have r5:hc g2 ⟨h.size+1,0,al⟩=aa (Zz ra.rb):=Zn y5.2;unfold Zz at r4 r5;simp -implicitDefEqProofs only[go_sem,f0,f4,f5,r4,r5,P3q];clear r4 r5 P3q P3;refine VS.Yk (fun F g=>F 0=ag (aa ⟨wb,0,al⟩)/\F 4=ag (aa ⟨h.size,0,al⟩)/\F 5=ag (aa ⟨h.size+1,0,al⟩)/\F 113=U pq n.Zx.length cq/\F 114=Q O n.Zx.length/\∃(j:Nat) (ra':RA),j<=n.Zx.length/\F 115=Q O j/\Kp (JV i) o h o g/\ra'.rb=ra.rb/\Z6 o g wb i nb { a with Zh:=aa ra' } { n with Zh:=aa (Jj n r1 (n.Zx.take j)) }/\Z1 o g wb YN Xw fl Yy ZE/\Yb o g h.size (ab [Zz nb].toArray 98)/\Yb o g (h.size+1) (ab [Zz ra.rb].toArray 106))
   (fun F _=>n.Zx.length-(vi (F 115)).toNat) rfl ⟨f0,f4,f5,rfl,rfl,0,ra1,pA,rfl,K3,HU,N3,W3,y4,y5⟩ ?_
  clear f0 f4 f5 y4 y5 K3 N3 W3 HU;rintro F3 g3 ⟨f0,f4,f5,f113,f114,j,ra',hj,f115,K3,HU,N3,W3,y4,y5⟩;obtain⟨rj,hrj⟩:=ZL (Jj n r1 (n.Zx.take j));rw[<-hrj]at N3;have r4:hc g3 ⟨h.size,0,al⟩=aa (Zz nb):=Zn y4.2;have r5:hc g3 ⟨h.size+1,0,al⟩=aa (Zz ra.rb):=Zn y5.2;unfold Zz at r4 r5;have l4:=Za y4.2;have l5:=Za y5.2;by_cases ZT:j<n.Zx.length
  .have Z7:(j:Int)<n.Zx.length:=pA;obtain⟨pz,cz,Bw,jq⟩:=Qp N3.pt.Zx.ts;obtain⟨bb,oo,hz3,TC,Kc⟩:=jq (by intro e;have:n.Zx=[]:=e;rw[this]at ZT;simp at ZT);have Bw:a.Zx=U pz n.Zx.length cz:=Bw;rw[hpq]at Bw;simp only[Value.slice.injEq]at Bw;obtain⟨rfl,_,rfl⟩:=Bw;subst hz3;have re:rd g3 ⟨bb,oo+j*5,al⟩ 5=aa (n.Zx[j]).C:=Kc j ZT;obtain⟨x,hx⟩:=ZL (n.Zx[j]);rw[<-hx]at re;have XI:Jj n r1 (n.Zx.take (j+1))=Qc n rj x:=by
    rw[Y8 _ j ZT,<-hx,hrj];unfold Jj;rw[List.foldl_append];rfl
   obtain⟨g4,HW⟩:=ZL (g3.push (ab x.C.toArray 25):Hp);have k4:Kp Wy o g3 o g4:=by rw[HW];exact Yw K3.Yn _
   have x4':Yb o g4 g3.size (ab x.C.toArray 25):=⟨K3.Yn _ (aN _),by rw[HW];exact Zc⟩
   have e4:=HW.symm;have N4:=N3.Zo k4;have R4:XA o i g4 ra' rj:=N4.pt.Zh;have z4:=y4.Zf k4;have z5:=y5.Zf k4;have s4:hc g4 ⟨h.size,0,al⟩=aa (Zz nb):=Zn z4.2;have s5:hc g4 ⟨h.size+1,0,al⟩=aa (Zz ra'.rb):=by rw[HU];exact Zn z5.2
   have sx:rd g4 ⟨g3.size,0,al⟩ 5=aa x.C:=Zy x4'.2 rfl;have cf:=Zee T g4 o wb i nb { a with Zh:=aa ra' } { n with Zh:=aa rj } ra' rj x k4.Yn N4 R4 hl;rw[show VP { n with Zh:=aa rj } rj x=VP n rj x from by unfold VP;rw[An (n:={ n with Zh:=aa rj }) (n':=n) rfl rfl],An (n:={ n with Zh:=aa rj }) (n':=n) rfl rfl]at cf;unfold Sy Zz at cf;unfold Zz at s4 s5;simp -implicitDefEqProofs only[go_sem,f0,f4,f5,f113,f114,f115,Z7,re,e4,s4,s5,sx];refine cf.use ?_;rintro _ g5 ⟨rfl,b5⟩;have k5:=ZX k4.Yn b5;have K5:Kp (JV i) o h o g5:=(K3.trans (Z0 k4)).trans (Z0 k5);have N5:=N4.Zo k5;have R5:XA o i g5 ra' rj:=N5.pt.Zh;have W5:=(W3.Zo k4).Zo k5;have u4:=z4.Zf k5;have u5:=z5.Zf k5;have ux:=x4'.Zf k5
   cases hf:free n rj x with
   | none=>
    have e1:Qc n rj x=rj:=by unfold Qc;rw[hf]
    simp -implicitDefEqProofs only[go_sem,bc,f115];unfold XN;refine⟨⟨f0,f4,f5,f113,f114,j+1,ra',ZT,rfl,K5,HU,by rw[XI,e1];exact N5,W5,u4,u5⟩,?_⟩;simp only[vi,Zr,↓reduceIte,f115];omega
   | some sl=>
    have e1:Qc n rj x = { rj with ZY:=ins rj.ZY (sl:Int) x }:=by unfold Qc;rw[hf]
    have e2:VP n rj x=sl:=by unfold VP;rw[hf]
    rw[e2];simp -implicitDefEqProofs only[go_sem,bd];have t5:hc g5 ⟨h.size+1,0,al⟩=aa (Zz ra'.rb):=by rw[HU];exact Zn u5.2
    unfold Zz at t5;have tx:rd g5 ⟨g3.size,0,al⟩ 5=aa x.C:=Zy ux.2 rfl;obtain⟨_,_,_,t4,_⟩:=R5.rr;have m5:=Za u5.2;have mr:=Za R5.ZZ.2;have mx:=Za ux.2;refine VS.z (g5.size) [6] (.q 0 (.p 1 (.p 2 (.q 3 (.p 4 (.q 5 (.w 6 .nil))))))) mixed vM ?_;simp -implicitDefEqProofs only[go_sem,f5,t5,t4,tx,m5,mr,mx];rw[Qk Rz R5.ZY.2];obtain⟨k6,R6⟩:=R5.nT K5.Yn (k:=(sl:Int)) (x:=x);have k6':Kp (JY i) o g5 o _:=k6.mono fun t q=>.inr (.inr (.inl q));have k6a:Kp (JV i) o g5 o _:=k6.mono fun t q=>.inr (.inr (.inr (by rw[q];rfl)));simp -implicitDefEqProofs only[go_sem,f115];unfold XN;refine⟨⟨f0,f4,f5,f113,f114,j+1,ra',ZT,rfl,K5.trans k6a,HU,?_,W5.Zf k6 (by rintro t rfl;simp[Tg.of]),u4.Zf k6,u5.Zf k6⟩,?_⟩
    .rw[XI,e1];exact⟨N5.ZZ.Zf k6 Va,Yi.Wa N5.pt k6' rfl rfl R6⟩
    .simp only[vi,Zr,↓reduceIte,f115];omega
  .have Xv:¬(j:Int)<n.Zx.length:=pA;obtain rfl:j=n.Zx.length:=pA;rw[List.take_length]at hrj;simp -implicitDefEqProofs only[go_sem,f114,f115,Xv];rw[<-hrj];obtain⟨r2,hr2⟩:=ZL (rj);rw[<-hr2]at N3 ⊢;have Znj:∀s x m,(PU n r2 s x m).length<=1:=fun s x m=>by unfold PU;split<;>simp
   have Znk:∀s,(VG n r2 s).length<=5:=fun s=>by
    unfold VG;split
    .split
     .exact TL _ 1 5 (Znj s _)
     .simp
    .simp
   clear r4 r5 l4 l5;refine VS.Yk (fun F g=>F 0=ag (aa ⟨wb,0,al⟩)/\F 4=ag (aa ⟨h.size,0,al⟩)/\F 5=ag (aa ⟨h.size+1,0,al⟩)/\∃(s:Nat) (o':Ow) (JD:WA),s<=40/\F 134=Q O s/\Kp (JV i) o h o' g/\Z6 o' g wb i nb { a with Zh:=aa ra' } { n with Zh:=aa r2 }/\Z1 o' g wb YN JD (fl++(ba s).flatMap (VG n r2)) Yy ZE/\Yb o' g h.size (ab [Zz nb].toArray 98)/\Yb o' g (h.size+1) (ab [Zz ra.rb].toArray 106))
    (fun F _=>40-(vi (F 134)).toNat) rfl ⟨f0,f4,f5,0,o,Xw,pA,rfl,K3,N3,by simpa using W3,y4,y5⟩ ?_
   clear f0 f4 f5 y4 y5 K3 N3 W3;rintro F4 g4 ⟨f0,f4,f5,s,o4,nU,hs4,f134,K4,N4,W4,y4,y5⟩;by_cases i7:s<40
   case neg=>
    have Zha:¬(s:Int)<40:=pA;obtain rfl:s=40:=pA;simp -implicitDefEqProofs only[go_sem,f134,Zha];exact⟨o4,_,nU,K4,N4,W4⟩
   have IU:(s:Int)<40:=pA;have R4:XA o4 i g4 ra' r2:=N4.pt.Zh;obtain⟨_,_,_,t4,t5⟩:=R4.rr;have P4:=ZR N4.ZZ.2 N4.pt.store.len;have r4:hc g4 ⟨h.size,0,al⟩=aa (Zz nb):=Zn y4.2;have r5:hc g4 ⟨h.size+1,0,al⟩=aa (Zz ra'.rb):=by rw[HU];exact Zn y5.2
   unfold Zz at r4 r5;have l4:=Za y4.2;have l5:=Za y5.2;have n4:¬h.size=g4.size:=pA;have n5:¬h.size+1=g4.size:=pA;have nnb:¬nb=g4.size:=by have:=Za N4.ZZ.2;omega
   have Co:=fun (K:a7->Hp->Prop)=>Xi (K:=K) (n:=(s:Int)) (c:=true) Rz L4 R4.ZY.2;rw[Js]at Co;have SZ:=fun (K:a7->Hp->Prop) (z:Obj)=>Xi (h:=g4.push z) (K:=K) (n:=(s:Int)) (c:=true) Rz L4 ((ZJ (Za N4.pt.Zi.2)).trans N4.pt.Zi.2);simp only[Js,show ({ n with Zh:=aa r2 }:Nd).Zi=n.Zi from rfl]at SZ;have nb4:∀x y:Obj,Kp Wy o4 g4 o4 ((g4.push x).push y):=fun x y=>(Yw K4.Yn _).push _;have skip:∀(x y:Obj),VG n r2 s=[]->Z6 o4 ((g4.push x).push y) wb i nb { a with Zh:=aa ra' } { n with Zh:=aa r2 }/\Z1 o4 ((g4.push x).push y) wb YN nU (fl++(ba (s+1)).flatMap (VG n r2)) Yy ZE/\Yb o4 ((g4.push x).push y) h.size (ab [Zz nb].toArray 98)/\Yb o4 ((g4.push x).push y) (h.size+1) (ab [Zz ra.rb].toArray 106):=fun x y hz=>
    ⟨N4.Zo (nb4 x y),by rw[UW,hz,a5];exact W4.Zo (nb4 x y),y4.Zf (nb4 x y),y5.Zf (nb4 x y)⟩
   cases c3:Yh r2.ZY (s:Int) with
   | none=>
    have hz:VG n r2 s=[]:=by unfold VG;rw[c3]
    simp only[c3,bz,bk,bc,↓reduceIte]at Co
    cases c4:Yh n.Zi (s:Int) with
    | none=>
     simp only[c4,bz,bk,bc,↓reduceIte]at SZ;simp -implicitDefEqProofs only[go_sem,f0,f4,f5,f134,IU,r5,t4,r4,n4,n5,nnb,Co,SZ,P4.Zi];unfold XN;refine⟨⟨f0,f4,f5,s+1,o4,nU,i7,rfl,K4.trans (Z0 (nb4 _ _)),skip _ _ hz⟩,?_⟩;simp only[vi,Zr,↓reduceIte,f134];omega
    | some y=>
     simp only[c4,bA,bl,bd,↓reduceIte]at SZ;simp -implicitDefEqProofs only[go_sem,f0,f4,f5,f134,IU,r5,t4,r4,n4,n5,nnb,Co,SZ,P4.Zi,Sy];unfold XN;refine⟨⟨f0,f4,f5,s+1,o4,nU,i7,rfl,K4.trans (Z0 (nb4 _ _)),skip _ _ hz⟩,?_⟩;simp only[vi,Zr,↓reduceIte,f134];omega
   | some x=>
    simp only[c3,bA,bl,bd,↓reduceIte]at Co
    cases c4:Yh n.Zi (s:Int) with
    | some y=>
     have hz:VG n r2 s=[]:=by unfold VG;rw[c3];simp only;rw[if_neg (by rw[c4];simp)]
     simp only[c4,bA,bl,bd,↓reduceIte]at SZ;simp -implicitDefEqProofs only[go_sem,f0,f4,f5,f134,IU,r5,t4,r4,n4,n5,nnb,Co,SZ,P4.Zi,Sy];unfold XN;refine⟨⟨f0,f4,f5,s+1,o4,nU,i7,rfl,K4.trans (Z0 (nb4 _ _)),skip _ _ hz⟩,?_⟩;simp only[vi,Zr,↓reduceIte,f134];omega
    | none=>
     have hz:VG n r2 s=(ba 5).flatMap (PU n r2 s x):=by unfold VG;rw[c3];simp only;rw[if_pos c4]
     simp only[c4,bz,bk,bc,↓reduceIte]at SZ;simp -implicitDefEqProofs only[go_sem,f0,f4,f5,f134,IU,r5,t4,r4,n4,n5,nnb,Co,SZ,P4.Zi,Sy];obtain⟨fs,hfs⟩:=ZL (fl++(ba s).flatMap (VG n r2));have ZIW:(aD fs)<=900000001000:=by
      have:=TL (VG n r2) 5 s Znk;rw[hfs,aO];omega
     have hnx:fl++(ba (s+1)).flatMap (VG n r2)=fs++(ba 5).flatMap (PU n r2 s x):=by rw[UW,hz,<-a8,<-hfs]
     rw[<-hfs]at W4;have kz:=nb4 (ab x.C.toArray 25) (ab Oa.C.toArray 25);have xb:Yb o4 ((g4.push (ab x.C.toArray 25)).push (ab Oa.C.toArray 25)) g4.size (ab x.C.toArray 25):=⟨K4.Yn _ (aN _),sW _ _ _⟩
     refine VS.Yk (fun F g=>F 0=ag (aa ⟨wb,0,al⟩)/\F 4=ag (aa ⟨h.size,0,al⟩)/\F 5=ag (aa ⟨h.size+1,0,al⟩)/\F 134=Q O s/\F 18=Q O s/\F 19=ag (aa ⟨g4.size,0,al⟩)/\∃(m:Nat) (o':Ow) (JD:WA),m<=5/\F 160=Q O m/\Kp (JV i) o h o' g/\Z6 o' g wb i nb { a with Zh:=aa ra' } { n with Zh:=aa r2 }/\Z1 o' g wb YN JD (fs++(ba m).flatMap (PU n r2 s x)) Yy ZE/\Yb o' g h.size (ab [Zz nb].toArray 98)/\Yb o' g (h.size+1) (ab [Zz ra.rb].toArray 106)/\Yb o' g g4.size (ab x.C.toArray 25))
      (fun F _=>5-(vi (F 160)).toNat) rfl ⟨f0,f4,f5,f134,rfl,rfl,0,o4,nU,pA,rfl,K4.trans (Z0 kz),N4.Zo kz,by simpa using W4.Zo kz,y4.Zf kz,y5.Zf kz,xb⟩ ?_
     clear f0 f4 f5 f134 y4 y5 r4 r5 t4 t5 P4 Co SZ skip nb4 kz xb l4 l5 n4 n5 nnb R4;rintro F5 g5 ⟨f0,f4,f5,f134,f18,f19,m,o5,WA5,hm,f160,K5,N5,W5,y4,y5,xb⟩;by_cases nC:m<5
     case neg=>
      have hgm:¬(m:Int)<5:=pA;obtain rfl:m=5:=pA;simp -implicitDefEqProofs only[go_sem,f160,hgm,f134];unfold XN;refine⟨⟨f0,f4,f5,s+1,o5,WA5,i7,rfl,K5,N5,by rw[hnx];exact W5,y4,y5⟩,?_⟩;simp only[vi,Zr,↓reduceIte,f134];omega
     have Znm:(m:Int)<5:=pA;have R5:XA o5 i g5 ra' r2:=N5.pt.Zh;obtain⟨v0,_,_,_,v5⟩:=R5.rr;unfold QI at v0;have r5:hc g5 ⟨h.size+1,0,al⟩=aa (Zz ra'.rb):=by rw[HU];exact Zn y5.2
     unfold Zz at r5;have lkv:=fun (K:a7->Hp->Prop)=>Xi (K:=K) (n:=(s:Int)) (c:=false) FP Cf R5.Xb.2;rw[Js]at lkv;simp only[Bool.false_eq_true,if_false]at lkv;obtain⟨g6,NN⟩:=ZL (g5.push (ab [].toArray 203):Hp);have e6:=NN.symm;have k6:Kp Wy o5 g5 o5 g6:=by rw[NN];exact Yw K5.Yn _
     have w6:wr g6 ⟨g5.size,0,al⟩ []=aa g6:=by
      have hx:g6[g5.size]? = aa (ab [].toArray 203):=by rw[NN];exact Zc
      rw[Ye hx 0 [],if_pos ⟨IQ,rfl⟩]
      congr 1
      exact Fs hx
     have N6:=N5.Zo k6;have W6:=W5.Zo k6;have z4:=y4.Zf k6;have z5:=y5.Zf k6;have zx:=xb.Zf k6;have K6:Kp (JV i) o h o5 g6:=K5.trans (Z0 k6);have P6:=ZR N6.ZZ.2 N6.pt.store.len;have R6:XA o5 i g6 ra' r2:=N6.pt.Zh;obtain⟨u0,_,_,_,_⟩:=R6.rr;unfold QI at u0;have s4:hc g6 ⟨h.size,0,al⟩=aa (Zz nb):=Zn z4.2;have s5:hc g6 ⟨h.size+1,0,al⟩=aa (Zz ra'.rb):=by rw[HU];exact Zn z5.2
     unfold Zz at s4 s5;have sx:rd g6 ⟨g4.size,0,al⟩ 5=aa [Q O x.k,Q O x.c,Q O x.s,Q O x.n,Q O x.v]:=Zy zx.2 rfl;have m4:=Za z4.2;have m5:=Za z5.2;have mx:=Za zx.2;have mr:=Za R6.ZZ.2;have ZaR:=Za N6.ZZ.2;obtain⟨S,hS⟩:=ZL ((Yh r2.Xb (s:Int)).getD []);have Ux:PU n r2 s x m=if Yh S (m:Int)=al then [⟨2,n.me,m,Jq,QK s r2.b x,[]⟩] else []:=by unfold PU;rw[hS]
     obtain⟨mv,hmv,lki⟩:∃mv,(Option.map mpV (Yh ra'.sv (s:Int))).getD (.map al)=mv/\∀K:a7->Hp->Prop,IM bg 202 mv (Q O (m:Int)) true K g5=K (.tuple #[be #[],a6 (Yh S (m:Int)).isSome]) g5:=by
      rcases R5.RC.Yh (s:Int) with⟨z1,z2⟩|⟨sb,S',z1,z2,hsb⟩
      .refine⟨.map al,by rw[z1];rfl,fun K=>?_⟩;rw[Bu Ce ZfU,hS,z2];rfl
      .refine⟨.map (aa sb),by rw[z1];rfl,fun K=>?_⟩;have:=Xi (K:=K) (n:=(m:Int)) (c:=true) Ce ZfU hsb.2;have hSS:S=S':=by rw[hS,z2];rfl
       rw[this];unfold HT;rw[Js,<-hSS]
       cases Yh S (m:Int)<;>rfl
     rw[hmv]at lkv
     cases cS:Yh S (m:Int) with
     | some uu=>
      rw[if_neg (by rw[cS];simp)]at Ux;simp only[cS,bd]at lki;simp -implicitDefEqProofs only[go_sem,f0,f4,f5,f18,f19,f160,Znm,r5,v5,lkv,lki,e6,w6];unfold XN;refine⟨⟨f0,f4,f5,f134,f18,f19,m+1,o5,WA5,nC,rfl,K6,N6,by rw[UW,Ux,a5];exact W6,z4,z5,zx⟩,?_⟩;simp only[vi,Zr,↓reduceIte,f160];omega
     | none=>
      rw[if_pos cS]at Ux;simp only[cS,bc]at lki;simp -implicitDefEqProofs only[go_sem,f0,f4,f5,f18,f19,f160,Znm,r5,v5,lkv,lki,e6,w6];refine VS.z (g6.size) [11] (.p 0 (.q 1 (.p 2 (.p 3 (.q 4 (.p 5 (.p 6 (.q 7 (.q 8 (.p 9 (.p 10 (.w 11 .nil)))))))))))) mixed vM ?_;simp -implicitDefEqProofs only[go_sem,f0,f4,f5,f18,f19,f160,s4,s5,u0,sx,m4,m5,mx,mr];have rl:(fs++(ba m).flatMap (PU n r2 s x)).length<=1000000000000:=by
       have:=TL (PU n r2 s x) 1 m (Znj s x);rw[aO];omega
      refine (V3 T g6 o5 wb nb YN n.me WA5 _ Yy ZE (m:Int) ⟨2,0,0,Jq,QK s r2.b x,[]⟩ (U al 0 0) K6.Yn W6 P6.me ZaR (Im.nil _ _ _ _) rl).use ?_;rintro v' g7 ⟨o7,WA7,k7,_,W7⟩;simp -implicitDefEqProofs only[go_sem,f160];unfold XN;refine⟨⟨f0,f4,f5,f134,f18,f19,m+1,o7,WA7,nC,rfl,K6.trans (k7.mono fun t q=>by rcases q with rfl|rfl<;>simp[JV]),N6.Zf k7 (by rintro t (rfl|rfl)<;>simp[Tg.of]),by rw[UW,Ux,<-a8];exact W7,z4.Zf k7,z5.Zf k7,zx.Zf k7⟩,?_⟩;simp only[vi,Zr,↓reduceIte,f160];omega
theorem Vu.fn{i nb:Nat}{ra:Option RA}{v:a7}{p:Option Kv}(s:Vu o h wb i nb ra v p):(p=al/\v=.nilFunc)\/(p.isSome=true/\∃f l,v=.func (.func f) #[] l):=by
 match p,s with
 | none,s=>exact .inl ⟨rfl,s⟩
 | some (.VN _ _ _ _),⟨_,_,_,_,e,_⟩=>exact .inr ⟨rfl,_,_,e⟩
 | some (.TX _ _ _),⟨_,_,_,_,e,_⟩=>exact .inr ⟨rfl,_,_,e⟩
 | some (.Zq _ _ _),⟨_,_,_,_,_,_,e,_⟩=>exact .inr ⟨rfl,_,_,e⟩
theorem tD(n:Nd)(r:XE):(JU n r).n.Yv=n.Yv/\(JU n r).n.ZA=n.ZA/\(JU n r).n.me=n.me/\(JU n r).n.Y1=n.Y1/\(JU n r).n.Zq=n.Zq/\(JU n r).ts=[]:=by
 unfold JU;split
 .split<;>exact⟨rfl,rfl,rfl,rfl,rfl,rfl⟩
 .split<;>exact⟨rfl,rfl,rfl,rfl,rfl,rfl⟩
theorem j6(n:Nd)(r:XE):(Pq n r).length<=5:=by
 have:=TL (fun (m:Nat)=>if Yh r.ZI (m:Int)=al then [(⟨0,n.me,m,r.b,SU,[]⟩:YH)] else []) 1 5 (fun m=>by split<;>simp);exact this
theorem tE(n:Nd)(r:XE):(TH n r).length<=200:=by
 have h1:∀s x m,(PU n r s x m).length<=1:=fun s x m=>by unfold PU;split<;>simp
 have h2:∀s,(VG n r s).length<=5:=fun s=>by
  unfold VG;split
  .split
   .exact TL _ 1 5 (h1 s _)
   .simp
  .simp
 exact TL _ 5 40 h2
theorem Zel(n:Nd)(r:XE):(JU n r).ls.length<=200:=by
 unfold JU;split
 .split<;>simp
 .split
  .have:=j6 n r;simp only;omega
  .exact tE n _
theorem j7(n:Nd):(Zo n).Yv=n.Yv/\(Zo n).ZA=n.ZA/\(Zo n).me=n.me/\(Zo n).Y1=n.Y1/\(Zo n).Zq=n.Zq/\(Zo n).Zx=n.Zx/\(Zo n).Zs=n.Zs/\(Zo n).data=n.data/\(Zo n).Y4=n.Y4:=by
 unfold Zo;split
 .split<;>exact⟨rfl,rfl,rfl,rfl,rfl,rfl,rfl,rfl,rfl⟩
 .exact⟨rfl,rfl,rfl,rfl,rfl,rfl,rfl,rfl,rfl⟩
theorem dK(n:Nd):(Zo n).Zh=al\/(Zo n).Zh=n.Zh:=by
 unfold Zo;split
 .split
  .exact .inl rfl
  .exact .inr rfl
 .exact .inr rfl
theorem MK(n:Nd):(Z9 n).n.Yv=n.Yv/\(Z9 n).n.ZA=n.ZA/\(Z9 n).n.me=n.me/\(Z9 n).n.Y1=n.Y1/\(Z9 n).n.Zq=n.Zq/\(Z9 n).ts=[]:=by
 unfold Z9;split
 .exact tD _ _
 .split<;>exact⟨rfl,rfl,rfl,rfl,rfl,rfl⟩
theorem dL(n:Nd):(Z9 n).ls.length<=200+n.Zx.length:=by
 unfold Z9;split
 .next r _=>have:=Zel n r;omega
 .split
  .simp[WD]
  .simp
set_option maxHeartbeats 4000000 in
theorem Zem(T:bn)(h:Hp)(o:Ow)(wb i nb:Nat)(YN:Nat->Nat)(a:NA)(n:Nd)(Xw:WA)(fl:List YH)(Yy:Nat->Int)(ZE:List Ob)(d:Vz o h)(N:Z6 o h wb i nb a n)(W:Z1 o h wb YN Xw fl Yy ZE)(tb:dp o h)(vI:n.Zs=al)(Xf:(aD fl)<=800000000000)(hvl:n.Zq.l.length<=1000000)(vB:(aD n.data)<=1000000)(hr:∀r,n.Zh=aa r->(∀x∈r.ZI,x.2.length<=1000000)/\(∀x∈r.ZI,∀v∈x.2,v.Zu<=1000000)/\r.ZI.length<=1000000000000)(hl:n.ZA.length<=100000000000)(hq:n.Zx.length<=10000000000)(ht:0<=n.Yv/\n.Yv<5):
  Zd bg T 72 #[Zz wb,Zz nb] h fun v' h'=>∃o' a' JD,Kp (JV i) o h o' h'/\Z6 o' h' wb i nb a' (Yq n).n/\Z1 o' h' wb YN JD (fl++(Yq n).ls) Yy ZE:=by
 refine Zd.H7 (args:=#[_,_]) Tryz.func72 rfl rfl rfl ?_;obtain⟨Zf1,Zib,sme,Zic,tF,Ao,ZaS,Zf2,Zwb⟩:=j7 n;refine VS.seq (VS.mono (N:=fun F' g'=>F' 0=ag (aa ⟨wb,0,al⟩)/\F' 1=ag (aa ⟨nb,0,al⟩)/\∃a1,Kp (JV i) o h o g'/\Z6 o g' wb i nb a1 (Zo n)/\Z1 o g' wb YN Xw fl Yy ZE) ?_ ?_ (fun _ _ _ h=>h) (fun _ _ h=>h))
 .refine QG _ _ _ _ _ _ rfl ?_;unfold Zz;have P:=ZR N.ZZ.2 N.pt.store.len;have T4:=Za N.ZZ.2;have Pr:=P.Zh;have Po:=P.dq
  cases Ih:a.Zh with
  | none=>
   rw[Ih]at Pr;have hn:n.Zh=al:=by
    have:=N.pt.Zh;rw[Ih]at this
    cases hx:n.Zh with
    | none=>rfl
    | some r=>rw[hx]at this;exact this.elim
   have es:Zo n=n:=by unfold Zo;rw[hn]
   rw[es];unfold MG at Pr;simp -implicitDefEqProofs only[go_sem,Pr];refine VS.mono (N:=fun F' g'=>Zj h.size h g'/\F' 0=ag (aa ⟨wb,0,al⟩)/\F' 1=ag (aa ⟨nb,0,al⟩)/\F' 26=a6 false) ?_ ?_ (fun _ _ _ h=>h) (fun _ _ h=>h)
   .refine VS.z (h.size) [12] (.p 0 (.p 1 (.p 2 (.p 3 (.p 4 (.p 5 (.p 6 (.q 7 (.p 8 (.p 9 (.p 10 (.q 11 (.w 12 (.p 13 .nil)))))))))))))) mixed (by kernel_rfl) ?_;simp -implicitDefEqProofs only[go_sem,Pr,Po,T4]
    try exact Zj.refl _ _
   rintro F1 g1 ⟨b1,f0,f1,f26⟩;have kb:=ZX d b1;simp -implicitDefEqProofs only[go_sem,f26];exact⟨f0,f1,a,Z0 kb,N.Zo kb,W.Zo kb⟩
  | some ra=>
   obtain⟨r,hn⟩:∃r,n.Zh=aa r:=by
    have:=N.pt.Zh;rw[Ih]at this
    cases hx:n.Zh with
    | none=>rw[hx]at this;exact this.elim
    | some r=>exact⟨r,rfl⟩
   rw[Ih]at Pr;unfold MG Zz at Pr;have R:XA o i h ra r:=by have:=N.pt.Zh;rw[Ih,hn]at this;exact this
   obtain⟨q0,_,_,_,_⟩:=R.rr;have gk:=Za R.ZZ.2;simp -implicitDefEqProofs only[go_sem,Pr];refine VS.mono (N:=fun F' g'=>Zj h.size h g'/\F' 0=ag (aa ⟨wb,0,al⟩)/\F' 1=ag (aa ⟨nb,0,al⟩)/\F' 26=a6 (decide (ZM r.b n.Zq.p))) ?_ ?_ (fun _ _ _ h=>h) (fun _ _ h=>h)
   .refine VS.z (h.size) [12] (.p 0 (.p 1 (.p 2 (.p 3 (.p 4 (.p 5 (.p 6 (.q 7 (.p 8 (.p 9 (.p 10 (.q 11 (.w 12 (.p 13 .nil)))))))))))))) mixed (by kernel_rfl) ?_;simp -implicitDefEqProofs only[go_sem,Pr,Po,q0,T4,gk];refine (Kb T h n.Zq.p r.b).use ?_;rintro _ g ⟨rfl,b⟩;simp -implicitDefEqProofs only[go_sem,b]
   rintro F1 g1 ⟨b1,f0,f1,f26⟩;have kb:=ZX d b1;have N1:=N.Zo kb;have W1:=W.Zo kb;by_cases c:ZM r.b n.Zq.p
   .have es:Zo n = { n with Zh:=al }:=by unfold Zo;rw[hn];simp only;rw[if_pos c]
    rw[es];have hpn:a.Zs=.nilFunc:=by
     have:=N.pt.Zs;rw[vI]at this;exact this
    have pn:Vu o g1 wb i nb al a.Zs n.Zs:=by rw[vI];exact hpn
    obtain⟨g2,w2,N2,k2⟩:=Yi.write (a:={ a with Zh:=al }) (n:={ n with Zh:=al }) { N1.pt with Zh:=trivial,Zs:=pn } kb.Yn N1.ZZ ((XM N1.ZZ.2 N1.pt.store.len).Zh al);have Uh:=Za N1.ZZ.2;unfold MG at w2;simp -implicitDefEqProofs only[go_sem,f0,f1,f26,c,w2,Uh];exact⟨_,(Z0 kb).trans (k2.mono fun t q=>.inr (.inr (.inr (by rw[q];rfl)))),N2,W1.Zf k2 (by rintro t rfl;simp[Tg.of])⟩
   .have es:Zo n=n:=by unfold Zo;rw[hn];simp only;rw[if_neg c]
    rw[es];simp -implicitDefEqProofs only[go_sem,f26,c];exact⟨f0,f1,a,Z0 kb,N1,W1⟩
 rintro F1 g1 ⟨f0,f1,a1,K1,N1,W1⟩;obtain⟨s,hs⟩:=ZL (Zo n);rw[<-hs]at N1 Zf1 Zib sme Zic tF Ao ZaS Zf2 Zwb;have srg:s.Zh=al\/s.Zh=n.Zh:=by rw[hs];exact dK n
 obtain⟨Zf3,Zno,eme,Zid,Zwc,ets⟩:=MK s;have els:=dL s;unfold Yq;rw[<-hs];clear hs;refine VS.seq (VS.mono (N:=fun F' g'=>F' 0=ag (aa ⟨wb,0,al⟩)/\F' 1=ag (aa ⟨nb,0,al⟩)/\∃kb a1,F' 5=ag (aa ⟨kb,0,al⟩)/\Yb o g' kb (ab [Q O n.Zq.p.r,Q O n.Zq.p.n].toArray 102)/\Kp (JV i) o h o g'/\Z6 o g' wb i nb a1 s/\Z1 o g' wb YN Xw fl Yy ZE) ?_ ?_ (fun _ _ _ h=>h) (fun _ _ h=>h))
 .refine QG _ _ _ _ _ _ rfl ?_;have P1:=ZR N1.ZZ.2 N1.pt.store.len;have P1o:=P1.dq;rw[tF]at P1o;have T4:=Za N1.ZZ.2;obtain⟨g2,Wv⟩:=ZL (g1.push (ab [Q O n.Zq.p.r,Q O n.Zq.p.n].toArray 102):Hp);have k2:Kp Wy o g1 o g2:=by rw[Wv];exact Yw K1.Yn _
  have x5:Yb o g2 g1.size (ab [Q O n.Zq.p.r,Q O n.Zq.p.n].toArray 102):=⟨K1.Yn _ (aN _),by rw[Wv];exact Zc⟩
  have e2:=Wv.symm;simp -implicitDefEqProofs only[go_sem,f0,f1,P1o,T4,e2];exact⟨_,a1,rfl,x5,K1.trans (Z0 k2),N1.Zo k2,W1.Zo k2⟩
 clear f0 f1 K1 N1 W1;rintro F2 g2 ⟨f0,f1,kb,a2,f5,x5,K2,N2,W2⟩;have iO:=tb.Zf K2;refine VS.seq (VS.mono (N:=fun F' g'=>F' 0=ag (aa ⟨wb,0,al⟩)/\F' 1=ag (aa ⟨nb,0,al⟩)/\(Z9 s).n.Zs=al/\∃o' a1 JD,Kp (JV i) o h o' g'/\Z6 o' g' wb i nb a1 (Z9 s).n/\Z1 o' g' wb YN JD (fl++(Z9 s).ls) Yy ZE) ?_ ?_ (fun _ _ _ h=>h) (fun _ _ h=>h))
 .refine QG _ _ _ _ _ _ rfl ?_;have P2:=ZR N2.ZZ.2 N2.pt.store.len;have P2r:=P2.Zh;have tH:=P2.me;have T4:=Za N2.ZZ.2;have l5:=Za x5.2
  cases Ih:a2.Zh with
  | some ra=>
   obtain⟨r,hn⟩:∃r,s.Zh=aa r:=by
    have:=N2.pt.Zh;rw[Ih]at this
    cases hx:s.Zh with
    | none=>rw[hx]at this;exact this.elim
    | some r=>exact⟨r,rfl⟩
   have hnr:n.Zh=aa r:=by
    rcases srg with e|e
    .rw[e]at hn;cases hn
    .rw[<-e,hn]
   have e1:Z9 s=JU s r:=by unfold Z9;rw[hn]
   have ea:a2 = { a2 with Zh:=aa ra }:=by rw[<-Ih]
   have es:s = { s with Zh:=aa r }:=by rw[<-hn]
   obtain⟨HP,hr2,hr3⟩:=hr r hnr;rw[Ih]at P2r;unfold MG Zz at P2r;have cr:=Zei T g2 o wb i nb YN a2 s ra r Xw fl Yy ZE K2.Yn (by rw[<-ea,<-es];exact N2) W2 iO (by omega) (by rw[tF];exact hvl) (by rw[Zf2];exact vB) HP hr2 hr3 (by rw[Zib];omega) (by rw[Ao];omega);rw[<-es,<-e1]at cr;unfold Zz at cr;simp -implicitDefEqProofs only[go_sem,f0,f1,P2r];refine cr.use ?_;rintro v' g3 ⟨o3,a3,WA3,k3,N3,W3⟩;have P3:=(ZR N3.ZZ.2 N3.pt.store.len).Zs;rcases N3.pt.Zs.fn with⟨c1,c2⟩|⟨c1,f,l,c2⟩
   .rw[c2]at P3;simp -implicitDefEqProofs only[go_sem,f0,f1,P3];exact⟨c1,o3,a3,WA3,K2.trans k3,N3,W3⟩
   .rw[c2]at P3;simp -implicitDefEqProofs only[go_sem,f0,f1,P3];rw[if_pos c1];exact⟨o3,a3,WA3,K2.trans k3,N3,W3⟩
  | none=>
   have hn:s.Zh=al:=by
    have:=N2.pt.Zh;rw[Ih]at this
    cases hx:s.Zh with
    | none=>rfl
    | some r=>rw[hx]at this;exact this.elim
   rw[Ih]at P2r;unfold MG at P2r;have r5a:hc g2 ⟨kb,0,al⟩=aa (Q O n.Zq.p.r):=Zn x5.2;have r5b:hc g2 ⟨kb,1,al⟩=aa (Q O n.Zq.p.n):=Zn x5.2;rw[sme]at tH;by_cases c:0<n.Zq.p.r/\n.Zq.p.n≠n.me
   case neg=>
    have e1:Z9 s=⟨s,[],[]⟩:=by unfold Z9;rw[hn];simp only;rw[tF,sme,if_neg c]
    rw[e1];have Oc:s.Zs=al:=by rw[ZaS];exact vI
    simp -implicitDefEqProofs only[go_sem,f0,f1,P2r];refine VS.mono (N:=fun F' g'=>Zj g2.size g2 g'/\F' 0=ag (aa ⟨wb,0,al⟩)/\F' 1=ag (aa ⟨nb,0,al⟩)/\F' 53=a6 false) ?_ ?_ (fun _ _ _ h=>h) (fun _ _ h=>h)
    .refine VS.z (g2.size) [] (.p 0 (.q 1 (.p 2 (.p 3 (.p 4 (.q 5 (.p 6 (.p 7 (.p 8 (.q 9 (.p 10 (.p 11 (.p 12 .nil))))))))))))) mixed (by kernel_rfl) ?_;by_cases c1:0<n.Zq.p.r
     .have c2:n.Zq.p.n=n.me:=by
       rcases Decidable.em (n.Zq.p.n=n.me) with e|e
       .exact e
       .exact (c ⟨c1,e⟩).elim
      simp -implicitDefEqProofs only[go_sem,f0,f1,f5,r5a,r5b,tH,l5,T4,c1,c2]
      try exact Zj.refl _ _
     .simp -implicitDefEqProofs only[go_sem,f0,f1,f5,r5a,r5b,tH,l5,T4,c1]
      try exact Zj.refl _ _
    rintro F3 g3 ⟨b3,f0,f1,f53⟩;have TZ:=ZX K2.Yn b3;simp -implicitDefEqProofs only[go_sem,f53];exact⟨f0,f1,Oc,o,a2,Xw,K2.trans (Z0 TZ),N2.Zo TZ,by rw[a5];exact W2.Zo TZ⟩
   have e1:Z9 s=⟨s,WD s,[]⟩:=by unfold Z9;rw[hn];simp only;rw[tF,sme,if_pos c]
   rw[e1];have Oc:s.Zs=al:=by rw[ZaS];exact vI
   obtain⟨c1,c2⟩:=c;simp -implicitDefEqProofs only[go_sem,f0,f1,P2r];refine VS.mono (N:=fun F' g'=>Zj g2.size g2 g'/\F' 0=ag (aa ⟨wb,0,al⟩)/\F' 1=ag (aa ⟨nb,0,al⟩)/\F' 5=ag (aa ⟨kb,0,al⟩)/\F' 53=a6 true) ?_ ?_ (fun _ _ _ h=>h) (fun _ _ h=>h)
   .refine VS.z (g2.size) [] (.p 0 (.q 1 (.p 2 (.p 3 (.p 4 (.q 5 (.p 6 (.p 7 (.p 8 (.q 9 (.p 10 (.p 11 (.p 12 .nil))))))))))))) mixed (by kernel_rfl) ?_;simp -implicitDefEqProofs only[go_sem,f0,f1,f5,r5a,r5b,tH,l5,T4,c1,c2]
    try exact Zj.refl _ _
   clear f0 f1 f5;rintro F3 g3 ⟨b3,f0,f1,f5,f53⟩;have TZ:=ZX K2.Yn b3;have N3:=N2.Zo TZ;have W3:=W2.Zo TZ;have K3:=K2.trans (Z0 (S:=JV i) TZ);have y5:=x5.Zf TZ;obtain⟨pq,cq,hpq,_⟩:=XB.ZP N3.pt.Zx;have hpq:a2.Zx=U pq s.Zx.length cq:=hpq;have P3q:=(ZR N3.ZZ.2 N3.pt.store.len).Zx;rw[hpq]at P3q;simp -implicitDefEqProofs only[go_sem,f0,f1,f53,P3q];have hql:s.Zx.length<=10000000000:=by rw[Ao];exact hq
   refine VS.Yk (fun F g=>F 0=ag (aa ⟨wb,0,al⟩)/\F 1=ag (aa ⟨nb,0,al⟩)/\F 5=ag (aa ⟨kb,0,al⟩)/\F 69=U pq s.Zx.length cq/\F 70=Q O s.Zx.length/\∃(j:Nat) (o':Ow) (JD:WA),j<=s.Zx.length/\F 71=Q O j/\Kp (JV i) o h o' g/\Z6 o' g wb i nb a2 s/\Z1 o' g wb YN JD (fl++(WD s).take j) Yy ZE/\Yb o' g kb (ab [Q O n.Zq.p.r,Q O n.Zq.p.n].toArray 102))
    (fun F _=>s.Zx.length-(vi (F 71)).toNat) rfl ⟨f0,f1,f5,rfl,rfl,0,o,Xw,by omega,rfl,K3,N3,by simpa using W3,y5⟩ ?_
   clear f0 f1 f5 f53 P3q N3 W3 K3 y5 TZ b3 x5 K2 N2 W2;rintro F4 g4 ⟨f0,f1,f5,f69,f70,j,o4,nU,hj,f71,K4,N4,W4,y5⟩;have hfl:(WD s).length=s.Zx.length:=by unfold WD;simp
   by_cases ZT:j<s.Zx.length
   .have Z7:(j:Int)<s.Zx.length:=by omega
    obtain⟨pz,cz,Bw,jq⟩:=Qp N4.pt.Zx.ts;obtain⟨bb,oo,hz3,TC,Kc⟩:=jq (by intro e;have:s.Zx=[]:=e;rw[this]at ZT;simp at ZT);have Bw:a2.Zx=U pz s.Zx.length cz:=Bw;rw[hpq]at Bw;simp only[Value.slice.injEq]at Bw;obtain⟨rfl,_,rfl⟩:=Bw;subst hz3;have re:rd g4 ⟨bb,oo+j*5,al⟩ 5=aa (s.Zx[j]).C:=Kc j ZT;obtain⟨x,hx⟩:=ZL (s.Zx[j]);rw[<-hx]at re;have XI:(WD s).take (j+1)=(WD s).take j++[⟨4,s.me,n.Zq.p.n,Jq,QK 0 Jq x,[]⟩]:=by
     rw[Y8 _ j (by rw[hfl];exact ZT)]
     congr 2
     unfold WD;rw[bp,<-hx,tF]
    obtain⟨g5,hg5⟩:=ZL (g4.push (ab x.C.toArray 25):Hp);have k5:Kp Wy o4 g4 o4 g5:=by rw[hg5];exact Yw K4.Yn _
    have x7:Yb o4 g5 g4.size (ab x.C.toArray 25):=⟨K4.Yn _ (aN _),by rw[hg5];exact Zc⟩
    have e5:=hg5.symm;have N5:=N4.Zo k5;have W5:=W4.Zo k5;have z5:=y5.Zf k5;have s5:hc g5 ⟨kb,1,al⟩=aa (Q O n.Zq.p.n):=Zn z5.2;have sx:rd g5 ⟨g4.size,0,al⟩ 5=aa [Q O x.k,Q O x.c,Q O x.s,Q O x.n,Q O x.v]:=Zy x7.2 rfl;have re:rd g4 ⟨bb,oo+j*5,al⟩ 5=aa [Q O x.k,Q O x.c,Q O x.s,Q O x.n,Q O x.v]:=re;have e5:g4.push (ab [Q O x.k,Q O x.c,Q O x.s,Q O x.n,Q O x.v].toArray 25)=g5:=e5;have P5:=ZR N5.ZZ.2 N5.pt.store.len;have MI:=Za N5.ZZ.2;simp -implicitDefEqProofs only[go_sem,f0,f1,f5,f69,f70,f71,Z7,re,e5,s5,sx];have rl:(fl++(WD s).take j).length<=1000000000000:=by
     rw[aO,List.length_take];omega
    refine (V3 T g5 o4 wb nb YN s.me nU _ Yy ZE n.Zq.p.n ⟨4,0,0,Jq,QK 0 Jq x,[]⟩ (U al 0 0) k5.Yn W5 P5.me MI (Im.nil _ _ _ _) rl).use ?_;rintro v' g6 ⟨o6,WA6,k6,_,W6⟩;simp -implicitDefEqProofs only[go_sem,f71];unfold XN;refine⟨⟨f0,f1,f5,f69,f70,j+1,o6,WA6,ZT,rfl,(K4.trans (Z0 k5)).trans (k6.mono fun t q=>by rcases q with rfl|rfl<;>simp[JV]),N5.Zf k6 (by rintro t (rfl|rfl)<;>simp[Tg.of]),by rw[XI,<-a8];exact W6,z5.Zf k6⟩,?_⟩;simp only[vi,Zr,↓reduceIte,f71];omega
   .have Xv:¬(j:Int)<s.Zx.length:=by omega
    obtain rfl:j=s.Zx.length:=by omega
    rw[List.take_of_length_le (by rw[hfl];exact aN _)]at W4;simp -implicitDefEqProofs only[go_sem,f70,f71,Xv];exact⟨f0,f1,Oc,o4,a2,nU,K4,N4,W4⟩
 clear f0 f1 f5 x5 K2 N2 W2 iO;rintro F3 g3 ⟨f0,f1,Oc,o3,a3,WA3,K3,N3,W3⟩;rw[if_neg (by rw[Oc];simp)];obtain⟨m,hm⟩:=ZL ((Z9 s).n);obtain⟨ls,hls⟩:=ZL ((Z9 s).ls);rw[<-hm]at Zf3 Zno eme Zid Zwc N3 Oc;rw[<-hls]at W3 els;rw[<-hm,<-hls];clear hm hls;have hmt:0<=m.Yv/\m.Yv<5:=by rw[Zf3,Zf1];exact ht
 have gh:m.ZA.length<=100000000000:=by rw[Zno,Zib];exact hl
 have hll:(aD ls)<=10000000200:=by rw[Ao]at els;omega
 refine VS.seq (VS.mono (N:=fun F' g'=>F' 0=ag (aa ⟨wb,0,al⟩)/\F' 1=ag (aa ⟨nb,0,al⟩)/\Kp (JV i) o h o3 g'/\Z6 o3 g' wb i nb a3 (J7 m)/\Z1 o3 g' wb YN WA3 (fl++ls) Yy ZE) ?_ ?_ (fun _ _ _ h=>h) (fun _ _ h=>h))
 .refine QG _ _ _ _ _ _ rfl ?_;have P3:=ZR N3.ZZ.2 N3.pt.store.len;have P3t:=P3.Yv;have T4:=Za N3.ZZ.2;have et:(m.Yv+1).tmod 5=(m.Yv+1)%5:=Int.tmod_eq_emod_of_nonneg (by omega);obtain⟨g4,w4,N4,k4⟩:=Yi.write (a:=a3) (n:=J7 m) { N3.pt with } K3.Yn N3.ZZ ((XM N3.ZZ.2 N3.pt.store.len).Yv ((m.Yv+1)%5));simp -implicitDefEqProofs only[go_sem,f0,f1,P3t,et,w4,T4];exact⟨K3.trans (k4.mono fun t q=>.inr (.inr (.inr (by rw[q];rfl)))),N4,W3.Zf k4 (by rintro t rfl;simp[Tg.of])⟩
 clear f0 f1 K3 N3 W3;rintro F4 g4 ⟨f0,f1,K4,N4,W4⟩;obtain⟨q,hq0⟩:=ZL (J7 m);have ql:q.ZA=m.ZA:=by rw[hq0];rfl
 rw[<-hq0]at N4 ⊢;clear hq0;have P4:=ZR N4.ZZ.2 N4.pt.store.len;have P4t:=P4.Yv;have Zif:=P4.me;have P4o:=P4.dq;have P4l:=P4.ZA;obtain⟨pl,cl,MV,_⟩:=XB.ZP N4.pt.ZA;have MV:a3.ZA=U pl q.ZA.length cl:=MV;rw[MV]at P4l;have T4:=Za N4.ZZ.2;rw[<-ql]at gh;refine QG _ _ _ _ _ _ rfl ?_;simp -implicitDefEqProofs only[go_sem];by_cases c:q.Yv≠q.me/\q.ZA.length<40
 case neg=>
  have e1:UV q=[]:=by unfold UV;rw[if_neg c]
  rw[e1,a5];refine VS.mono (N:=fun F' g'=>Zj g4.size g4 g'/\F' 109=a6 false) ?_ ?_ (fun _ _ _ h=>h) (fun _ _ h=>h)
  .refine VS.z (g4.size) [] (.p 0 (.p 1 (.p 2 (.q 3 (.p 4 (.p 5 (.p 6 (.q 7 (.p 8 (.p 9 (.p 10 (.p 11 (.p 12 (.q 13 (.p 14 (.p 15 (.p 16 .nil))))))))))))))))) mixed (by kernel_rfl) ?_;by_cases c1:q.Yv=q.me
   .simp -implicitDefEqProofs only[go_sem,f0,f1,P4t,Zif,P4l,T4,c1]
    try exact Zj.refl _ _
   .have c2:¬(q.ZA.length:Int)<40:=by
     intro e;exact c ⟨c1,by omega⟩
    simp -implicitDefEqProofs only[go_sem,f0,f1,P4t,Zif,P4l,T4,c1,c2]
    try exact Zj.refl _ _
  rintro F5 g5 ⟨b5,f109⟩;have Ck:=ZX K4.Yn b5;simp -implicitDefEqProofs only[go_sem,f109];exact⟨o3,a3,WA3,K4.trans (Z0 Ck),N4.Zo Ck,W4.Zo Ck⟩
 have e1:UV q=[⟨5,q.me,q.Yv,Vs q,QK q.ZA.length Jq Oa,[]⟩]:=by unfold UV;rw[if_pos c]
 rw[e1];obtain⟨c1,c2⟩:=c;have c2:(q.ZA.length:Int)<40:=by omega
 refine VS.mono (N:=fun F' g'=>Zj g4.size g4 g'/\F' 0=ag (aa ⟨wb,0,al⟩)/\F' 1=ag (aa ⟨nb,0,al⟩)/\F' 109=a6 true) ?_ ?_ (fun _ _ _ h=>h) (fun _ _ h=>h)
 .refine VS.z (g4.size) [] (.p 0 (.p 1 (.p 2 (.q 3 (.p 4 (.p 5 (.p 6 (.q 7 (.p 8 (.p 9 (.p 10 (.p 11 (.p 12 (.q 13 (.p 14 (.p 15 (.p 16 .nil))))))))))))))))) mixed (by kernel_rfl) ?_;simp -implicitDefEqProofs only[go_sem,f0,f1,P4t,Zif,P4l,T4,c1,c2]
  try exact Zj.refl _ _
 clear f0 f1;rintro F5 g5 ⟨b5,f0,f1,f109⟩;have Ck:=ZX K4.Yn b5;have N5:=N4.Zo Ck;have W5:=W4.Zo Ck;have K5:Kp (JV i) o h o3 g5:=K4.trans (Z0 Ck);have P5:=ZR N5.ZZ.2 N5.pt.store.len;have P5o:=P5.dq;have MI:=Za N5.ZZ.2;obtain⟨g6,NN⟩:=ZL (g5.push (ab [Q O q.Zq.p.r,Q O q.Zq.p.n].toArray 102):Hp);have k6:Kp Wy o3 g5 o3 g6:=by rw[NN];exact Yw K5.Yn _
 have x8:Yb o3 g6 g5.size (ab [Q O q.Zq.p.r,Q O q.Zq.p.n].toArray 102):=⟨K5.Yn _ (aN _),by rw[NN];exact Zc⟩
 have e6:=NN.symm;have N6:=N5.Zo k6;have W6:=W5.Zo k6;have K6:Kp (JV i) o h o3 g6:=K5.trans (Z0 k6);have P6h:=(ZR N6.ZZ.2 N6.pt.store.len).Y1;have ZaR:=Za N6.ZZ.2;have l8:=Za x8.2;have r8:rd g6 ⟨g5.size,0,al⟩ 2=aa [Q O q.Zq.p.r,Q O q.Zq.p.n]:=Zy x8.2 rfl;obtain⟨kb,hkb⟩:=ZL (g5.size);simp -implicitDefEqProofs only[go_sem,f0,f1,f109,P5o,MI,e6];rw[<-hkb]at x8 l8 r8 ⊢;refine VS.mono (N:=fun F' g'=>Zj g6.size g6 g'/\F' 0=ag (aa ⟨wb,0,al⟩)/\F' 1=ag (aa ⟨nb,0,al⟩)/\F' 8=ag (aa ⟨kb,0,al⟩)/\F' 120=a6 (decide (ZM q.Zq.p q.Y1))) ?_ ?_ (fun _ _ _ h=>h) (fun _ _ h=>h)
 .refine VS.z (g6.size) [5] (.p 0 (.p 1 (.p 2 (.q 3 (.q 4 (.w 5 .nil)))))) mixed (by kernel_rfl) ?_;simp -implicitDefEqProofs only[go_sem,f0,f1,P6h,r8,ZaR,l8];refine (Kb T g6 q.Y1 q.Zq.p).use ?_;rintro _ g ⟨rfl,b⟩;simp -implicitDefEqProofs only[go_sem,b];exact⟨f0,f1⟩
 clear f0 f1;rintro F7 g7 ⟨b7,f0,f1,f8,f120⟩;have kb7:=ZX K6.Yn b7;have N7:=N6.Zo kb7;have W7:=W6.Zo kb7;have K7:Kp (JV i) o h o3 g7:=K6.trans (Z0 kb7);have y8:=x8.Zf kb7;have P7h:=(ZR N7.ZZ.2 N7.pt.store.len).Y1;have Zig:=Za N7.ZZ.2;have m8:=Za y8.2;by_cases c6:ZM q.Zq.p q.Y1
 all_goals
 first
 | (have eb:Vs q=q.Y1:=by unfold Vs;rw[if_pos c6]
    obtain⟨g8,Do⟩:=ZL (g7.setIfInBounds kb (ab [Q O q.Y1.r,Q O q.Y1.n].toArray 102):Hp);have w8:wr g7 ⟨kb,0,al⟩ [Q O q.Y1.r,Q O q.Y1.n]=aa g8:=by rw[Ye y8.2 0 _,Do];rfl
    have k8:Kp Wy o3 g5 o3 g8:=by rw[Do];exact (k6.trans kb7).yq (by omega) _
    have z8:Yb o3 g8 kb (ab [Q O (Vs q).r,Q O (Vs q).n].toArray 102):=⟨y8.1,by rw[Do,eb];exact ZV y8.2⟩
    simp -implicitDefEqProofs only[go_sem,f0,f1,f8,f120,c6,P7h,Zig,w8])
 | (have eb:Vs q=q.Zq.p:=by unfold Vs;rw[if_neg c6]
    obtain⟨g8,Do⟩:=ZL (g7:Hp);have k8:Kp Wy o3 g5 o3 g8:=by rw[Do];exact k6.trans kb7
    have z8:Yb o3 g8 kb (ab [Q O (Vs q).r,Q O (Vs q).n].toArray 102):=⟨y8.1,by rw[Do,eb];exact y8.2⟩
    simp -implicitDefEqProofs only[go_sem,f120,c6];rw[<-Do])
 all_goals
  have N8:=N5.Zo k8;have W8:=W5.Zo k8;have K8:Kp (JV i) o h o3 g8:=K5.trans (Z0 k8);have P8:=ZR N8.ZZ.2 N8.pt.store.len;have P8t:=P8.Yv;have P8l:=P8.ZA;rw[MV]at P8l;have Zen:=Za N8.ZZ.2;have n8:=Za z8.2;have s8:rd g8 ⟨kb,0,al⟩ 2=aa [Q O (Vs q).r,Q O (Vs q).n]:=Zy z8.2 rfl;refine VS.z (g8.size) [14] (.p 0 (.p 1 (.p 2 (.p 3 (.p 4 (.q 5 (.q 6 (.p 7 (.p 8 (.p 9 (.q 10 (.p 11 (.p 12 (.p 13 (.w 14 .nil))))))))))))))) mixed (by kernel_rfl) ?_;simp -implicitDefEqProofs only[go_sem,f0,f1,f8,P8t,P8l,s8,Zen,n8];have rl:(fl++ls).length<=1000000000000:=by rw[aO];omega
  refine (V3 T g8 o3 wb nb YN q.me WA3 _ Yy ZE q.Yv ⟨5,0,0,Vs q,QK q.ZA.length Jq Oa,[]⟩ (U al 0 0) K8.Yn W8 P8.me Zen (Im.nil _ _ _ _) rl).use ?_;rintro v' g9 ⟨o9,WA9,k9,_,W9⟩;simp -implicitDefEqProofs only[go_sem];exact⟨o9,a3,WA9,K8.trans (k9.mono fun t q=>by rcases q with rfl|rfl<;>simp[JV]),N8.Zf k9 (by rintro t (rfl|rfl)<;>simp[Tg.of]),by rw[<-a8];exact W9⟩
structure j8(n:Nd)(l:YH)(fl ZE:Nat):Prop where
 Z3:0<=l.Z3/\l.Z3<=7
 room:fl<=1000000000000
 XW:n.Zq.l.length<=1000000
 data:(aD n.data)<=1000000
 Zi:n.Zi.length<=100000000000
 ZA:n.ZA.length<=100000000000
 ZE:ZE<=100000000000
 Zx:n.Zx.length<=1000000000000
 Zk:n.Zk.length<=1000000000000
 RC:∀r s,n.Zh=aa r->((Yh r.Xb s).getD []).length<=1000000
structure ZaU(n:Nd)(fl:Nat):Prop where
 room:fl<=800000000000
 XW:n.Zq.l.length<=1000000
 data:(aD n.data)<=1000000
 S9:∀r,n.Zh=aa r->(∀x∈r.ZI,x.2.length<=1000000)/\(∀x∈r.ZI,∀v∈x.2,v.Zu<=1000000)/\r.ZI.length<=1000000000000
 ZA:n.ZA.length<=100000000000
 Zx:n.Zx.length<=10000000000
 Yv:0<=n.Yv/\n.Yv<5
def Ns:Nd->List YH->Nat->Nat->Prop
 | _,[],_,_=>True
 | n,l :: k,f,t=>n.Zs.isSome=true\/(j8 { n with Zg:=k } l f t/\Ns (Zw { n with Zg:=k } l).n k (f+(Zw { n with Zg:=k } l).ls.length) (t+(Zw { n with Zg:=k } l).ts.length))
structure j9(n:Nd)(fl ZE:Nat):Prop where
 data:(aD n.data)<=1000000
 room:fl<=1000000000000
 dr:n.Zs=al->Ns n n.Zg fl ZE
 du:n.Zs=al->(ZB n n.Zg).n.Zs=al->ZaU (ZB n n.Zg).n (fl+(ZB n n.Zg).ls.length)
theorem Ap(n:Nd)(l:YH)(k:List YH):(Zw { n with Zg:=k } l).n.Zg=k:=by
 have hL:∀(m:Nat) (x:Nd),(Yg m x).1.Zg=x.Zg:=by
  intro m
  induction m with
  | zero=>intro x;rfl
  | succ m ih=>
   intro x;unfold Yg;split
   .rfl
   .simp only;rw[ih];rfl
 have hl:∀(x:Nd) s c,(Jl x s c).n.Zg=x.Zg:=fun x s c=>by unfold Jl;simp only;rw[hL];rfl
 have hn:∀x:Nd,(Xz x l).Zg=x.Zg:=fun x=>by unfold Xz;split<;>rfl
 unfold Zw;split
 .unfold YG;split;· rfl
  split;· rfl
  split<;>rfl
 split
 .unfold Ym;split
  .rfl
  .split
   .split<;>rfl
   .split;· rfl
    split
    .rw[hl];rfl
    .rfl
 split
 .unfold asked;split;· rfl
  split;· rfl
  split<;>rfl
 split
 .unfold add;simp only;split<;>rfl
 split
 .unfold Qy;split
  .simp only;rw[hn]
  .simp only;rw[hn]
 split
 .rw[hl]
 .simp only;rw[hn]
theorem Zeo{t:Tg}{v:a7}{l:YH}{k:List YH}(s:WE o t h v (l :: k)):
  ∃w b off c,v=U (aa ⟨b,off,al⟩) ((aD k)+1) c/\(aD k)+1<=c/\rd h ⟨b,off,al⟩ 14=aa (XV l w)/\TY o h w l.vs/\WE o t h (U (if c=1 then aa ⟨b,off,al⟩ else aa ⟨b,off+14,al⟩) (aD k) (c-1)) k:=by
 obtain⟨xs,h1,h2,h3⟩:=s
 cases xs with
 | nil=>cases h1
 | cons x xs=>
  obtain⟨l',w⟩:=x;simp only[List.map_cons,List.cons.injEq]at h1;obtain⟨rfl,rfl⟩:=h1;have h2':=h2;rcases h2 with⟨_,e,_⟩|⟨b,off,cap,pre,ZG,g1,rfl,g3,g4,g5,g6,g7⟩
  .cases e
  refine⟨w,b,off,cap,by rw[a9];rfl,by rw[a9];exact g7,?_,h3 (l',w) IQ,?_⟩
  .have e1:ZU Hd ((l',w) :: xs)=XV l' w++ZU Hd xs:=by simp[ZU,Hd]
   have g5':(ZU Hd ((l',w) :: xs)).length=((aD xs)+1)*14:=g5;rw[YL g3 (by simp only[aO];omega),<-g4,List.drop_left,e1,a8];rfl
  .refine⟨xs,rfl,?_,fun x hx=>h3 x (by simp[hx])⟩;have tl:=h2'.tail (k:=1) IQ;have e1:ZU Hd ((l',w) :: xs)=XV l' w++ZU Hd xs:=by simp[ZU,Hd]
   rw[e1]at tl;have e2:(XV l' w++ZU Hd xs).drop (1*14)=ZU Hd xs:=rfl;rw[e2]at tl
   simpa [XR] using tl
def dM(nb:Nat)(g:Hp):Nat:=match hc g ⟨nb,54,al⟩ with
 | some (U _ m _)=>m
 | _=>0
theorem dN{i nb:Nat}{a:NA}{n:Nd}(N:Z6 o h wb i nb a n):dM nb h=n.Zg.length:=by
 obtain⟨xs,h1,h2,_⟩:=N.pt.Zg;obtain⟨p,c,h3,_⟩:=h2.ZP;have:=(ZR N.ZZ.2 N.pt.store.len).Zg;unfold dM;rw[this,h3,<-h1,a9]
theorem dO{i:Nat}(t:Tg)(q:Zh6 i t):JV i t:=by
 rcases q with rfl|rfl|rfl|rfl|rfl
 .exact .inl rfl
 .exact .inr (.inl rfl)
 all_goals exact .inr (.inr (.inr rfl))
set_option maxHeartbeats 4000000 in
theorem ZaV(T:bn)(h:Hp)(o:Ow)(wb i nb:Nat)(YN:Nat->Nat)(a:NA)(n:Nd)(Xw:WA)(fl:List YH)(Yy:Nat->Int)(ZE:List Ob)(d:Vz o h)(N:Z6 o h wb i nb a n)(W:Z1 o h wb YN Xw fl Yy ZE)(tb:dp o h)(ok:j9 n (aD fl) (aD ZE)):
  Zd bg T 52 #[Zz wb,Zz nb] h fun v' h'=>∃o' a' JD,Kp (JV i) o h o' h'/\Z6 o' h' wb i nb a' (step n).n/\Z1 o' h' wb YN JD (fl++(step n).ls) Yy (ZE++(step n).ts):=by
 refine Zd.XS [_,_] Tryz.func52 ?_;unfold Zz;have P:=ZR N.ZZ.2 N.pt.store.len;have T4:=Za N.ZZ.2;have Pu:=P.up
 cases hu:n.up with
 | false=>
  have e1:step n=⟨n,[],[]⟩:=by unfold step;rw[hu];rfl
  rw[hu]at Pu;rw[e1,a5,a5];simp -implicitDefEqProofs only[go_sem,Pu];exact⟨o,a,Xw,Kp.refl d _,N,W⟩
 | true=>
 rw[hu]at Pu;have Pp:=P.Zs
 cases hp:n.Zs with
 | some p=>
  have e1:step n=YM (ZQ n) p:=by unfold step;rw[hu,hp];rfl
  rw[e1];have Pn:=N.pt.Zs;rw[hp]at Pn;obtain⟨f,l,hf⟩:∃f l,a.Zs=.func (.func f) #[] l:=by
   rcases Pn.fn with⟨c,_⟩|⟨_,c⟩
   .cases c
   .exact c
  have Pp':=Pp;rw[hf]at Pp';obtain⟨pd,cd,Oc⟩:=N.pt.data.1.ZP;have Oc:a.data=U pd (aD n.data) cd:=Oc;have Pt:=P.tape;rw[Oc]at Pt;have Nd:=N.pt.data;rw[Oc]at Nd;simp -implicitDefEqProofs only[go_sem,Pu,Pp',Pt];refine (Zdj T h _ n.Y4 n.data Nd.bs (by have:=ok.data;omega)).use ?_;rintro v1 h1 ⟨b1,s1⟩;have kb:=ZX d b1;have N1:=N.Zo kb;have W1:=W.Zo kb;obtain⟨p1,c1,rfl,i1⟩:∃p1 c1,v1=.tuple [be [U p1 (ZQ n).data.length c1,Q O (ZQ n).Y4].toArray,Q O (if Y0 n.data n.Y4 then 0 else 5)].toArray/\Pv o h1 (U p1 (ZQ n).data.length c1) (ZQ n).data:=by
   unfold je at s1;by_cases c:Y0 n.data n.Y4
   .rw[if_pos (show (aD n.data)<=100000/\0<=n.Y4/\n.Y4<=(aD n.data) from c)]at s1;obtain⟨w,rfl,o1⟩:=s1;obtain⟨p1,c1,rfl,_⟩:=o1.bs.open;have e2:(ZQ n).data=n.data:=by unfold ZQ;simp only;rw[if_pos c]
    have e3:(ZQ n).Y4=(aD n.data):=by unfold ZQ;simp only;rw[if_pos c]
    rw[e2,e3,if_pos c];exact⟨p1,c1,rfl,Im.WS o1.Zq (fun b hb=>d b hb),o1.byte⟩
   .rw[if_neg (show ¬((aD n.data)<=100000/\0<=n.Y4/\n.Y4<=(aD n.data)) from c)]at s1;have e2:(ZQ n).data=[]:=by unfold ZQ;simp only;rw[if_neg c]
    have e3:(ZQ n).Y4=0:=by unfold ZQ;simp only;rw[if_neg c]
    rw[e2,e3,if_neg c];exact⟨al,0,s1,Im.nil _ _ _ _,fun x hx=>by cases hx⟩
  obtain⟨g2,w2,N2,k2⟩:=Yi.write (a:={ a with data:=U p1 (ZQ n).data.length c1 }) (n:={ n with data:=(ZQ n).data,Y4:=(ZQ n).Y4 }) { N1.pt with data:=i1 } kb.Yn N1.ZZ ((XM N1.ZZ.2 N1.pt.store.len).tape (U p1 (ZQ n).data.length c1) (ZQ n).Y4 rfl);have Uh:=Za N1.ZZ.2;have Us:=Za N2.ZZ.2;have kf:hc g2 ⟨nb,55,al⟩=aa a.Zs:=(ZR N2.ZZ.2 N2.pt.store.len).Zs;have pn:Vu o g2 wb i nb a.Zh .nilFunc al:=rfl;obtain⟨g3,w3,N3,k3⟩:=Yi.write (a:={ a with data:=U p1 (ZQ n).data.length c1,Zs:=.nilFunc }) (n:=ZQ n) { N2.pt with Zs:=pn } k2.Yn N2.ZZ ((XM N2.ZZ.2 N2.pt.store.len).Zs .nilFunc rfl);have K3:Kp (JV i) o h o g3:=((Z0 kb).trans (k2.mono fun t q=>.inr (.inr (.inr (by rw[q];rfl))))).trans (k3.mono fun t q=>.inr (.inr (.inr (by rw[q];rfl))));have W3:=(W1.Zf k2 (by rintro t rfl;simp[Tg.of])).Zf k3 (by rintro t rfl;simp[Tg.of]);have Pn3:Vu o g3 wb i nb a.Zh a.Zs (aa p):=((Pn.Zf kb (by rintro⟨⟩)).Zf k2 Va).Zf k3 Va;clear hf Pp';rw[show (YM (ZQ n) p).ts=[] from by cases p<;>rfl,a5];have rm:=ok.room;have hns:(ZQ n).Zs=al:=rfl
  cases p with
  | VN acc to b vs=>
   obtain⟨b6,b4,b9,u,h1',h2',h3',h4',h5'⟩:=Pn3;have cf:=Zd4 T g3 o wb i nb YN Xw fl Yy ZE _ (ZQ n) acc to b vs b6 b4 b9 u k3.Yn N3 W3 rm h2' h3' h4' h5';rw[h1']at kf;unfold Sa at kf;simp only[bS]at kf;unfold Zz at kf cf;simp -implicitDefEqProofs only[go_sem,w2,Uh,kf,w3,Us];refine cf.use ?_;rintro v' h' ⟨o',a',JD,k,N',W'⟩;simp -implicitDefEqProofs only[go_sem];exact⟨o',a',JD,K3.trans (k.mono dO),N',W'⟩
  | TX acc to x=>
   obtain⟨b6,b4,b9,u,h1',h2',h3',h4',h5'⟩:=Pn3;have cf:=Zd5 T g3 o wb i nb YN Xw fl Yy ZE _ (ZQ n) acc to x b6 b4 b9 u k3.Yn N3 W3 rm h2' h3' h4' h5';rw[h1']at kf;unfold Sa at kf;simp only[bS]at kf;unfold Zz at kf cf;simp -implicitDefEqProofs only[go_sem,w2,Uh,kf,w3,Us];refine cf.use ?_;rintro v' h' ⟨o',a',JD,k,N',W'⟩;simp -implicitDefEqProofs only[go_sem];exact⟨o',a',JD,K3.trans (k.mono dO),N',W'⟩
  | Zq acc vs cur=>
   obtain⟨b6,b4,b7,b5,h1',cf⟩:=Zd6 T g3 o wb i nb _ (ZQ n) acc vs cur a.Zs k3.Yn N3 hns Pn3;rw[h1']at kf;unfold Sa at kf;simp only[bS]at kf;unfold Zz at kf cf;rw[show (YM (ZQ n) (.Zq acc vs cur)).ls=[] from rfl,a5];simp -implicitDefEqProofs only[go_sem,w2,Uh,kf,w3,Us];refine cf.use ?_;rintro v' h' ⟨o',a',k,N'⟩;simp -implicitDefEqProofs only[go_sem];exact⟨o',a',Xw,K3.trans (k.mono fun t q=>by rcases q with rfl|rfl|rfl<;>exact .inr (.inr (.inr rfl))),N',W3.Zf k (fun t q=>by rcases q with rfl|rfl|rfl<;>simp[Tg.of])⟩
 | none=>
  have Pp0:a.Zs=.nilFunc:=by have:=N.pt.Zs;rw[hp]at this;exact this
  have Pp1:=P.Zs;rw[Pp0]at Pp1;simp -implicitDefEqProofs only[go_sem,Pu,Pp1];obtain⟨D,hD⟩:=ZL (ZB n n.Zg);have dr:=ok.dr hp;have du:=ok.du hp;have e1:step n=if D.n.Zs.isSome=true then D else ⟨(Yq D.n).n,D.ls++(Yq D.n).ls,D.ts++(Yq D.n).ts⟩:=by unfold step;rw[hu,hp,hD];rfl
  rw[<-hD]at du;rw[e1];refine VS.Yk (fun F g=>F 0=ag (aa ⟨wb,0,al⟩)/\F 1=ag (aa ⟨nb,0,al⟩)/\∃(o':Ow) (a':NA) (JD:WA) (m:Nd) (ls:List YH) (ts:List Ob),Kp (JV i) o h o' g/\Z6 o' g wb i nb a' m/\Z1 o' g wb YN JD (fl++ls) Yy (ZE++ts)/\D=⟨(ZB m m.Zg).n,ls++(ZB m m.Zg).ls,ts++(ZB m m.Zg).ts⟩/\Ns m m.Zg ((aD fl)+(aD ls)) ((aD ZE)+(aD ts)))
   (fun _ g=>dM nb g) rfl ⟨rfl,rfl,o,a,Xw,n,[],[],Kp.refl d _,N,by simpa using W,by rw[hD];rfl,by simpa using dr⟩ ?_
  clear Pu Pp Pp0 Pp1 P T4 N W d;rintro F1 g1 ⟨f0,f1,o1,a1,WA1,m,ls,ts,K1,N1,W1,hDm,dr1⟩;have P1:=ZR N1.ZZ.2 N1.pt.store.len;have Uh:=Za N1.ZZ.2;have P1i:=P1.Zg;have P1p:=P1.Zs;have stop:(m.Zg=[]\/m.Zs.isSome=true)->D=⟨m,ls,ts⟩:=by
   intro q;have e2:ZB m m.Zg=⟨m,[],[]⟩:=by
    cases hmi:m.Zg with
    | nil=>unfold ZB;rw[<-hmi]
    | cons l k=>
     rcases q with q|q
     .rw[hmi]at q;cases q
     .unfold ZB;rw[if_pos q,<-hmi]
   rw[hDm,e2];simp
  rcases N1.pt.Zs.fn with⟨c1,c2⟩|⟨c1,f,fl',c2⟩
  .rw[c2]at P1p
   cases hmi:m.Zg with
   | nil=>
    have eD:=stop (.inl hmi);obtain⟨p,c,hi⟩:∃p c,a1.Zg=U p 0 c:=by
     have:=N1.pt.Zg;rw[hmi]at this;obtain⟨xs,h1,h2,_⟩:=this;obtain⟨p,c,h3,_⟩:=h2.ZP;rw[List.map_eq_nil_iff]at h1;subst h1;exact⟨p,c,h3⟩
    rw[hi]at P1i;have dok:=du (by rw[eD];exact c1);rw[eD]at dok;rw[eD,if_neg (by rw[c1];simp)];have cd:=Zem T g1 o1 wb i nb YN a1 m WA1 (fl++ls) Yy (ZE++ts) K1.Yn N1 W1 (tb.Zf K1) c1 (by rw[aO];exact dok.room) dok.XW dok.data dok.S9 dok.ZA dok.Zx dok.Yv;unfold Zz at cd;simp -implicitDefEqProofs only[go_sem,f0,f1,P1i,P1p];refine cd.use ?_;rintro v' g2 ⟨o2,a2,WA2,k2,N2,W2⟩;simp -implicitDefEqProofs only[go_sem];have edt:(Yq m).ts=[]:=by
     unfold Yq;split
     .exact (MK _).2.2.2.2.2
     .rfl
    refine⟨o2,a2,WA2,K1.trans k2,N2,?_⟩;rw[edt,a5,<-a8];exact W2
   | cons l k=>
    have NI:=N1.pt.Zg;rw[hmi]at NI;obtain⟨w,b,off,c,hi,WB,Kc,iv,tl⟩:=Zeo NI;rw[hi]at P1i;rw[hmi]at dr1;have hk:j8 { m with Zg:=k } l ((aD fl)+(aD ls)) ((aD ZE)+(aD ts))/\Ns (Zw { m with Zg:=k } l).n k ((aD fl)+(aD ls)+(Zw { m with Zg:=k } l).ls.length) ((aD ZE)+(aD ts)+(Zw { m with Zg:=k } l).ts.length):=by
     rcases dr1 with q|q
     .rw[c1]at q;cases q
     .exact q
    obtain⟨hk,dr2⟩:=hk;have AV:D=⟨(ZB (Zw { m with Zg:=k } l).n k).n,(ls++(Zw { m with Zg:=k } l).ls)++(ZB (Zw { m with Zg:=k } l).n k).ls,(ts++(Zw { m with Zg:=k } l).ts)++(ZB (Zw { m with Zg:=k } l).n k).ts⟩:=by
     rw[hDm,hmi];have e2:ZB m (l :: k)=⟨(ZB (Zw { m with Zg:=k } l).n k).n,(Zw { m with Zg:=k } l).ls++(ZB (Zw { m with Zg:=k } l).n k).ls,(Zw { m with Zg:=k } l).ts++(ZB (Zw { m with Zg:=k } l).n k).ts⟩:=by
      rw[ZB];rw[if_neg (by rw[c1];simp)]
     rw[e2];simp
    have Mn:=Ap m l k;clear stop dr1 hDm;obtain⟨pw,cw,rfl⟩:=iv.ZP;obtain⟨g2,Wv⟩:=ZL (g1.push (ab (XV l (U pw (aD l.vs) cw)).toArray 135):Hp);have k2:Kp Wy o1 g1 o1 g2:=by rw[Wv];exact Yw K1.Yn _
    have x5:Yb o1 g2 g1.size (ab (XV l (U pw (aD l.vs) cw)).toArray 135):=⟨K1.Yn _ (aN _),by rw[Wv];exact Zc⟩
    have e2:=Wv.symm;have N2:=N1.Zo k2;have W2:=W1.Zo k2;have P2i:=(ZR N2.ZZ.2 N2.pt.store.len).Zg;rw[hi]at P2i;have Us:=Za N2.ZZ.2;obtain⟨vi',hvi⟩:∃v:a7,v=U (if c=1 then aa ⟨b,off,al⟩ else aa ⟨b,off+14,al⟩) (aD k) (c-1):=⟨_,rfl⟩
    have tl2:WE o1 (.Zg i) g2 vi' k:=by rw[hvi];exact tl.Zf k2 (fun q=>q.elim)
    obtain⟨g3,w3,N3,k3⟩:=Yi.write (a:={ a1 with Zg:=vi' }) (n:={ m with Zg:=k }) { N2.pt with Zg:=tl2 } k2.Yn N2.ZZ ((XM N2.ZZ.2 N2.pt.store.len).Zg vi' (by rw[hvi];rfl));rw[hvi]at w3;have y5:=x5.Zf k3;have W3:=W2.Zf k3 (by rintro t rfl;simp[Tg.of]);have r5:rd g3 ⟨g1.size,0,al⟩ 14=aa (XV l (U pw (aD l.vs) cw)):=Zy y5.2 rfl;have K3:Kp (JV i) o h o1 g3:=(K1.trans (Z0 k2)).trans (k3.mono fun t q=>.inr (.inr (.inr (by rw[q];rfl))));have EJ:(1:Int)<=c:=pA;have ch:=td T g3 o1 wb i nb YN _ { m with Zg:=k } WA1 (fl++ls) Yy (ZE++ts) l (U pw (aD l.vs) cw) k3.Yn N3 W3 ((iv.Zf k2).Zf k3) (tb.Zf K3) hk.Z3 (by rw[aO];exact hk.room) hk.XW hk.data hk.Zi hk.ZA (by rw[aO];exact hk.ZE) hk.Zx hk.Zk hk.RC;unfold Zz XV at ch;unfold XV at Kc e2 r5;simp -implicitDefEqProofs only[go_sem,f0,f1,P1i,P1p,Kc,e2,P2i,Us,w3,WB,EJ,r5,Nat.add_sub_cancel];refine ch.use ?_;rintro v' g4 ⟨o4,a4,nU,k4,N4,W4⟩;simp -implicitDefEqProofs only[go_sem];unfold XN;have in4:=dN N4;have in1:=dN N1;rw[Mn]at in4;rw[hmi]at in1;refine⟨⟨f0,f1,o4,a4,nU,(Zw { m with Zg:=k } l).n,ls++(Zw { m with Zg:=k } l).ls,ts++(Zw { m with Zg:=k } l).ts,K3.trans k4,N4,by rw[<-a8,<-a8];exact W4,by rw[Mn];exact AV,by rw[Mn,aO,aO,<-Nat.add_assoc,<-Nat.add_assoc];exact dr2⟩,?_⟩;show dM nb g4<dM nb g1;rw[in4,in1];simp
  .rw[c2]at P1p;have eD:=stop (.inr c1);rw[eD,if_pos c1];obtain⟨p,c,hi⟩:∃p c,a1.Zg=U p m.Zg.length c:=by
    obtain⟨xs,h1,h2,_⟩:=N1.pt.Zg;obtain⟨p,c,h3,_⟩:=h2.ZP;rw[<-h1,a9];exact⟨p,c,h3⟩
   rw[hi]at P1i;by_cases hz:0<m.Zg.length
   .have ae:(0:Int)<m.Zg.length:=pA;simp -implicitDefEqProofs only[go_sem,f0,f1,P1i,P1p,ae];exact⟨o1,a1,WA1,K1,N1,W1⟩
   .have ae:¬(0:Int)<m.Zg.length:=pA;simp -implicitDefEqProofs only[go_sem,f0,f1,P1i,P1p,ae];exact⟨o1,a1,WA1,K1,N1,W1⟩
def S3(t:Tg):Prop:=True
def Znr(t:Tg):Prop:=∃i,t.of=aa i
theorem YS{S:Tg->Prop}{o':Ow}{h':Hp}(k:Kp S o h o' h'):Kp S3 o h o' h':=k.mono fun _ _=>trivial
structure QM(o:Ow)(h:Hp)(wb:Nat)(YN:Nat->Nat)(Xw:WA)(w:Wd):Prop where
 wd:Z1 o h wb YN Xw w.Zp w.Yy w.ZE
 nd:∀i,i<5->∃a,Z6 o h wb i (YN i) a (w.Zb i)
theorem QM.Zo{h':Hp}{YN:Nat->Nat}{Xw:WA}{w:Wd}{o':Ow}(A:QM o h wb YN Xw w)(k:Kp Wy o h o' h'):QM o' h' wb YN Xw w:=
 ⟨A.wd.Zo k,fun i hi=>by obtain⟨a,N⟩:=A.nd i hi;exact⟨a,N.Zo k⟩⟩
theorem QM.Yv{o':Ow}{h':Hp}{YN:Nat->Nat}{Xw WA1:WA}{w:Wd}{i:Nat}{a:NA}{n:Nd}{fl:List YH}{Yy:Nat->Int}{ZE:List Ob}(A:QM o h wb YN Xw w)(k:Kp (JV i) o h o' h')(N:Z6 o' h' wb i (YN i) a n)(W:Z1 o' h' wb YN WA1 fl Yy ZE):QM o' h' wb YN WA1 { Zb:=fun j=>if j=i then n else w.Zb j,Zp:=fl,Yy:=Yy,ZE:=ZE }:=by
 refine⟨W,fun j hj=>?_⟩;by_cases e:j=i
 .subst e;exact⟨a,by simpa using N⟩
 .obtain⟨b,M⟩:=A.nd j hj;refine⟨b,?_⟩;simp only[if_neg e];refine M.Zf k fun t q hq=>?_;rcases q with rfl|rfl|rfl|q
  .cases hq
  .cases hq
  .cases hq
  .rw[hq]at q;exact e (Option.some.inj q)
theorem TM{YN:Nat->Nat}{Xw:WA}{fl:List YH}{Yy:Nat->Int}{ZE:List Ob}(W:Z1 o h wb YN Xw fl Yy ZE):
  ∃b off c,Xw.Zb=U (aa ⟨b,off,al⟩) 5 c/\5<=c/\b<h.size/\∀i,i<5->hc h ⟨b,off+i,al⟩=aa (Zz (YN i)):=by
 rcases W.Zb with⟨_,e,_⟩|⟨b,off,cap,pre,ZG,g1,g2,g3,g4,g5,g6,g7⟩
 .cases e
 refine⟨b,off,cap,g2,g7,Za g3,fun i hi=>?_⟩;rw[Zn g3,YU,<-g4,List.getElem?_append_right pA,bh]
 match i,hi with
 | 0,_=>rfl
 | 1,_=>rfl
 | 2,_=>rfl
 | 3,_=>rfl
 | 4,_=>rfl
theorem tI{T:bn}{K:a7->Hp->Prop}{ty:TypeId}{t:Tg}{v:a7}{l:List YH}{x:YH}{w:a7}{bx:Nat}{cb:Array Bool}(s:WE o t h v l)(d:Vz o h)(iv:TY o h w x.vs)(hb:h[bx]? = aa (ab (XV x w).toArray 135))(hr:(aD l)<=1000000000000)(H:∀p c o' h',WE o' t h' (U p ((aD l)+1) c) (l++[x])->Kp (fun u=>u=t) o h o' h'->K (U p ((aD l)+1) c) h'):
  PZ bg T .append #[95,95] ty cb [v,U (aa ⟨bx,0,al⟩) 1 1] K h:=by
 have src:Sl 14 h (U (aa ⟨bx,0,al⟩) 1 1) 1 (XV x w):=⟨_,1,rfl,rfl,fun _=>⟨bx,0,rfl,fun i hi=>by
  rw[Zn hb,YU,Nat.zero_add];exact bo hi⟩⟩
 obtain⟨p,c,hw⟩:=iv.ZP;have X3:YE w=true:=by rw[hw];rfl
 obtain⟨xs,Wf,Mw,jo⟩:=s;have BT:(aD xs)=(aD l):=by rw[<-Wf,a9]
 refine Q8 (E:=135) (n:=14) (bytes:=128) (k:=1) mL Tryz.underlying95 yv mO rfl Zfv Mw d src (by rw[XV,List.all_eq_true];intro x hx;simp at hx;rcases hx with rfl|rfl|rfl|rfl|rfl|rfl|rfl|rfl|rfl|rfl|rfl|rfl|rfl|rfl<;>first|rfl|exact X3) pA pA ?_;intro v' o' h' w' k _;obtain⟨p',c',rfl,_⟩:=w'.ZP;rw[BT];refine H p' c' o' h' ⟨xs++[(x,w)],by rw[bN,Wf];rfl,?_,fun y hy=>?_⟩ k
 .rw[Y6,Tu,aO,<-BT];exact w'
 .rcases List.mem_append.1 hy with hy|hy
  .exact (jo y hy).Zf k
  .have:y=(x,w):=by simpa using hy
   subst this;exact iv.Zf k
theorem RF{t:Tg}{v:a7}{l:List YH}(s:WE o t h v l):∃p c,v=U p (aD l) c/\(aD l)<=c:=by
 obtain⟨xs,h1,h2,_⟩:=s;obtain⟨p,c,h3,h4⟩:=h2.ZP;rw[<-h1,a9];exact⟨p,c,h3,h4⟩
set_option maxHeartbeats 4000000 in
theorem Aq(T:bn)(h:Hp)(o:Ow)(wb:Nat)(YN:Nat->Nat)(Xw:WA)(w:Wd)(l:YH)(v:a7)(d:Vz o h)(A:QM o h wb YN Xw w)(iv:TY o h v l.vs)(hto:0<=l.to/\l.to<5)(Mn:∀i,i<5->(w.Zb i).Zg.length<=1000000000000):
  Zd bg T 54 #[Zz wb,be (XV l v).toArray] h fun v' h'=>∃o',Kp Znr o h o' h'/\QM o' h' wb YN Xw (QL w l):=by
 obtain⟨pw,cw,rfl⟩:=iv.ZP;obtain⟨j,hj⟩:∃j:Nat,(j:Int)=l.to:=⟨l.to.toNat,pA⟩
 have hj5:j<5:=pA;have hjn:l.to.toNat=j:=pA;refine Zd.XS [_,_] Tryz.func54 ?_;unfold Zz XV;obtain⟨h1,Xp⟩:=ZL (h.push (ab (XV l (U pw (aD l.vs) cw)).toArray 135):Hp);have k1:Kp Wy o h o h1:=by rw[Xp];exact Yw d _
 have x3:Yb o h1 h.size (ab (XV l (U pw (aD l.vs) cw)).toArray 135):=⟨d _ (aN _),by rw[Xp];exact Zc⟩
 have e0:=Xp.symm;unfold XV at e0;have A1:=A.Zo k1;have R1:=XX A1.wd.ZZ.2;obtain⟨b,off,c,hn,hc5,hb,Kc⟩:=TM A1.wd;have Rn:=R1.Zb;rw[hn]at Rn;have Am:=Za A1.wd.ZZ.2;have r3:hc h1 ⟨h.size,2,al⟩=aa (Q O j):=by rw[hj];exact Zn x3.2
 have l3:=Za x3.2;have rj:=Kc j hj5;unfold Zz at rj;have Zwq:(j:Int)<5:=pA;simp -implicitDefEqProofs only[go_sem,e0];refine VS.mono (N:=fun F' g'=>Zj h1.size h1 g'/\F' 3=ag (aa ⟨h.size,0,al⟩)/\F' 4=ag (aa ⟨YN j,0,al⟩)) ?_ ?_ (fun _ _ _ h=>h) (fun _ _ h=>h)
 .refine VS.z (h1.size) [] (.p 0 (.p 1 (.p 2 (.q 3 (.p 4 (.q 5 (.p 6 (.q 7 (.p 8 .nil))))))))) mixed vM ?_;simp -implicitDefEqProofs only[go_sem,Rn,r3,Am,l3,hb,Zwq,rj]
  try exact Zj.refl _ _
 rintro F1 g1 ⟨b1,f3,f4⟩;have kb:=ZX k1.Yn b1;have A2:=A1.Zo kb;have K2:=k1.trans kb;have y3:=x3.Zf kb;obtain⟨a,N2⟩:=A2.nd j hj5;have P2:=ZR N2.ZZ.2 N2.pt.store.len;have nV:=P2.up;have T4:=Za N2.ZZ.2;unfold QL;rw[hjn]
 cases hu:(w.Zb j).up with
 | false=>
  rw[hu]at nV;rw[if_neg IQ];simp -implicitDefEqProofs only[go_sem,f4,nV];exact⟨o,Z0 K2,A2⟩
 | true=>
  rw[hu]at nV;rw[if_pos rfl];obtain⟨pi,ci,hi,_⟩:=RF N2.pt.Zg;have P2i:=P2.Zg;rw[hi]at P2i;have r3:rd g1 ⟨h.size,0,al⟩ 14=aa (XV l (U pw (aD l.vs) cw)):=Zy y3.2 rfl;unfold XV at r3;have l3:=Za y3.2;simp -implicitDefEqProofs only[go_sem,f4,nV];refine VS.z (g1.size) [7,10] (.p 0 (.p 1 (.p 2 (.p 3 (.q 4 (.q 5 (.s 6 (.w 7 (.p 8 (.p 9 (.w 10 .nil))))))))))) mixed vM ?_;simp -implicitDefEqProofs only[go_sem,f3,f4,P2i,r3,T4,l3];obtain⟨g2,Wv⟩:=ZL (g1.push (ab (XV l (U pw (aD l.vs) cw)).toArray 135):Hp);have k2:Kp Wy o g1 o g2:=by rw[Wv];exact Yw K2.Yn _
  have e2:=Wv.symm;unfold XV at e2;rw[e2];have N3:=N2.Zo k2;have A3:=A2.Zo k2;have K3:=K2.trans k2;have LI:=N3.pt.Zg;rw[hi]at LI;refine tI LI K3.Yn ((iv.Zf K2).Zf k2) (by rw[Wv];exact Zc) (Mn j hj5) ?_;intro p3 c3 o3 g3 L3 k3;have k3:Kp (fun t=>t=.Zg j) o g2 o3 g3:=k3;have N4:=Yi.sO N3.pt k3 L3;have B4:=N3.ZZ.Zf k3 Va;have W4:=A3.wd.Zf k3 (by rintro t rfl;simp[Tg.of]);obtain⟨g5,w5,N5,k5⟩:=Yi.write N4 k3.Yn B4 ((XM B4.2 N3.pt.store.len).Zg (U p3 ((w.Zb j).Zg.length+1) c3) rfl);have HX:=Za B4.2;simp -implicitDefEqProofs only[go_sem,w5,HX];have W5:=W4.Zf k5 (by rintro t rfl;simp[Tg.of]);have kk:Kp (fun t=>t.of=aa j) o g2 o3 g5:=(k3.mono fun t q=>by rw[q];rfl).trans (k5.mono fun t q=>by rw[q];rfl);exact⟨o3,(Z0 K3).trans (kk.mono fun t q=>⟨j,q⟩),A3.Yv (kk.mono fun t q=>.inr (.inr (.inr q))) N5 W5⟩
theorem nW{t:Tg}{v:a7}{l:List YH}(s:WE o t h v l)(k:Nat)(hk:k<(aD l)):
  ∃w b off c,v=U (aa ⟨b,off,al⟩) (aD l) c/\(aD l)<=c/\b<h.size/\rd h ⟨b,off+k*14,al⟩ 14=aa (XV l[k] w)/\TY o h w l[k].vs:=by
 obtain⟨xs,rfl,h2,h3⟩:=s;rw[a9]at hk;rcases h2 with⟨_,e,_⟩|⟨b,off,cap,pre,ZG,g1,rfl,g3,g4,g5,g6,g7⟩
 .omega
 refine⟨xs[k].2,b,off,cap,by rw[a9],by rw[a9];exact g7,Za g3,?_,?_⟩
 .have hlen:∀x,(Hd x).length=14:=fun x=>rfl;have hle:k*14+14<=(aD xs)*14:=by omega
  rw[YL g3 (by simp only[aO];omega),<-g4,List.drop_append,List.drop_of_length_le (by omega),bR,bh];rw[List.drop_append_of_le_length (by omega),List.take_append_of_le_length (by rw[List.length_drop];omega)];rw[RE hlen xs k (by omega),List.drop_eq_getElem_cons hk];have e1:ZU Hd (xs[k] :: xs.drop (k+1))=XV xs[k].1 xs[k].2++ZU Hd (xs.drop (k+1)):=by simp[ZU,Hd]
  rw[e1,bp];rfl
 .rw[bp];exact h3 _ (bB hk)
theorem tJ{o':Ow}{t:Tg}{h':Hp}{xs:List (YH × a7)}{v:a7}{k:Nat}(hk:k<(aD xs))(h2:XB o' t 135 14 h' v ((aD xs)-1) ((ZU Hd xs).take (k*14)++(ZU Hd xs).drop ((k+1)*14)))(h3:∀x∈xs,TY o' h' x.2 x.1.vs):
  WE o' t h' v ((xs.map (·.1)).eraseIdx k):=by
 have hlen:∀x,(Hd x).length=14:=fun x=>rfl;have el:(xs.eraseIdx k).length=(aD xs)-1:=by rw[List.length_eraseIdx_of_lt hk]
 refine⟨xs.eraseIdx k,?_,?_,fun x hx=>h3 x (List.mem_of_mem_eraseIdx hx)⟩
 .rw[bf,bf,bN,List.map_take,List.map_drop]
 .rw[el];have e1:ZU Hd (xs.eraseIdx k)=(ZU Hd xs).take (k*14)++(ZU Hd xs).drop ((k+1)*14):=by
   rw[Nq hlen xs k pA,RE hlen xs (k+1) pA,<-Y6,bf]
  rw[e1];exact h2
theorem Z1.Cr{o1:Ow}{h1:Hp}{nb:Nat->Nat}{a:WA}{fl fl':List YH}{Yy:Nat->Int}{ZE:List Ob}{v:a7}(W:Z1 o h wb nb a fl Yy ZE)(k:Kp (fun t=>t=.Zp) o h o1 h1)(hv:WE o1 .Zp h1 v fl'){e:Option Hp}(w:e=aa (h1.setIfInBounds wb (ab (Jd Yy { a with Zp:=v }).toArray 97))):
  ∃g,e=aa g/\Z1 o1 g wb nb { a with Zp:=v } fl' Yy ZE/\Kp (fun t=>t=.world) o1 h1 o1 g:=by
 have b:=W.ZZ.Zf k Va;have kk:Kp (fun t=>t=.world) o1 h1 o1 (h1.setIfInBounds wb (ab (Jd Yy { a with Zp:=v }).toArray 97)):=(Kp.refl k.Yn (fun t=>t=.world)).set b.1 rfl _;exact⟨_,w,⟨⟨b.1,ZV b.2⟩,(W.Zb.Zf k Va).Zf kk Va,hv.Zf kk Va,(W.ZE.Zf k Va).Zf kk Va⟩,kk⟩
theorem QM.Zep{S:Tg->Prop}{o':Ow}{h':Hp}{YN:Nat->Nat}{Xw WA1:WA}{w:Wd}{fl:List YH}{Yy:Nat->Int}{ZE:List Ob}(A:QM o h wb YN Xw w)(k:Kp S o h o' h')(hn:∀t,S t->t.of=al)(W:Z1 o' h' wb YN WA1 fl Yy ZE):
  QM o' h' wb YN WA1 { w with Zp:=fl,Yy:=Yy,ZE:=ZE }:=
 ⟨W,fun i hi=>by obtain⟨a,N⟩:=A.nd i hi;exact⟨a,N.Zf k fun t q e=>by rw[hn t q]at e;cases e⟩⟩
theorem Zeq:∀(xs:List (YH × a7)),(∀x∈xs,TY o h x.2 x.1.vs)->(ZU Hd xs).all YE=true:=by
 intro xs
 induction xs with
 | nil=>intro _;rfl
 | cons x xs ih=>
  intro hx;have e1:ZU Hd (x :: xs)=Hd x++ZU Hd xs:=by simp[ZU]
  obtain⟨p,c,hw⟩:=(hx x IQ).ZP;rw[e1,List.all_append,ih (fun y hy=>hx y (by simp[hy])),Bool.and_true];unfold Hd;rw[hw];rfl
set_option maxHeartbeats 4000000 in
theorem ZaW(T:bn)(h:Hp)(o:Ow)(wb:Nat)(YN:Nat->Nat)(Xw:WA)(w:Wd)(at':Nat)(comes stays:Bool)(d:Vz o h)(A:QM o h wb YN Xw w)(hto:∀l∈w.Zp,0<=l.to/\l.to<5)(hfl:w.Zp.length<=1000000000000)(Mn:∀i,i<5->(w.Zb i).Zg.length<=1000000000000):
  Zd bg T 53 #[Zz wb,Q O at',a6 comes,a6 stays] h fun v' h'=>∃o' JD,Kp S3 o h o' h'/\QM o' h' wb YN JD (pick w at' comes stays):=by
 refine Zd.XS [_,_,_,_] Tryz.func53 ?_;unfold Zz;have R:=XX A.wd.ZZ.2;have Rf:=R.Zp;have Am:=Za A.wd.ZZ.2;obtain⟨pf,cf,hf,hfc⟩:=RF A.wd.Zp;rw[hf]at Rf;by_cases hz:w.Zp.length=0
 .have hp:pick w at' comes stays=w:=by
   unfold pick;rw[List.getElem?_eq_none (by rw[hz];exact Nat.zero_le _)]
  rw[hp];have ae:(w.Zp.length:Int)=0:=pA;simp -implicitDefEqProofs only[go_sem,Rf,ae];exact⟨o,Xw,Kp.refl d _,A⟩
 have ae:¬(w.Zp.length:Int)=0:=pA;obtain⟨k,hk⟩:=ZL (at'%w.Zp.length);have hkl:k<w.Zp.length:=by rw[hk];exact Nat.mod_lt _ pA
 have ek:(at':Int).tmod (w.Zp.length:Int)=(k:Int):=by rw[hk];rfl
 have Zii:(k:Int)<w.Zp.length:=pA;obtain⟨v,b,off,c,hv,hvc,hb,Kc,iv⟩:=nW A.wd.Zp k hkl;rw[hf]at hv;simp only[Value.slice.injEq]at hv;obtain⟨rfl,_,rfl⟩:=hv;obtain⟨l,hl⟩:=ZL (w.Zp[k]);rw[<-hl]at Kc iv;have nC:l∈w.Zp:=by rw[hl];exact bB hkl
 obtain⟨pw,cw,rfl⟩:=iv.ZP;obtain⟨h1,Xp⟩:=ZL (h.push (ab (XV l (U pw (aD l.vs) cw)).toArray 135):Hp);have k1:Kp Wy o h o h1:=by rw[Xp];exact Yw d _
 have x9:Yb o h1 h.size (ab (XV l (U pw (aD l.vs) cw)).toArray 135):=⟨d _ (aN _),by rw[Xp];exact Zc⟩
 have e0:=Xp.symm;unfold XV at e0 Kc;have A1:=A.Zo k1;have R1:=XX A1.wd.ZZ.2;have R1f:=R1.Zp;rw[hf]at R1f;have Zij:=Za A1.wd.ZZ.2;have r9:rd h1 ⟨h.size,0,al⟩ 14=aa (XV l (U pw (aD l.vs) cw)):=Zy x9.2 rfl;unfold XV at r9;have eg:w.Zp[at'%w.Zp.length]? = aa l:=by rw[<-hk,hl];exact bo hkl
 have ep:pick w at' comes stays=if comes=true then QL (if stays=true then w else { w with Zp:=w.Zp.eraseIdx k }) l else (if stays=true then w else { w with Zp:=w.Zp.eraseIdx k }):=by
  unfold pick;rw[eg,hk]
 rw[ep]
 cases stays with
 | true=>
  rw[if_pos rfl]
  cases comes with
  | false=>
   rw[if_neg IQ];simp -implicitDefEqProofs only[go_sem,Rf,ae,ek,Zii,Kc,e0];exact⟨o,Xw,YS k1,A1⟩
  | true=>
   rw[if_pos rfl];have cc:=Aq T h1 o wb YN Xw w l (U pw (aD l.vs) cw) k1.Yn A1 (iv.Zf k1) (hto l nC) Mn;unfold Zz XV at cc;simp -implicitDefEqProofs only[go_sem,Rf,ae,ek,Zii,Kc,e0,r9];refine cc.use ?_;rintro v' g ⟨o',kk,A'⟩;simp -implicitDefEqProofs only[go_sem];exact⟨o',Xw,(YS k1).trans (YS kk),A'⟩
 | false=>
  rw[if_neg (show ¬(false=true) by simp)];obtain⟨xs,Wf,Mw,jo⟩:=A1.wd.Zp;have BT:(aD xs)=w.Zp.length:=by rw[<-Wf,a9]
  have cd:=dy T h1 o .Zp Xw.Zp (aD xs) k (ZU Hd xs) Mw k1.Yn (Zeq xs jo) pA pA;rw[hf]at cd;have ek2:(k:Int)+1=((k:Int)+1):=rfl;simp -implicitDefEqProofs only[go_sem,Rf,ae,ek,Zii,Kc,e0,R1f];refine cd.use ?_;rintro v2 g2 ⟨L2,k2⟩;have k2:Kp (fun t=>t=.Zp) o h1 o g2:=k2;have L3:WE o .Zp g2 v2 (w.Zp.eraseIdx k):=by
   rw[<-Wf];exact tJ pA L2 (fun x hx=>(jo x hx).Zf k2)
  have B2:=A1.wd.ZZ.Zf k2 Va;obtain⟨p2,c2,rfl,_⟩:=RF L3;obtain⟨g3,w3,W3,k3⟩:=A1.wd.Cr k2 L3 ((XX B2.2).Ak (U p2 (w.Zp.eraseIdx k).length c2) rfl);have A3:QM o g3 wb YN { Xw with Zp:=U p2 (w.Zp.eraseIdx k).length c2 } { w with Zp:=w.Zp.eraseIdx k }:=
   A1.Zep (S:=fun t=>t=.Zp\/t=.world) ((k2.mono fun t q=>.inl q).trans (k3.mono fun t q=>.inr q)) (by rintro t (rfl|rfl)<;>rfl) W3
  have Zik:=Za B2.2;have y9:=(x9.Zf k2).Zf k3;have r9:rd g3 ⟨h.size,0,al⟩ 14=aa (XV l (U pw (aD l.vs) cw)):=Zy y9.2 rfl;unfold XV at r9;have K3:Kp S3 o h o g3:=((YS k1).trans (YS k2)).trans (YS k3)
  cases comes with
  | false=>
   rw[if_neg (show ¬(false=true) by simp)];simp -implicitDefEqProofs only[go_sem,w3,Zik];exact⟨o,_,K3,A3⟩
  | true=>
   rw[if_pos rfl];have cc:=Aq T g3 o wb YN _ _ l (U pw (aD l.vs) cw) k3.Yn A3 (((iv.Zf k1).Zf k2).Zf k3) (hto l nC) Mn;unfold Zz XV at cc;simp -implicitDefEqProofs only[go_sem,w3,Zik,r9];refine cc.use ?_;rintro v' g ⟨o',kk,A'⟩;simp -implicitDefEqProofs only[go_sem];exact⟨o',_,K3.trans (YS kk),A'⟩
theorem Zer(rc:List Nat)(now:Int):dn rc now=(Xu rc now).C:=by
 unfold dn Xu;split<;>rfl
theorem Zil{Yy:Nat->Int}{a:WA}(H:h[wb]? = aa (ab (Jd Yy a).toArray 97))(i:Nat)(hi:i<5):
  hc h ⟨wb,9+i,al⟩=aa (Q O (Yy i))/\∀k,QX h ⟨wb,9+i,al⟩ (Q O k)=aa (h.setIfInBounds wb (ab (Jd (fun j=>if j=i then k else Yy j) a).toArray 97)):=by
 match i,hi with
 | 0,_=>exact⟨Zn H,fun k=>by rw[Xj H,if_pos ⟨by simp[Jd],rfl⟩];rfl⟩
 | 1,_=>exact⟨Zn H,fun k=>by rw[Xj H,if_pos ⟨by simp[Jd],rfl⟩];rfl⟩
 | 2,_=>exact⟨Zn H,fun k=>by rw[Xj H,if_pos ⟨by simp[Jd],rfl⟩];rfl⟩
 | 3,_=>exact⟨Zn H,fun k=>by rw[Xj H,if_pos ⟨by simp[Jd],rfl⟩];rfl⟩
 | 4,_=>exact⟨Zn H,fun k=>by rw[Xj H,if_pos ⟨by simp[Jd],rfl⟩];rfl⟩
theorem ZaX{i:Nat}(t:Tg)(q:Zh2 i t):JV i t:=by
 rcases q with rfl|rfl<;>exact .inr (.inr (.inr rfl))
theorem add_same(n:Nd)(x:Cm):(add n x).Zk=n.Zk/\(add n x).me=n.me:=by
 unfold add;split<;>exact⟨rfl,rfl⟩
set_option maxHeartbeats 4000000 in
theorem tL(T:bn)(h:Hp)(o:Ow)(wb:Nat)(YN:Nat->Nat)(Xw:WA)(w:Wd)(i:Nat)(rc:List Nat)(v:a7)(d:Vz o h)(A:QM o h wb YN Xw w)(hi:i<5)(Dp:(w.Zb i).me=i)(iv:Pv o h v rc)(Wx:RY v)(hrl:(aD rc)<=140737488355328)(tb:dp o h)(hq:(w.Zb i).Zx.length<=1000000000000)(hl:(w.Zb i).ZA.length<=1000000000000)(Gu:(w.Zb i).Zk.length<=1000000000000)(ht:w.ZE.length<=1000000000000)(hb:0<=w.Yy i/\w.Yy i<=1000000000000):
  Zd bg T 50 #[Zz wb,Zz (YN i),v] h fun v' h'=>∃o' JD,Kp S3 o h o' h'/\QM o' h' wb YN JD (Jz w i rc):=by
 obtain⟨pv,cv,rfl⟩:=iv.1.ZP;refine Zd.XS [_,_,_] Tryz.func50 ?_;unfold Zz;obtain⟨a,N⟩:=A.nd i hi;obtain⟨n,hn⟩:=ZL (w.Zb i);unfold Jz;rw[<-hn]at N Dp hq hl Gu ⊢;have P:=ZR N.ZZ.2 N.pt.store.len;have T4:=Za N.ZZ.2;have Pu:=P.up
 cases hu:n.up with
 | false=>
  rw[hu]at Pu;rw[if_neg IQ];simp -implicitDefEqProofs only[go_sem,Pu];exact⟨o,Xw,Kp.refl d _,A⟩
 | true=>
 rw[hu]at Pu;rw[if_pos rfl];have Pl:=P.ZA;obtain⟨pl,cl,MV,_⟩:=XB.ZP N.pt.ZA;have MV:a.ZA=U pl n.ZA.length cl:=MV;rw[MV]at Pl;obtain⟨E,hE⟩:=ZL (YR rc n.ZA.length);obtain⟨x,hx⟩:=ZL (Xu rc n.ZA.length);have co:=Zaq T h (U pv (aD rc) cv) rc n.ZA.length iv.bs Wx hrl tb.tk tb.tn;rw[Zer,<-hE,<-hx]at co;rw[<-hE,<-hx];simp -implicitDefEqProofs only[go_sem,Pu,Pl];refine co.use ?_;rintro _ g ⟨rfl,b⟩;have kb:=ZX d b;obtain⟨g1,Mc⟩:=ZL (g.push (ab x.C.toArray 25):Hp);have e1:=Mc.symm;have k1:Kp Wy o h o g1:=by rw[Mc];exact kb.push _
 have x6:Yb o g1 g.size (ab x.C.toArray 25):=⟨kb.Yn _ (aN _),by rw[Mc];exact Zc⟩
 have A1:=A.Zo k1;have N1:=N.Zo k1;have P1:=ZR N1.ZZ.2 N1.pt.store.len;have Zim:=P1.me;rw[Dp]at Zim;have Uh:=Za N1.ZZ.2;have Zij:=Za A1.wd.ZZ.2;obtain⟨br,bw⟩:=Zil A1.wd.ZZ.2 i hi;have r6:rd g1 ⟨g.size,0,al⟩ 5=aa x.C:=Zy x6.2 rfl;have l6:=Za x6.2;have KT:(i:Int)<5:=pA;by_cases hz:E=0
 case neg=>
  rw[if_pos (by simpa using hz)];simp -implicitDefEqProofs only[go_sem,e1,hz];refine VS.z (g1.size) [15] (.p 0 (.p 1 (.p 2 (.p 3 (.q 4 (.p 5 (.p 6 (.p 7 (.p 8 (.q 9 (.p 10 (.p 11 (.p 12 (.p 13 (.p 14 (.w 15 .nil)))))))))))))))) mixed vM ?_;simp -implicitDefEqProofs only[go_sem,Zim,Uh,Zij,KT,br,bw];have kk:Kp (fun t=>t=.world) o g1 o (g1.setIfInBounds wb (ab (Jd (fun j=>if j=i then w.Yy i+1 else w.Yy j) Xw).toArray 97)):=(Kp.refl k1.Yn (fun t=>t=.world)).set A1.wd.ZZ.1 rfl _;exact⟨o,Xw,(YS k1).trans (YS kk),A1.Zep kk (by rintro t rfl;rfl) ⟨⟨A1.wd.ZZ.1,ZV A1.wd.ZZ.2⟩,A1.wd.Zb.Zf kk Va,A1.wd.Zp.Zf kk Va,A1.wd.ZE.Zf kk Va⟩⟩
 rw[if_neg (by simpa using hz)];have P1l:hc g1 ⟨YN i,11,al⟩=aa a.ZA:=P1.ZA;simp -implicitDefEqProofs only[go_sem,e1,hz];obtain⟨J,hJ⟩:=ZL (RD n.ZA x);refine VS.mono (N:=fun F' g'=>Zj g1.size g1 g'/\F' 0=ag (aa ⟨wb,0,al⟩)/\F' 1=ag (aa ⟨YN i,0,al⟩)/\F' 6=ag (aa ⟨g.size,0,al⟩)/\F' 8=Q O J) ?_ ?_ (fun _ _ _ h=>h) (fun _ _ h=>h)
 .refine VS.z (g1.size) [5] (.p 0 (.p 1 (.p 2 (.q 3 (.q 4 (.w 5 (.p 6 .nil))))))) mixed vM ?_;simp -implicitDefEqProofs only[go_sem,P1l,r6,Uh,l6];refine (FS T g1 _ n.ZA x N1.pt.ZA.ts pA).use ?_;rintro _ g2 ⟨rfl,b2⟩;simp -implicitDefEqProofs only[go_sem,b2,hJ]
 rintro F2 g2 ⟨b2,f0,f1,f6,f8⟩;have NM:=ZX k1.Yn b2;have A2:=A1.Zo NM;have N2:=N1.Zo NM;have y6:=x6.Zf NM;have K2:Kp Wy o h o g2:=k1.trans NM;have P2:=ZR N2.ZZ.2 N2.pt.store.len;have tH:=P2.me;rw[Dp]at tH;have Us:=Za N2.ZZ.2;have Zik:=Za A2.wd.ZZ.2;have r62:rd g2 ⟨g.size,0,al⟩ 5=aa x.C:=Zy y6.2 rfl;have l62:=Za y6.2;clear r6 l6 Uh Zij br bw P1 Zim P1l e1;by_cases hm:x∈n.ZA
 .have hJ0:0<=J:=by rw[hJ];exact (Ka _ _).2 hm
  rw[if_pos hm];have call:=fun G=>nJ T G n.store N2.pt.store x;have P2s:rd g2 ⟨YN i,12,al⟩ 40=aa n.store:=P2.store;obtain⟨D,hDe⟩:=ZL (FM n.store x);obtain⟨E2,sX⟩:=ZL (UU n.store x);obtain⟨c1,WB⟩:=ZL (OM n.store x);obtain⟨c2,EJ⟩:=ZL (Hb n.store x);have hD:=N2.pt.store.do x
  rw[<-hDe]at hD;rw[<-hDe,<-sX,<-WB,<-EJ]at call;rw[<-WB,<-EJ];have Hh:=hD.len;have AV:=hD.one;unfold Sy at call;have HG:=ZW (zs:=Yj) (vs:=D) (by rw[Hh];rfl);unfold Yj at HG;simp only[rep,List.cons_append,bR]at HG;have wA:∀(G:Hp) (k:Nat),G[k]? = aa (ab Yj.toArray 55)->wr G ⟨k,0,al⟩ D=aa (G.setIfInBounds k (ab D.toArray 55)):=fun G k hx=>by
   rw[Ye hx 0 D,ZW (by rw[Hh];rfl),if_pos ⟨by rw[Hh];simp[Yj,rep],AV⟩]
  have wB:∀(G:Hp) (k:Nat),G[k]? = aa (ab [Q O 0,Q O 0].toArray 51)->wr G ⟨k,0,al⟩ [Q O c1,Q O c2]=aa (G.setIfInBounds k (ab [Q O c1,Q O c2].toArray 51)):=fun G k hx=>by
   rw[Ye hx 0 _];rfl
  have gl:∀(G:Hp) (X Y:Obj),((G.push X).push Y)[G.size]? = aa X:=fun G X Y=>by rw[ZJ IQ,Zc]
  have gs:∀(G:Hp) (k:Nat) (X Y:Obj),((G.setIfInBounds k X).push Y)[G.size]? = aa Y:=fun G k X Y=>by
   have:=Zc (h:=G.setIfInBounds k X) (o:=Y);rwa [Array.size_setIfInBounds]at this
  have gl':=gs;have gr:∀(G:Hp) (X Y:Obj),((G.push X).push Y)[G.size+1]? = aa Y:=fun G X Y=>by
   have:=Zc (h:=G.push X) (o:=Y);rwa [a0]at this
  simp -implicitDefEqProofs only[go_sem,f8,hJ0];refine VS.mono (N:=fun F' g'=>Zj g2.size g2 g'/\F' 0=ag (aa ⟨wb,0,al⟩)/\F' 1=ag (aa ⟨YN i,0,al⟩)/\F' 6=ag (aa ⟨g.size,0,al⟩)/\∃B,F' 10=ag (aa ⟨B,0,al⟩)/\g2.size<=B/\g'[B]? = aa (ab [Q O c1,Q O c2].toArray 51)) ?_ ?_ (fun _ _ _ h=>h) (fun _ _ h=>h)
  .refine VS.z (g2.size) [5,12,13] (.p 0 (.p 1 (.p 2 (.q 3 (.q 4 (.or 5 (.p 6 (.p 7 (.p 8 (.p 9 (.or 10 (.s 11 (.w 12 (.w 13 (.p 14 .nil)))) (.s 11 (.s 10 (.w 12 (.w 13 (.p 14 .nil)))))))))) (.or 10 (.or 5 (.p 6 (.p 7 (.p 8 (.p 9 (.s 11 (.w 12 (.w 13 (.p 14 .nil)))))))) (.s 11 (.w 5 (.p 6 (.p 7 (.p 8 (.p 9 (.w 12 (.w 13 (.p 14 .nil)))))))))) (.s 11 (.or 5 (.p 6 (.p 7 (.p 8 (.p 9 (.s 10 (.w 12 (.w 13 (.p 14 .nil)))))))) (.s 10 (.w 5 (.p 6 (.p 7 (.p 8 (.p 9 (.w 12 (.w 13 (.p 14 .nil)))))))))))))))))) mixed vM ?_;simp -implicitDefEqProofs only[go_sem,f0,f1,f6,P2s,Us,l62,r62]
   repeat' (first|with_reducible exact Zj.refl _ _|with_reducible exact Zj.push pA _|with_reducible refine b0 ?_ ?_)
   all_goals first
    | (refine (call g2).use ?_
       rintro _ g5 ⟨rfl,b5⟩;have s5:=b5.size;simp -implicitDefEqProofs only[go_sem,b5,Hh,AV,HG];refine⟨⟨f0,f1,f6,_,rfl,pA,gr _ _ _⟩,⟨f0,f1,f6,_,rfl,s5,gl _ _ _⟩⟩)
    | (refine (call (g2.push (ab _ 55))).use ?_
       rintro _ g5 ⟨rfl,b5⟩;have s5:=b5.size;rw[a0]at s5;have B5:Zj g2.size g2 g5:=(Zj.push (aN _) _).trans (b5.mono IQ);have xA:=b5.get (k:=g2.size) IQ Zc;have PM:=wA _ _ xA;have zA:=Za xA;simp -implicitDefEqProofs only[go_sem,B5,Hh,AV,PM,zA];exact⟨f0,f1,f6,_,rfl,pA,gs _ _ _ _⟩)
    | (refine (call (g2.push (ab _ 51))).use ?_
       rintro _ g5 ⟨rfl,b5⟩;have s5:=b5.size;rw[a0]at s5;have B5:Zj g2.size g2 g5:=(Zj.push (aN _) _).trans (b5.mono IQ);have xB:=b5.get (k:=g2.size) IQ Zc;have FX:=wB _ _ xB;have zB:=Za xB;have gB:=ZV (o:=ab [Q O c1,Q O c2].toArray 51) xB;simp -implicitDefEqProofs only[go_sem,B5,Hh,AV,FX,HG,zB];exact⟨f0,f1,f6,_,rfl,aN _,by rw[ZJ (by simpa using zB)];exact gB⟩)
    | (refine (call ((g2.push (ab _ 55)).push (ab _ 51))).use ?_
       rintro _ g5 ⟨rfl,b5⟩;have s5:=b5.size;rw[a0,a0]at s5;have B5:Zj g2.size g2 g5:=((Zj.push (aN _) _).YX IQ _).trans (b5.mono VL);have xA:=b5.get (k:=g2.size) VL (gl _ _ _);have xB:=b5.get (k:=g2.size+1) IQ (gr _ _ _);have PM:=wA _ _ xA;have zA:=Za xA;have Ig:=(Xg (o:=ab D.toArray 55) (show g2.size≠g2.size+1 by omega)).trans xB;have FX:=wB _ _ Ig;have zB:=Za Ig;simp -implicitDefEqProofs only[go_sem,B5,Hh,AV,PM,zA,FX,zB];exact⟨f0,f1,f6,_,rfl,pA,ZV Ig⟩)
    | (refine (call ((g2.push (ab _ 51)).push (ab _ 55))).use ?_
       rintro _ g5 ⟨rfl,b5⟩;have s5:=b5.size;rw[a0,a0]at s5;have B5:Zj g2.size g2 g5:=((Zj.push (aN _) _).YX IQ _).trans (b5.mono VL);have xB:=b5.get (k:=g2.size) VL (gl _ _ _);have xA:=b5.get (k:=g2.size+1) IQ (gr _ _ _);have PM:=wA _ _ xA;have zA:=Za xA;have Ig:=(Xg (o:=ab D.toArray 55) (show g2.size+1≠g2.size by omega)).trans xB;have FX:=wB _ _ Ig;have zB:=Za Ig;simp -implicitDefEqProofs only[go_sem,B5,Hh,AV,PM,zA,FX,zB];exact⟨f0,f1,f6,_,rfl,pA,ZV Ig⟩)
  clear f0 f1 f6 f8;rintro F5 g5 ⟨b5,f0,f1,f6,B,f10,hB,yB⟩;have Ck:=ZX K2.Yn b5;have A5:=A2.Zo Ck;have N5:=N2.Zo Ck;have z6:=y6.Zf Ck;have K5:Kp Wy o h o g5:=K2.trans Ck;have xB:Yb o g5 B (ab [Q O c1,Q O c2].toArray 51):=⟨K2.Yn _ hB,yB⟩
  have Zws:=(ZR N5.ZZ.2 N5.pt.store.len).me;have MI:=Za N5.ZZ.2;have U5:=XX A5.wd.ZZ.2;have kh:=Za A5.wd.ZZ.2;have rx1:hc g5 ⟨g.size,1,al⟩=aa (Q O x.c):=Zn z6.2;have rx2:hc g5 ⟨g.size,2,al⟩=aa (Q O x.s):=Zn z6.2;have rB:rd g5 ⟨B,0,al⟩ 2=aa [Q O c1,Q O c2]:=Zy yB rfl;have zx:=Za z6.2;have zB:=Za yB;refine VS.z (g5.size) [17,21] (.p 0 (.p 1 (.p 2 (.p 3 (.p 4 (.q 5 (.p 6 (.p 7 (.p 8 (.q 9 (.p 10 (.q 11 (.p 12 (.q 13 (.q 14 (.p 15 (.s 16 (.w 17 (.p 18 (.p 19 (.p 20 (.w 21 .nil)))))))))))))))))))))) mixed vM ?_;simp -implicitDefEqProofs only[go_sem,f0,f1,f6,f10,U5.ZE,Zws,rx1,rx2,rB,MI,kh,zx,zB];have k6:=Yw K5.Yn (ab (FQ ⟨n.me,x.c,x.s,c1,c2⟩).toArray 152);have A6:=A5.Zo k6;refine Hg (l:=w.ZE) (x:=⟨n.me,x.c,x.s,c1,c2⟩) A6.wd.ZE k6.Yn Zc ht ?_;intro p7 c7 o7 g7 q7 k7;have b7:=A6.wd.ZZ.Zf k7 Va;obtain⟨g8,w8,W8,k8⟩:=A6.wd.nK k7 q7 ((XX b7.2).ZfV (U p7 _ c7) rfl);have z7:=Za b7.2;simp -implicitDefEqProofs only[go_sem,w8,z7];have A8:=A6.Zep (S:=fun t=>t=.ZE\/t=.world) ((k7.mono fun t q=>.inl q).trans (k8.mono fun t q=>.inr q)) (by rintro t (rfl|rfl)<;>rfl) W8;exact⟨o7,_,(((YS K5).trans (YS k6)).trans (YS k7)).trans (YS k8),A8⟩
 .have hJ0:¬0<=J:=by rw[hJ];exact fun e=>hm ((Ka _ _).1 e)
  rw[if_neg hm];have ca:=ZaA T g2 o wb i (YN i) a n x K2.Yn N2 hq hl;unfold Zz Sy at ca;simp -implicitDefEqProofs only[go_sem,f1,f6,f8,hJ0,r62];refine ca.use ?_;rintro v3 g3 ⟨o3,a3,k3,N3⟩;have k3a:Kp (JV i) o g2 o3 g3:=k3.mono ZaX;obtain⟨aw,am⟩:=add_same n x;obtain⟨m,rR⟩:=ZL (add n x);rw[<-rR]at N3 aw am ⊢;have W3:=A2.wd.Zf k3 (by rintro t (rfl|rfl)<;>simp[Tg.of]);have z6:=y6.Zf k3;have P3:=ZR N3.ZZ.2 N3.pt.store.len;have P3w:hc g3 ⟨YN i,53,al⟩=aa a3.Zk:=P3.Zk;have MH:=Za N3.ZZ.2;have r63:rd g3 ⟨g.size,0,al⟩ 5=aa x.C:=Zy z6.2 rfl;have l63:=Za z6.2;have hmw:m.Zk.length<=1000000000000:=by rw[aw];exact Gu
  have K3:Kp S3 o h o3 g3:=(YS K2).trans (YS k3);simp -implicitDefEqProofs only[go_sem];refine VS.mono (N:=fun F' g'=>Zj g3.size g3 g'/\F' 1=ag (aa ⟨YN i,0,al⟩)/\F' 6=ag (aa ⟨g.size,0,al⟩)/\F' 92=a6 (!decide (x∈m.Zk))) ?_ ?_ (fun _ _ _ h=>h) (fun _ _ h=>h)
  .refine VS.z (g3.size) [5] (.p 0 (.p 1 (.p 2 (.q 3 (.q 4 (.w 5 (.p 6 .nil))))))) mixed vM ?_;simp -implicitDefEqProofs only[go_sem,f1,f6,P3w,r63,MH,l63];refine (SX T g3 _ m.Zk x N3.pt.Zk.ts pA).use ?_;rintro _ g4 ⟨rfl,b4⟩;simp -implicitDefEqProofs only[go_sem,b4];exact⟨f1,f6⟩
  clear f0 f1 f6;rintro F4 g4 ⟨b4,f1,f6,f92⟩;have kb4:=ZX K3.Yn b4;have N4:=N3.Zo kb4;have W4:=W3.Zo kb4;have k4a:Kp (JV i) o g2 o3 g4:=k3a.trans (Z0 kb4);have K4:Kp S3 o h o3 g4:=K3.trans (YS kb4);by_cases Zes:x∈m.Zk
  .have e5:SW m x=m:=by unfold SW;rw[if_pos Zes]
   rw[e5];simp -implicitDefEqProofs only[go_sem,f92,Zes];exact⟨o3,_,K4,A2.Yv k4a N4 W4⟩
  .have e5:SW m x = { m with Zk:=m.Zk++[x] }:=by unfold SW;rw[if_neg Zes]
   rw[e5];have q6:=z6.Zf kb4;have P4w:=(ZR N4.ZZ.2 N4.pt.store.len).Zk;obtain⟨pw,cw,hpw,_⟩:=XB.ZP N4.pt.Zk;have hpw:a3.Zk=U pw m.Zk.length cw:=hpw;have P4w:hc g4 ⟨YN i,53,al⟩=aa (U pw m.Zk.length cw):=by rw[<-hpw];exact P4w
   have HX:=Za N4.ZZ.2;have r64:rd g4 ⟨g.size,0,al⟩ 5=aa x.C:=Zy q6.2 rfl;have l64:=Za q6.2;simp -implicitDefEqProofs only[go_sem,f92,Zes];refine VS.z (g4.size) [7,10] (.p 0 (.p 1 (.p 2 (.p 3 (.q 4 (.q 5 (.s 6 (.w 7 (.p 8 (.p 9 (.w 10 .nil))))))))))) mixed vM ?_;simp -implicitDefEqProofs only[go_sem,f1,f6,P4w,r64,HX,l64];have k5:=Yw K4.Yn (ab x.C.toArray 25);have N5:=N4.Zo k5;have W5:=W4.Zo k5;have Q5:=N5.pt.Zk;rw[hpw]at Q5;refine Nr (l:=m.Zk) Q5 k5.Yn Zc hmw ?_;intro p6 c6 o6 g6 q7 k6;have b6:=N5.ZZ.Zf k6 Va;obtain⟨g7,w7,N7,k7⟩:=(N5.pt.He k6 q7).write k6.Yn b6 ((XM b6.2 N5.pt.store.len).Zk (U p6 (m.Zk.length+1) c6) rfl);have ZaR:=Za b6.2;simp -implicitDefEqProofs only[go_sem,w7,ZaR];have kk:Kp (JV i) o g2 o6 g7:=((k4a.trans (Z0 k5)).trans (k6.mono fun t q=>.inr (.inr (.inr (by rw[q];rfl))))).trans (k7.mono fun t q=>.inr (.inr (.inr (by rw[q];rfl))));exact⟨o6,_,(YS K2).trans (YS kk),A2.Yv kk N7 ((W5.Zf k6 (by rintro t rfl;simp[Tg.of])).Zf k7 (by rintro t rfl;simp[Tg.of]))⟩
def F0(i:Nat)(t:Tg):Prop:=t=.ZS i\/t=.Zi i
set_option maxHeartbeats 4000000 in
theorem F6(T:bn)(h:Hp)(o:Ow)(wb i:Nat)(dv:a7)(ki:List Nat)(Y4:Int)(vv:a7)(Sb:UP)(d:Vz o h)(iD:Pv o h dv ki)(iV:TY o h vv Sb.l):
  Zd bg T 49 #[Q O i,be #[dv,Q O Y4],be #[Q O Sb.p.r,Q O Sb.p.n,vv]] h fun v' h'=>∃nb o' a',v'=Zz nb/\Zj h.size h h'/\Kp (F0 i) o h o' h'/\Z6 o' h' wb i nb a' (Yu i true ki Y4 Sb):=by
 obtain⟨pd,cd,rfl⟩:=iD.1.ZP;obtain⟨pv,cv,rfl⟩:=iV.ZP;refine Zd.XS [_,_,_] Tryz.func49 ?_;unfold Zz;obtain⟨h1,Xp⟩:=ZL ((h.push (ab [U pd (aD ki) cd,Q O Y4].toArray 100)).push (ab [Q O Sb.p.r,Q O Sb.p.n,U pv (aD Sb.l) cv].toArray 105):Hp);have k1:Kp Wy o h o h1:=by rw[Xp];exact ((Kp.refl d _).push _).push _
 have x4:Yb o h1 h.size (ab [U pd (aD ki) cd,Q O Y4].toArray 100):=⟨d _ (aN _),by rw[Xp];exact sW _ _ _⟩
 have x5:Yb o h1 (h.size+1) (ab [Q O Sb.p.r,Q O Sb.p.n,U pv (aD Sb.l) cv].toArray 105):=⟨d _ pA,by rw[Xp];exact vG _ _ _⟩
 have e0:=Xp.symm;have r4:rd h1 ⟨h.size,0,al⟩ 2=aa [U pd (aD ki) cd,Q O Y4]:=Zy x4.2 rfl;have r5:rd h1 ⟨h.size+1,0,al⟩ 3=aa [Q O Sb.p.r,Q O Sb.p.n,U pv (aD Sb.l) cv]:=Zy x5.2 rfl;simp -implicitDefEqProofs only[go_sem,e0,r4,r5];obtain⟨A,hA⟩:∃A:NA,A=⟨U pd (aD ki) cd,U pv (aD Sb.l) cv,al,h1.size,U al 0 0,U al 0 0,U al 0 0,U al 0 0,.nilFunc⟩:=⟨_,rfl⟩
 obtain⟨h2,Vq⟩:=ZL (h1.push (Jt []):Hp);obtain⟨h3,FH⟩:=ZL (h2.push (Jh (Yu i true ki Y4 Sb) A):Hp);have s2:h2.size=h1.size+1:=by rw[Vq];simp
 have ee:h3=(h1.push (.map #[] 0)).push (Jh (Yu i true ki Y4 Sb) A):=by rw[FH,Vq];rfl
 rw[hA]at ee;refine⟨h1.size+1,QZ (QZ o h1.size (.Zi i)) (h1.size+1) (.ZS i),A,rfl,?_⟩;have k2:Kp (F0 i) o h1 (QZ o h1.size (.Zi i)) h2:=by rw[Vq];exact ((Kp.refl k1.Yn _).push _).Ol (aN _) IQ (.inr rfl)
 have k3:Kp (F0 i) o h1 (QZ (QZ o h1.size (.Zi i)) (h1.size+1) (.ZS i)) h3:=by rw[FH];exact (k2.push _).Ol pA (by rw[a0];omega) (.inl rfl)
 have kx:Kp (fun t=>t=.ZS i) (QZ o h1.size (.Zi i)) h2 (QZ (QZ o h1.size (.Zi i)) (h1.size+1) (.ZS i)) h3:=by rw[FH];exact ((Kp.refl k2.Yn _).push _).Ol pA (by rw[a0];omega) rfl
 have m2:U9 (QZ o h1.size (.Zi i)) (.Zi i) h2 h1.size (VC Sy []):=⟨X2,by rw[Vq];exact Zc⟩
 have iD3:=(iD.Zf k1).Zf k3;have iV3:=(iV.Zf k1).Zf k3;have K3:Kp (F0 i) o h (QZ (QZ o h1.size (.Zi i)) (h1.size+1) (.ZS i)) h3:=(Z0 k1).trans k3;have st:L6 Yj:=L6.ZaC vM;show Zj h.size h ((h1.push (.map #[] 0)).push (Jh (Yu i true ki Y4 Sb) ⟨U pd (aD ki) cd,U pv (aD Sb.l) cv,al,h1.size,U al 0 0,U al 0 0,U al 0 0,U al 0 0,.nilFunc⟩))/\Kp (F0 i) o h _ ((h1.push (.map #[] 0)).push (Jh (Yu i true ki Y4 Sb) ⟨U pd (aD ki) cd,U pv (aD Sb.l) cv,al,h1.size,U al 0 0,U al 0 0,U al 0 0,U al 0 0,.nilFunc⟩))/\Z6 _ ((h1.push (.map #[] 0)).push (Jh (Yu i true ki Y4 Sb) ⟨U pd (aD ki) cd,U pv (aD Sb.l) cv,al,h1.size,U al 0 0,U al 0 0,U al 0 0,U al 0 0,.nilFunc⟩)) wb i (h1.size+1) A (Yu i true ki Y4 Sb);rw[<-ee];refine⟨by rw[FH,Vq,Xp];exact ((((Zj.refl _ _).add _).add _).add _).add _,K3,⟨X2,by rw[FH,<-s2];exact Zc⟩,?_⟩;rw[hA];exact⟨iD3,iV3,trivial,m2.Zf kx Va,XB.nil _ _ _ _ _,XB.nil _ _ _ _ _,XB.nil _ _ _ _ _,⟨[],rfl,XB.nil _ _ _ _ _,fun x hx=>by cases hx⟩,rfl,st⟩
theorem dP{S:Tg->Prop}{o':Ow}{h':Hp}(k:Kp S o h o' h'){b:Nat}{t u:Tg}(hb:o' b=aa t)(ht:S t)(hu:S u):Kp S o h (QZ o' b u) h':=by
 refine⟨k.size,fun c hc hn=>⟨(k.Zf c hc hn).1,?_⟩,fun c hc v hv hs=>?_,fun c hc v hv=>?_,fun c hc=>?_⟩
 .by_cases e:c=b
  .subst e;have:=(k.Zf c hc hn).2;rw[hb]at this;exact (hn t this.symm ht).elim
  .rw[X7 e];exact (k.Zf c hc hn).2
 .by_cases e:c=b
  .subst e;exact⟨u,X2,hu⟩
  .rw[X7 e];exact k.stay c hc v hv hs
 .by_cases e:c=b
  .subst e;rw[X2]at hv;cases hv;exact hu
  .rw[X7 e]at hv;exact k.new c hc v hv
 .by_cases e:c=b
  .subst e;rw[k.Yn c hc]at hb;cases hb
  .rw[X7 e];exact k.Yn c hc
def F8(i:Nat)(t:Tg):Prop:=t=.Zh i\/t=.ZI i\/t=.Ja i
theorem tM{i nb:Nat}{a:NA}{n:Nd}(d:Vz o h)(N:Z6 o h wb i nb a n):
  ∃o',Kp (F8 i) o h o' h/\Yi o' h wb i nb { a with Zh:=al } { n with Zh:=al,Zs:=Ja n.Zs }/\o' nb=aa (.ZS i):=by
 have key:∀o',Kp (F8 i) o h o' h->Vu o' h wb i nb al a.Zs (Ja n.Zs)->Yi o' h wb i nb { a with Zh:=al } { n with Zh:=al,Zs:=Ja n.Zs }:=fun o' k p=>
  ⟨N.pt.data.Zf k,N.pt.XW.Zf k,trivial,N.pt.Zi.Zf k (by rintro (e|e|e)<;>cases e),N.pt.ZA.Zf k (by rintro (e|e|e)<;>cases e),N.pt.Zx.Zf k (by rintro (e|e|e)<;>cases e),N.pt.Zk.Zf k (by rintro (e|e|e)<;>cases e),N.pt.Zg.Zf k (by rintro (e|e|e)<;>cases e),p,N.pt.store⟩
 have hp:=N.pt.Zs;have hR:=N.pt.Zh
 cases Ih:a.Zh with
 | none=>
  rw[Ih]at hp;refine⟨o,Kp.refl d _,key o (Kp.refl d _) ?_,N.ZZ.1⟩
  match hn:n.Zs,hp with
  | none,hp=>exact hp
  | some (.VN _ _ _ _),hp=>exact hp
  | some (.TX _ _ _),hp=>exact hp
  | some (.Zq _ _ false),hp=>exact hp
  | some (.Zq _ _ true),⟨b6,b4,b7,b5,w,rb,h1,h2,h3,h4,h5,h6,a',h7,_⟩=>cases h7
 | some ra=>
  rw[Ih]at hp hR;obtain⟨r,hr⟩:∃r,n.Zh=aa r:=by
   cases hx:n.Zh with
   | none=>rw[hx]at hR;exact hR.elim
   | some r=>exact⟨r,rfl⟩
  rw[hr]at hR;have hR:XA o i h ra r:=hR;have Y7:ra.rb≠ra.pb:=fun e=>by
   have h1:=hR.ZZ.1;have h2:=hR.ZI.1;rw[e,h2]at h1;cases h1
  have k1:Kp (F8 i) o h (QZ o ra.rb (.Ja i)) h:=dP (Kp.refl d (F8 i)) hR.ZZ.1 (.inl rfl) (.inr (.inr rfl));have vm:QZ o ra.rb (.Ja i) ra.pb=aa (.ZI i):=by rw[X7 (fun e=>Y7 e.symm)];exact hR.ZI.1
  have k2:Kp (F8 i) o h (QZ (QZ o ra.rb (.Ja i)) ra.pb (.Ja i)) h:=dP k1 vm (.inr (.inl rfl)) (.inr (.inr rfl));obtain⟨o2,vA⟩:=ZL (QZ (QZ o ra.rb (.Ja i)) ra.pb (.Ja i));rw[<-vA]at k2;have s1:o2 ra.rb=aa (.Ja i):=by rw[vA,X7 Y7];exact X2
  have s2:o2 ra.pb=aa (.Ja i):=by rw[vA];exact X2
  have so:∀b,b≠ra.rb->b≠ra.pb->o2 b=o b:=fun b e1 e2=>by rw[vA,X7 e2,X7 e1]
  have sst:∀b,o b=aa (.Ja i)->o2 b=aa (.Ja i):=fun b hb=>by
   by_cases e1:b=ra.rb
   .rw[e1];exact s1
   .by_cases e2:b=ra.pb
    .rw[e2];exact s2
    .rw[so b e1 e2];exact hb
  have T4:o2 nb=aa (.ZS i):=by
   rw[so nb (fun e=>by have:=N.ZZ.1;rw[e,hR.ZZ.1]at this;cases this) (fun e=>by have:=N.ZZ.1;rw[e,hR.ZI.1]at this;cases this)];exact N.ZZ.1
  refine⟨o2,k2,key o2 k2 ?_,T4⟩
  match hn:n.Zs,hp with
  | none,hp=>exact hp
  | some (.VN a to b vs),⟨b6,b4,b9,u,h1,h2,h3,h4,h5⟩=>exact⟨b6,b4,b9,u,h1,h2.Zf k2,h3.Zf k2,h4.Zf k2,h5.Zf k2⟩
  | some (.TX a to x),⟨b6,b4,b9,u,h1,h2,h3,h4,h5⟩=>exact⟨b6,b4,b9,u,h1,h2.Zf k2,h3.Zf k2,h4.Zf k2,h5.Zf k2⟩
  | some (.Zq a vs cur),⟨b6,b4,b7,b5,w,rb,h1,h2,h3,h4,h5,h6,h7⟩=>
   refine⟨b6,b4,b7,b5,w,rb,h1,h2.Zf k2,h3.Zf k2,h4.Zf k2,h5.Zf k2,h6.Zf k2,?_⟩;rw[if_neg IQ]
   cases cur with
   | false=>
    rw[if_neg IQ]at h7;obtain⟨cs,pb,pv,g1,g2,g3⟩:=h7;exact⟨cs,pb,pv,⟨sst _ g1.1,g1.2⟩,g2,sst _ g3.1,g3.2⟩
   | true=>
    rw[if_pos rfl]at h7;obtain⟨a',q1,q2⟩:=h7;obtain rfl:=Option.some.inj q1;rw[<-q2];exact⟨_,ra.pb,ra.pv,⟨s1,hR.ZZ.2⟩,rfl,s2,hR.ZI.2⟩
theorem Zet{i nb:Nat}{ra:Option RA}{v:a7}{p:Option Kv}(s:Vu o h wb i nb al v (Ja p)):Vu o h wb i nb ra v (Ja p):=by
 match p,s with
 | none,s=>exact s
 | some (.VN _ _ _ _),s=>exact s
 | some (.TX _ _ _),s=>exact s
 | some (.Zq _ _ _),s=>exact s
set_option maxHeartbeats 4000000 in
theorem Zeu(T:bn)(h:Hp)(o:Ow)(wb i nb:Nat)(a:NA)(n:Nd)(d:Vz o h)(N:Z6 o h wb i nb a n)(hb:n.Zq.p.r<=1000000000000/\n.Y1.r<=1000000000000 /\ -1000000000000<=n.Zq.p.r /\ -1000000000000<=n.Y1.r)(hr:∀r,n.Zh=aa r->r.b.r<=1000000000000 /\ -1000000000000<=r.b.r):
  Zd bg T 51 #[Zz wb,Zz nb] h fun v' h'=>∃o' a',Kp (fun t=>t.of=aa i) o h o' h'/\Z6 o' h' wb i nb a' (lead n):=by
 refine Zd.H7 (args:=#[_,_]) Tryz.func51 rfl rfl rfl ?_;obtain⟨M,hM⟩:=ZL (max n.Zq.p.r n.Y1.r+1);refine VS.seq (VS.mono (N:=fun F' g'=>F' 1=ag (aa ⟨nb,0,al⟩)/\Zj h.size h g'/\∃kb,h.size<=kb/\F' 4=ag (aa ⟨kb,0,al⟩)/\g'[kb]? = aa (ab [Q O M,Q O n.me].toArray 102)) ?_ ?_ (fun _ _ _ h=>h) (fun _ _ h=>h))
 .refine QG _ _ _ _ _ _ rfl ?_;unfold Zz;have P:=ZR N.ZZ.2 N.pt.store.len;have T4:=Za N.ZZ.2;simp -implicitDefEqProofs only[go_sem];refine VS.z (h.size) [19] (.p 0 (.p 1 (.p 2 (.p 3 (.p 4 (.q 5 (.p 6 (.p 7 (.p 8 (.p 9 (.q 10 (.p 11 (.p 12 (.p 13 (.p 14 (.p 15 (.q 16 (.p 17 (.s 18 (.w 19 .nil)))))))))))))))))))) mixed vM ?_;simp -implicitDefEqProofs only[go_sem,P.Zvq,P.ZhZ,P.me,T4];have em:(if n.Y1.r>n.Zq.p.r then n.Y1.r else n.Zq.p.r)+1=M:=by
   rw[hM];split<;>omega
  rw[em];exact⟨_,aN _,rfl,Zc⟩
 rintro F1 g1 ⟨f1,b1,kb,hkb,f4,y4⟩;refine VS.seq (VS.mono (N:=fun F' g'=>F' 1=ag (aa ⟨nb,0,al⟩)/\F' 4=ag (aa ⟨kb,0,al⟩)/\Zj h.size h g'/\g'[kb]? = aa (ab [Q O (Ju n).r,Q O n.me].toArray 102)) ?_ ?_ (fun _ _ _ h=>h) (fun _ _ h=>h))
 .refine QG _ _ _ _ _ _ rfl ?_;have k1:=ZX d b1;have N1:=N.Zo k1;have P1:=ZR N1.ZZ.2 N1.pt.store.len;have P1r:=P1.Zh;have Uh:=Za N1.ZZ.2;have l4:=Za y4;have r4:hc g1 ⟨kb,0,al⟩=aa (Q O M):=Zn y4
  cases Ih:a.Zh with
  | none=>
   rw[Ih]at P1r;unfold MG at P1r;have hn:n.Zh=al:=by
    have:=N.pt.Zh;rw[Ih]at this
    cases hx:n.Zh with
    | none=>rfl
    | some r=>rw[hx]at this;exact this.elim
   have e1:(Ju n).r=M:=by unfold Ju;rw[hn,hM]
   rw[e1];simp -implicitDefEqProofs only[go_sem,f1,P1r];exact⟨f4,b1,y4⟩
  | some ra=>
   rw[Ih]at P1r;unfold MG Zz at P1r;obtain⟨r,hn⟩:∃r,n.Zh=aa r:=by
    have:=N.pt.Zh;rw[Ih]at this
    cases hx:n.Zh with
    | none=>rw[hx]at this;exact this.elim
    | some r=>exact⟨r,rfl⟩
   have R1:XA o i g1 ra r:=by have:=N1.pt.Zh;rw[Ih,hn]at this;exact this
   have gk:=Za R1.ZZ.2;have rr0:hc g1 ⟨ra.rb,0,al⟩=aa (Q O r.b.r):=Zn R1.ZZ.2;have e1:(Ju n).r=max M (r.b.r+1):=by unfold Ju;rw[hn,hM]
   obtain⟨HP,hr2⟩:=hr r hn;obtain⟨Z,hZ⟩:=ZL ((Ju n).r);have hz:(if r.b.r+1>M then r.b.r+1 else M)=Z:=by
    rw[hZ,e1];split<;>omega
   rw[<-hZ];have w4:QX g1 ⟨kb,0,al⟩ (Q O Z)=aa (g1.setIfInBounds kb (ab [Q O Z,Q O n.me].toArray 102)):=by rw[Xj y4 0 _];rfl
   simp -implicitDefEqProofs only[go_sem,f1,P1r];refine VS.z (g1.size) [10] (.p 0 (.q 1 (.p 2 (.p 3 (.p 4 (.p 5 (.q 6 (.p 7 (.p 8 (.p 9 (.w 10 .nil))))))))))) mixed vM ?_;simp -implicitDefEqProofs only[go_sem,f1,f4,P1r,r4,rr0,gk,l4,hz,w4];exact⟨b1.Zt hkb _,ZV y4⟩
 clear f1 f4 y4 b1;rintro F3 g3 ⟨f1,f4,b3,y4⟩;refine QG _ _ _ _ _ _ rfl ?_;have k3:=ZX d b3;have N3:=N.Zo k3;have P3:=ZR N3.ZZ.2 N3.pt.store.len;have P3u:=P3.up;have MH:=Za N3.ZZ.2;have l4:=Za y4;have r4a:hc g3 ⟨kb,0,al⟩=aa (Q O (Ju n).r):=Zn y4
 cases hu:n.up with
 | false=>
  rw[hu]at P3u;have e1:lead n=n:=by unfold lead;rw[if_pos (.inl hu)]
  rw[e1];simp -implicitDefEqProofs only[go_sem,f1,P3u];exact⟨o,a,Z0 k3,N3⟩
 | true=>
 rw[hu]at P3u;by_cases c:65536<(Ju n).r
 .have e1:lead n=n:=by unfold lead;rw[if_pos (.inr c)]
  rw[e1];have c':(Ju n).r>65536:=c;simp -implicitDefEqProofs only[go_sem,f1,f4,P3u,r4a,c,c'];exact⟨o,a,Z0 k3,N3⟩
 have e1:lead n = { n with Zh:=aa ⟨Ju n,[],false,[],[]⟩,Zs:=Ja n.Zs }:=by
  unfold lead;rw[if_neg];rintro (e|e)
  .rw[hu]at e;cases e
  .exact c e
 rw[e1];have c':¬(Ju n).r>65536:=c;have r4:rd g3 ⟨kb,0,al⟩ 2=aa [Q O (Ju n).r,Q O n.me]:=Zy y4 rfl;obtain⟨o2,k2,pt2,Us⟩:=tM k3.Yn N3;obtain⟨ra,Ih⟩:∃ra:RA,ra=⟨g3.size+3,g3.size,g3.size+1,g3.size+2,[],[]⟩:=⟨_,rfl⟩
 obtain⟨r,hr0⟩:∃r:XE,r=⟨Ju n,[],false,[],[]⟩:=⟨_,rfl⟩
 obtain⟨p1,vm⟩:=ZL (g3.push (Jt []):Hp);obtain⟨p2,vo⟩:=ZL (p1.push (Jt []):Hp);obtain⟨p3,hp3⟩:=ZL (p2.push (Jt []):Hp);obtain⟨p4,hp4⟩:=ZL (p3.push (ab (jX r ra).toArray 157):Hp);have s1:p1.size=g3.size+1:=by rw[vm];simp
 have s2:p2.size=g3.size+2:=by rw[vo,a0,s1]
 have s3:p3.size=g3.size+3:=by rw[hp3,a0,s2]
 have s4:p4.size=g3.size+4:=by rw[hp4,a0,s3]
 have q1:p4[g3.size]? = aa (Jt []):=by rw[hp4,ZJ pA,hp3,ZJ pA,vo,ZJ pA,vm];exact Zc
 have q2:p4[g3.size+1]? = aa (Jt []):=by rw[hp4,ZJ pA,hp3,ZJ pA,vo,<-s1];exact Zc
 have q3:p4[g3.size+2]? = aa (Jt []):=by rw[hp4,ZJ pA,hp3,<-s2];exact Zc
 have q4:p4[g3.size+3]? = aa (ab (jX r ra).toArray 157):=by rw[hp4,<-s3];exact Zc
 have kp:Kp (JY i) o2 g3 o2 p4:=by rw[hp4,hp3,vo,vm];exact ((((Kp.refl k2.Yn _).push _).push _).push _).push _
 have ka:=kp.Ol (b:=g3.size) (t:=.ZI i) (aN _) pA (.inr (.inl rfl));have kb':=ka.Ol (b:=g3.size+1) (t:=.ZY i) pA pA (.inr (.inr (.inl rfl)));have kc:=kb'.Ol (b:=g3.size+2) (t:=.Xb i) pA pA (.inr (.inr (.inr (.inl rfl))));have k5:=kc.Ol (b:=g3.size+3) (t:=.Zh i) pA pA (.inl rfl);obtain⟨o5,ho5⟩:=ZL (QZ (QZ (QZ (QZ o2 g3.size (.ZI i)) (g3.size+1) (.ZY i)) (g3.size+2) (.Xb i)) (g3.size+3) (.Zh i));rw[<-ho5]at k5;clear ka kb' kc kp;have t1:o5 g3.size=aa (.ZI i):=by rw[ho5,X7 pA,X7 pA,X7 pA];exact X2
 have t2:o5 (g3.size+1)=aa (.ZY i):=by rw[ho5,X7 pA,X7 pA];exact X2
 have t3:o5 (g3.size+2)=aa (.Xb i):=by rw[ho5,X7 pA];exact X2
 have t4:o5 (g3.size+3)=aa (.Zh i):=by rw[ho5];exact X2
 have R5:XA o5 i p4 ra r:=by
  rw[Ih,hr0];rw[Ih,hr0]at q4;exact⟨⟨t4,q4⟩,⟨t1,q1⟩,.nil,⟨t2,q2⟩,⟨t3,q3⟩,.nil,IQ⟩
 have en:∀t:Tg,(t=.Zi i\/t=.ZA i\/t=.Zx i\/t=.Zk i\/t=.Zg i\/t=.Ja i\/t=.ZS i)->¬JY i t:=by
  intro t ht hr;rcases ht with rfl|rfl|rfl|rfl|rfl|rfl|rfl<;>rcases hr with e|e|e|e|⟨s,e⟩<;>cases e
 have pn:Vu o5 p4 wb i nb (aa ra) a.Zs (Ja n.Zs):=Zet (pt2.Zs.Zf k5 (en _ IQ));have pt5:Yi o5 p4 wb i nb { a with Zh:=aa ra } { n with Zh:=aa r,Zs:=Ja n.Zs }:=
  ⟨pt2.data.Zf k5,pt2.XW.Zf k5,R5,pt2.Zi.Zf k5 (en _ IQ),pt2.ZA.Zf k5 (en _ IQ),pt2.Zx.Zf k5 (en _ IQ),pt2.Zk.Zf k5 (en _ IQ),pt2.Zg.Zf k5 (en _ IQ),pn,pt2.store⟩
 have B5:WF o5 (.ZS i) p4 nb (Jh n a):=WF.Zf (o:=o2) ⟨Us,N3.ZZ.2⟩ k5 (en _ IQ);obtain⟨g6,w6,N6,k6⟩:=Yi.write pt5 k5.Yn B5 ((XM B5.2 N.pt.store.len).Zh (aa ra));have MI:=Za B5.2;have ee:p4=(((g3.push (.map #[] 0)).push (.map #[] 0)).push (.map #[] 0)).push (ab #[Q O (Ju n).r,Q O n.me,.map (aa g3.size),a6 false,.map (aa (g3.size+1)),.map (aa (g3.size+2))] 157):=by
  rw[hp4,hp3,vo,vm,Ih,hr0];rfl
 have w6':QX p4 ⟨nb,9,al⟩ (ag (aa ⟨g3.size+3,0,al⟩))=aa g6:=by rw[<-w6,Ih];rfl
 have ee':=ee.symm;rw[hr0]at N6;simp -implicitDefEqProofs only[go_sem,f1,f4,P3u,r4a,c,c',r4,ee',w6',MI];refine⟨o5,_,((Z0 k3).trans (k2.mono fun t q=>?_)).trans ((k5.mono fun t q=>If q).trans (k6.mono fun t q=>by rw[q];rfl)),N6⟩;rcases q with rfl|rfl|rfl<;>rfl
theorem Zir{l:List Nat}{a r:UP}{k j:Nat}(h:Rec l a k r j):∀f,(aD l)+1<=k+f->FN l f a k=(r,j):=by
 induction h with
 | stop e=>
  intro f hf
  cases f with
  | zero=>rfl
  | succ f=>unfold FN;rw[e]
 | @go a a' r k k' j e _ ih=>
  intro f hf;have e':=e;unfold Y9 at e';split at e'
  .rename_i q;rw[Option.map_eq_some_iff]at e';obtain⟨x,_,hx⟩:=e';have hk:k'=k+(Vr l k+4):=(congrArg Prod.snd hx).symm
   cases f with
   | zero=>omega
   | succ f=>
    unfold FN;rw[e];exact ih f pA
  .cases e'
theorem Nt{l:List Nat}{r:UP}{k:Nat}(h:Rec l JN 0 r k):TJ l=(r,k):=Zir h _ pA
theorem Cs{YN:Nat->Nat}{Xw:WA}{fl:List YH}{Yy:Nat->Int}{ZE:List Ob}(d:Vz o h)(W:Z1 o h wb YN Xw fl Yy ZE)(i nb:Nat)(hi:i<5):
  ∃b off c g,Xw.Zb=U (aa ⟨b,off,al⟩) 5 c/\QX h ⟨b,off+i,al⟩ (Zz nb)=aa g/\Kp (fun t=>t=.Zb) o h o g/\Z1 o g wb (fun j=>if j=i then nb else YN j) Xw fl Yy ZE:=by
 rcases hw:W.Zb with⟨_,e,_⟩|⟨b,off,cap,pre,ZG,g1,g2,g3,g4,g5,g6,g7⟩
 .cases e
 have hw':QX h ⟨b,off+i,al⟩ (Zz nb)=aa (h.setIfInBounds b (ab (pre++([Zz (YN 0),Zz (YN 1),Zz (YN 2),Zz (YN 3),Zz (YN 4)].set i (Zz nb)++ZG)).toArray 98)):=by
  rw[Xj g3,if_pos ⟨by simp only[aO,bG];omega,rfl⟩];rw[<-g4,List.set_append_right _ _ pA,bh,List.set_append_left _ _ (by simpa using hi)]
 have kk:Kp (fun t=>t=.Zb) o h o (h.setIfInBounds b (ab (pre++([Zz (YN 0),Zz (YN 1),Zz (YN 2),Zz (YN 3),Zz (YN 4)].set i (Zz nb)++ZG)).toArray 98)):=(Kp.refl d (fun t=>t=.Zb)).set g1 rfl _;refine⟨b,off,cap,_,g2,hw',kk,W.ZZ.Zf kk Va,?_,W.Zp.Zf kk Va,W.ZE.Zf kk Va⟩;refine .inr ⟨b,off,cap,pre,ZG,g1,g2,?_,g4,rfl,g6,g7⟩;rw[ZV g3]
 match i,hi with
 | 0,_=>rfl
 | 1,_=>rfl
 | 2,_=>rfl
 | 3,_=>rfl
 | 4,_=>rfl
def F9(k n a b:Int)(d:a7):List a7:=[Q O k,Q O n,Q O a,Q O b,d]
structure WOk(w:Wd):Prop where
 me:∀i,i<5->(w.Zb i).me=i
 step:∀i,i<5->j9 (w.Zb i) w.Zp.length w.ZE.length
 Zx:∀i,i<5->(w.Zb i).Zx.length<=100000000000
 ZA:∀i,i<5->(w.Zb i).ZA.length<=100000000000
 Zk:∀i,i<5->(w.Zb i).Zk.length<=100000000000
 Zg:∀i,i<5->(w.Zb i).Zg.length<=100000000000
 data:∀i,i<5->(w.Zb i).data.length<=1000000
 ZE:w.ZE.length<=100000000000
 Yy:∀i,i<5->0<=w.Yy i/\w.Yy i<=1000000000000
 Zwu:∀i,i<5->(w.Zb i).Zq.p.r<=1000000000000/\(w.Zb i).Y1.r<=1000000000000 /\ -1000000000000<=(w.Zb i).Zq.p.r /\ -1000000000000<=(w.Zb i).Y1.r
 S9:∀i,i<5->∀r,(w.Zb i).Zh=aa r->r.b.r<=1000000000000 /\ -1000000000000<=r.b.r
 to:∀l∈w.Zp,0<=l.to/\l.to<5
 room:w.Zp.length<=100000000000
theorem QM.fresh{o':Ow}{h':Hp}{YN:Nat->Nat}{Xw:WA}{w:Wd}{i nb:Nat}{a:NA}{n:Nd}(A:QM o h wb YN Xw w)(k:Kp (fun t=>t=.Zb\/t.of=aa i) o h o' h')(N:Z6 o' h' wb i nb a n)(W:Z1 o' h' wb (fun j=>if j=i then nb else YN j) Xw w.Zp w.Yy w.ZE):QM o' h' wb (fun j=>if j=i then nb else YN j) Xw (w.set i n):=by
 refine⟨W,fun j hj=>?_⟩;by_cases e:j=i
 .subst e;refine⟨a,?_⟩;unfold Wd.set
  simpa using N
 .obtain⟨b,M⟩:=A.nd j hj;refine⟨b,?_⟩;unfold Wd.set;simp only[if_neg e];refine M.Zf k fun t q hq=>?_;rcases q with rfl|q
  .cases hq
  .rw[hq]at q;exact e (Option.some.inj q)
theorem dQ(w:Wd)(i:Nat):w.set i (w.Zb i)=w:=by
 unfold Wd.set;have:(fun j=>if j=i then w.Zb i else w.Zb j)=w.Zb:=by
  funext j;split
  .next e=>rw[e]
  .rfl
 rw[this]
theorem Ea{h':Hp}{p:Option Addr}{c:Nat}{L:List Nat}(d:Vz o h')(hb:Bs h' (U p (aD L) c) L)(hc:(aD L)<=c)(hf:∀b,Yf (U p (aD L) c)=aa b->o b=al/\b<h'.size):Pv o h' (U p (aD L) c) L:=
 ⟨⟨hb.sl,⟨p,c,rfl,hc⟩,fun b q=>⟨(hf b q).2,(hf b q).1⟩⟩,hb.byte⟩
theorem dR{v:a7}{l:List Nat}{k:Nat}(d:Vz o h)(s:Pv o h v l)(hk:k<h.size)(hv:∀b,Yf v=aa b->b≠k)(x:Obj):Pv o (h.setIfInBounds k x) v l:=by
 have d2:Vz (QZ o k Tg.Zb) h:=fun b hb=>by rw[X7 pA];exact d b hb
 have s2:Pv (QZ o k Tg.Zb) h v l:=⟨⟨s.1.sl,s.1.fits,fun b hb=>⟨(s.1.free b hb).1,by rw[X7 (hv b hb)];exact (s.1.free b hb).2⟩⟩,s.2⟩
 have k2:Kp (fun t=>t=Tg.Zb) (QZ o k Tg.Zb) h (QZ o k Tg.Zb) (h.setIfInBounds k x):=(Kp.refl d2 (fun t=>t=Tg.Zb)).set X2 rfl x;have s3:=s2.Zf k2;exact⟨⟨s3.1.sl,s3.1.fits,fun b hb=>⟨(s3.1.free b hb).1,(s.1.free b hb).2⟩⟩,s3.2⟩
theorem kj(i:Nat)(n:Nd)(k:Int)(L:List Nat)(Z E:Int)(hu:n.up=true)(h:Oy n.data n.Y4 k=(L,Z,E)):Xy i n k = { Yu i true L Z JN with up:=false }:=by
 unfold Xy;rw[if_pos hu];unfold Oy at h;by_cases c:Y0 n.data n.Y4
 .rw[if_pos (show (aD n.data)<=100000/\0<=n.Y4/\n.Y4<=(aD n.data) from c)]at h;by_cases q:k<0
  .rw[if_pos q]at h
   cases h
   rw[if_neg (fun e=>by have:=e.2;omega)];rfl
  .rw[if_neg q]at h
   cases h
   rw[if_pos ⟨c,pA⟩];rfl
 .rw[if_neg (show ¬((aD n.data)<=100000/\0<=n.Y4/\n.Y4<=(aD n.data)) from c)]at h
  cases h
  rw[if_neg (fun e=>c e.1)];rfl
theorem ko(w:Wd)(l:YH)(i:Nat):((QL w l).Zb i).Zg.length<=(w.Zb i).Zg.length+1:=by
 unfold QL;split
 .unfold Wd.set;simp only;split
  .next e=>subst e;simp
  .omega
 .omega
theorem dS(i:Nat):∀(ls:List YH) (w:Wd),((ls.foldl QL w).Zb i).Zg.length<=(w.Zb i).Zg.length+(aD ls):=by
 intro ls
 induction ls with
 | nil=>intro w;simp
 | cons l ls ih=>
  intro w;have h1:=ih (QL w l);have h2:=ko w l i;simp only[List.foldl_cons,bG];omega
end Go.Proofs.YthlfaofofaphfaaGreatDoor
