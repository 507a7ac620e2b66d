/- What a leader does of its own. -/
import Derived.Test.YtpomedigibbeeaaGreatDoorMoy
namespace Go.Proofs.YtpomedigibbeeaaGreatDoor
open Go Go.V
set_option linter.unusedSimpArgs false
set_option linter.unusedVariables false
set_option maxRecDepth 100000
theorem Qj {α:Type} (f:Nat→List α) (m:Nat):(List.range (m+1)).flatMap f=(List.range m).flatMap f++f m:=by
 rw[List.range_succ,List.flatMap_append];simp
theorem Wh {α:Type} (f:Nat→List α) (k m:Nat) (h:∀i,(f i).length≤k):((List.range m).flatMap f).length≤m*k:=by
 induction m with
 | zero=>simp
 | succ m ih=>rw[Qj,List.length_append,Nat.add_mul];have:=h m;omega
theorem ij {n n':Nd} (hk:n.known=n'.known) (r:Jj) (x:Cm):∀k s,QH n r x k s=QH n' r x k s:=by
 intro k
 induction k with
 | zero=>intro s;rfl
 | succ k ih=>intro s;unfold QH;rw[hk,ih]
theorem Fv {n n':Nd} (hk:n.known=n'.known) (hl:n.log=n'.log) (r:Jj) (x:Cm):free n r x=free n' r x:=by
 unfold free;rw[hl,ij hk]
theorem oW {n n':Nd} (hk:n.known=n'.known) (hl:n.log=n'.log) (r:Jj) (x:Cm):We n r x=We n' r x:=by
 unfold We;rw[Fv hk hl]
theorem aj {n n':Nd} (hk:n.known=n'.known) (hl:n.log=n'.log):∀(l:List Cm) (r:Jj),Ju n r l=Ju n' r l:=by
 intro l
 induction l with
 | nil=>intro r;rfl
 | cons x l ih=>intro r;show Ju n (We n r x) l=Ju n' (We n' r x) l;rw[oW hk hl,ih]
theorem ik {n n':Nd} (hk:n.known=n'.known) (LL:List (List Vt)):XJ n LL=XJ n' LL:=by
 funext pr s;unfold XJ;rw[hk]
theorem il {n n':Nd} (hk:n.known=n'.known) (hl:n.log=n'.log) (r:Jj):Tq n r=Tq n' r:=by
 unfold Tq;rw[hl,ik hk]
theorem uW {n n':Nd} (hk:n.known=n'.known) (hm:n.me=n'.me) (r:Jj):Wt n r=Wt n' r:=by
 funext s;unfold Wt RX;rw[hk,hm]
theorem oX {n n':Nd} (hk:n.known=n'.known) (hm:n.me=n'.me) (r:Jj):OB n r=OB n' r:=by
 unfold OB;rw[uW hk hm]
set_option maxHeartbeats 4000000 in
theorem uX (T:World) (h:Hp) (o:Ow) (wb i nb:Nat) (Z8:Nat→Nat) (a:NA) (n:Nd) (ra:RA) (r:Jj) (YH:WA) (fl:List Y3) (bad:Nat→Int) (told:List S9) (d:Uq o h)
  (N:ZJ o h wb i nb { a with Zi:=some ra } { n with Zi:=some r }) (W:ZG o h wb Z8 YH fl bad told) (tb:CI o h) (Yp:fl.length≤900000000000) (nP:n.own.l.length≤1000000) (jB:n.data.length≤1000000)
  (hp:∀x∈r.prom,x.2.length≤1000000) (hs:∀x∈r.prom,∀v∈x.2,v.slot≤1000000) (Ll:r.prom.length≤1000000000000) (hl:n.log.length≤1000000000000) (hq:n.queue.length≤1000000000000) :
  Zd Tryz.prog T 101 #[Zo wb,Zo nb,Zo ra.rb] h fun v' h'=>∃o' a' Xu,Kp (XC i) o h o' h'∧ZJ o' h' wb i nb a' (Qx { n with Zi:=some r } r).n∧ZG o' h' wb Z8 Xu (fl++(Qx { n with Zi:=some r } r).ls) bad told:=by
 refine Zd.Zj (args:=[_,_,_]) Tryz.func101 rfl rfl rfl rfl ?_
 obtain⟨h1,YD⟩:=Zy ((h.push (.cells [Zo nb].toArray 98)).push (.cells [Zo ra.rb].toArray 106):Hp)
 have k1:Kp Qz o h o h1:=by rw[YD];exact ((Kp.refl d _).push _).push _
 have x4:ZN o h1 h.size (.cells [Zo nb].toArray 98):=⟨d _ (Nat.le_refl _),by rw[YD];exact gY _ _ _⟩
 have x5:ZN o h1 (h.size+1) (.cells [Zo ra.rb].toArray 106):=⟨d _ (by omega),by rw[YD];exact jI _ _ _⟩
 have e0:=YD.symm
 unfold Zo at e0 ⊢
 have N1:=N.still k1
 have W1:=W.still k1
 have R1:YL o i h1 ra r:=N1.pt.Zi
 obtain⟨q0,q2,q3,q4,q5⟩:=R1.rr
 have P1:=Zx N1.ZF.2 N1.pt.store.len
 have l4:=Za x4.2
 have l5:=Za x5.2
 have CK:=Za R1.ZF.2
 have JN:=Za N1.ZF.2
 have r4:hc h1 ⟨h.size,0,none⟩=some (Zo nb):=Zh x4.2
 have r5:hc h1 ⟨h.size+1,0,none⟩=some (Zo ra.rb):=Zh x5.2
 unfold Zo at r4 r5
 have uY:rd h1 ⟨nb,4,none⟩ 2=some (Je n.own.p):=P1.DN
 simp -implicitDefEqProofs only[go_sem,↓reduceIte,e0]
 refine VS.mono (N:=fun F' g'=>Zg h1.size h1 g'∧F' 0=.pointer (some ⟨wb,0,none⟩)∧F' 4=.pointer (some ⟨h.size,0,none⟩)∧F' 5=.pointer (some ⟨h.size+1,0,none⟩)∧F' 35=.bool (decide (below n.own.p r.b))) ?_ ?_ (fun _ _ _ h=>h) (fun _ _ h=>h)
 ·refine VS.z (h1.size) [9] (.q 0 (.p 1 (.p 2 (.q 3 (.q 4 (.p 5 (.p 6 (.p 7 (.q 8 (.w 9 .nil)))))))))) mixed (by kernel_rfl) ?_
  simp -implicitDefEqProofs only[go_sem,↓reduceIte,r4,r5,q0,uY,l4,l5,CK,JN]
  refine (OH T h1 r.b n.own.p).use ?_
  rintro _ g ⟨rfl,b⟩
  simp -implicitDefEqProofs only[go_sem,↓reduceIte,b]
 rintro F1 g1 ⟨b1,f0,f4,f5,f35⟩
 have kb:=ZC k1.ZW b1
 replace N1:=N1.still kb
 replace W1:=W1.still kb
 replace k1:=k1.trans kb
 replace x4:=x4.Zc kb
 replace x5:=x5.Zc kb
 have tb1:=tb.Zc k1
 clear R1 q0 q2 q3 q4 q5 P1 uY l4 l5 CK JN r4 r5 e0
 have R1:YL o i g1 ra r:=N1.pt.Zi
 obtain⟨q0,q2,q3,q4,q5⟩:=R1.rr
 have P1:=Zx N1.ZF.2 N1.pt.store.len
 have l4:=Za x4.2
 have l5:=Za x5.2
 have CK:=Za R1.ZF.2
 have JN:=Za N1.ZF.2
 have r4:hc g1 ⟨h.size,0,none⟩=some (Zo nb):=Zh x4.2
 have r5:hc g1 ⟨h.size+1,0,none⟩=some (Zo ra.rb):=Zh x5.2
 unfold Zo at r4 r5
 by_cases c1:below n.own.p r.b
 ·have oY:=P1.own
  obtain⟨pv,cv,jJ⟩:=N1.pt.YQ.isSlice
  have jJ:a.YQ=.slice pv n.own.l.length cv:=jJ
  have oY:rd g1 ⟨nb,4,none⟩ 3=some [.int .i64 n.own.p.r,.int .i64 n.own.p.n,.slice pv n.own.l.length cv]:=by rw[←jJ];exact oY
  have N1v:Wm o g1 (.slice pv n.own.l.length cv) n.own.l:=by rw[←jJ];exact N1.pt.YQ
  unfold Je at q0
  have call:∀G,Zg g1.size g1 G→Zd Tryz.prog T 103 #[.agg #[.int .i64 n.own.p.r,.int .i64 n.own.p.n,.slice pv n.own.l.length cv],.agg #[.int .i64 r.b.r,.int .i64 r.b.n]] G fun v' h'=>ET G.size h' v' n.own.p n.own.l r.b∧Zg G.size G h':=fun G hG=>
   Tj T G n.own.p _ n.own.l r.b (N1v.ts.Ya hG) (by omega)
  obtain⟨E,hE⟩:=Zy (Yq n.own.p n.own.l r.b)
  have wA:∀(G:Hp) (k:Nat) (r m:Int) (p:Option Addr) (L c:Nat),G[k]? = some (.cells [.int .i64 0,.int .i64 0,.slice none 0 0].toArray 105)→wr G ⟨k,0,none⟩ [.int .i64 r,.int .i64 m,.slice p L c]=some (G.setIfInBounds k (.cells [.int .i64 r,.int .i64 m,.slice p L c].toArray 105)):=fun G k r m p L c hx=>by
   rw[ZS hx 0 _];rfl
  have wB:∀(G:Hp) (k:Nat) (p:Option Addr) (L c:Nat),G[k]? = some (.cells [.slice none 0 0].toArray 103)→Jx G ⟨k,0,none⟩ (.slice p L c)=some (G.setIfInBounds k (.cells [.slice p L c].toArray 103)):=fun G k p L c hx=>by
   rw[Yz hx 0 _];rfl
  simp -implicitDefEqProofs only[go_sem,↓reduceIte,f35,c1]
  refine VS.mono (N:=fun F' g'=>Zg g1.size g1 g'∧F' 4=.pointer (some ⟨h.size,0,none⟩)∧F' 5=.pointer (some ⟨h.size+1,0,none⟩)∧dd g1.size g' (F' 6) (F' 7) n.own.p n.own.l r.b) ?_ ?_ (fun _ _ _ h=>h) (fun _ _ h=>h)
  ·refine VS.z (g1.size) [8,15,16] (.q 0 (.p 1 (.p 2 (.q 3 (.q 4 (.p 5 (.p 6 (.q 7 (.or 8 (.p 9 (.p 10 (.p 11 (.p 12 (.or 13 (.s 14 (.w 15 (.w 16 (.p 17 .nil)))) (.s 14 (.s 13 (.w 15 (.w 16 (.p 17 .nil)))))))))) (.or 13 (.or 8 (.p 9 (.p 10 (.p 11 (.p 12 (.s 14 (.w 15 (.w 16 (.p 17 .nil)))))))) (.s 14 (.w 8 (.p 9 (.p 10 (.p 11 (.p 12 (.w 15 (.w 16 (.p 17 .nil)))))))))) (.s 14 (.or 8 (.p 9 (.p 10 (.p 11 (.p 12 (.s 13 (.w 15 (.w 16 (.p 17 .nil)))))))) (.s 13 (.w 8 (.p 9 (.p 10 (.p 11 (.p 12 (.w 15 (.w 16 (.p 17 .nil))))))))))))))))))))) mixed (by kernel_rfl) ?_
   simp -implicitDefEqProofs only[go_sem,↓reduceIte,f4,f5,r4,r5,oY,q0,JN,CK,l4,l5]
   unfold dd Zo YN
   repeat' (first|with_reducible exact Zg.refl _ _|with_reducible exact Zg.push (by omega) _|with_reducible refine And.intro ?_ ?_)
   all_goals first
    | (refine (call g1 (Zg.refl _ _)).use ?_
       rintro _ g5 ⟨⟨w1,w2,rfl,o1,o2⟩,b5⟩
       obtain⟨p1,c1,rfl,_⟩:=o1.open
       obtain⟨p2,c2,rfl,_⟩:=o2.open
       rw[←hE]at *
       have s5:=b5.size
       unfold YN
       simp -implicitDefEqProofs only[go_sem,↓reduceIte,b5]
       refine⟨⟨f4,f5,_,_,_,_,rfl,rfl,s5,by omega,gY _ _ _,jI _ _ _,(o1.push _).push _,(o2.push _).push _⟩,⟨f4,f5,_,_,_,_,rfl,rfl,by omega,s5,jI _ _ _,gY _ _ _,(o1.push _).push _,(o2.push _).push _⟩⟩)
    | (refine (call (g1.push (.cells _ 105)) (Zg.push (Nat.le_refl _) _)).use ?_
       rintro _ g5 ⟨⟨w1,w2,rfl,o1,o2⟩,b5⟩
       obtain⟨p1,c1,rfl,_⟩:=o1.open
       obtain⟨p2,c2,rfl,_⟩:=o2.open
       rw[←hE]at *
       have s5:=b5.size
       rw[Array.size_push]at s5
       have B5:Zg g1.size g1 g5:=(Zg.push (Nat.le_refl _) _).trans (b5.mono (by simp))
       have xA:=b5.get (k:=g1.size) (by simp) Zb
       have TD:=wA _ _ (if E=0 then r.b else ⟨0,0⟩).r (if E=0 then r.b else ⟨0,0⟩).n p1 (if E=0 then n.own.l else []).length c1 xA
       have zA:=Za xA
       unfold YN
       simp -implicitDefEqProofs only[go_sem,↓reduceIte,B5,TD,zA]
       exact⟨f4,f5,_,_,_,_,rfl,rfl,Nat.le_refl _,by omega,by rw[Zr (by simpa using zA)];exact Zv xA,gs2 _ _ _ _,((o1.ZT (by simp) _).push _).mono (by simp),((o2.ZT (by simp) _).push _).mono (by simp)⟩)
    | (refine (call (g1.push (.cells _ 103)) (Zg.push (Nat.le_refl _) _)).use ?_
       rintro _ g5 ⟨⟨w1,w2,rfl,o1,o2⟩,b5⟩
       obtain⟨p1,c1,rfl,_⟩:=o1.open
       obtain⟨p2,c2,rfl,_⟩:=o2.open
       rw[←hE]at *
       have s5:=b5.size
       rw[Array.size_push]at s5
       have B5:Zg g1.size g1 g5:=(Zg.push (Nat.le_refl _) _).trans (b5.mono (by simp))
       have xB:=b5.get (k:=g1.size) (by simp) Zb
       have KC:=wB _ _ p2 (if E=0 then n.own.l else []).length c2 xB
       have zB:=Za xB
       unfold YN
       simp -implicitDefEqProofs only[go_sem,↓reduceIte,B5,KC,zB]
       exact⟨f4,f5,_,_,_,_,rfl,rfl,by omega,Nat.le_refl _,gs2 _ _ _ _,by rw[Zr (by simpa using zB)];exact Zv xB,((o1.ZT (by simp) _).push _).mono (by simp),((o2.ZT (by simp) _).push _).mono (by simp)⟩)
    | (refine (call ((g1.push (.cells _ 105)).push (.cells _ 103)) ((Zg.push (Nat.le_refl _) _).Yh (by simp) _)).use ?_
       rintro _ g5 ⟨⟨w1,w2,rfl,o1,o2⟩,b5⟩
       obtain⟨p1,c1,rfl,_⟩:=o1.open
       obtain⟨p2,c2,rfl,_⟩:=o2.open
       rw[←hE]at *
       have s5:=b5.size
       rw[Array.size_push,Array.size_push]at s5
       have B5:Zg g1.size g1 g5:=((Zg.push (Nat.le_refl _) _).Yh (by simp) _).trans (b5.mono (by simp;omega))
       have xA:=b5.get (k:=g1.size) (by simp;omega) (gY _ _ _)
       have xB:=b5.get (k:=g1.size+1) (by simp) (jI _ _ _)
       have TD:=wA _ _ (if E=0 then r.b else ⟨0,0⟩).r (if E=0 then r.b else ⟨0,0⟩).n p1 (if E=0 then n.own.l else []).length c1 xA
       have zA:=Za xA
       have Np:=fun o:Obj=>(Yi (o:=o) (show g1.size≠g1.size+1 by omega)).trans xB
       have KC:=fun o:Obj=>wB _ _ p2 (if E=0 then n.own.l else []).length c2 (Np o)
       have zB:g1.size+1<g5.size:=Za xB
       unfold YN
       simp -implicitDefEqProofs only[go_sem,↓reduceIte,B5,TD,zA,KC,zB]
       exact⟨f4,f5,_,_,_,_,rfl,rfl,by omega,by omega,(Yi (by omega)).trans (Zv xA),Zv (Np _),((o1.ZT (by simp;omega) _).ZT (by simp) _).mono (by simp;omega),((o2.ZT (by simp;omega) _).ZT (by simp) _).mono (by simp;omega)⟩)
    | (refine (call ((g1.push (.cells _ 103)).push (.cells _ 105)) ((Zg.push (Nat.le_refl _) _).Yh (by simp) _)).use ?_
       rintro _ g5 ⟨⟨w1,w2,rfl,o1,o2⟩,b5⟩
       obtain⟨p1,c1,rfl,_⟩:=o1.open
       obtain⟨p2,c2,rfl,_⟩:=o2.open
       rw[←hE]at *
       have s5:=b5.size
       rw[Array.size_push,Array.size_push]at s5
       have B5:Zg g1.size g1 g5:=((Zg.push (Nat.le_refl _) _).Yh (by simp) _).trans (b5.mono (by simp;omega))
       have xB:=b5.get (k:=g1.size) (by simp;omega) (gY _ _ _)
       have xA:=b5.get (k:=g1.size+1) (by simp) (jI _ _ _)
       have TD:=wA _ _ (if E=0 then r.b else ⟨0,0⟩).r (if E=0 then r.b else ⟨0,0⟩).n p1 (if E=0 then n.own.l else []).length c1 xA
       have zA:=Za xA
       have Np:=fun o:Obj=>(Yi (o:=o) (show g1.size+1≠g1.size by omega)).trans xB
       have KC:=fun o:Obj=>wB _ _ p2 (if E=0 then n.own.l else []).length c2 (Np o)
       have zB:g1.size<g5.size:=Za xB
       unfold YN
       simp -implicitDefEqProofs only[go_sem,↓reduceIte,B5,TD,zA,KC,zB]
       exact⟨f4,f5,_,_,_,_,rfl,rfl,by omega,by omega,(Yi (by omega)).trans (Zv xA),Zv (Np _),((o1.ZT (by simp) _).ZT (by simp;omega) _).mono (by simp;omega),((o2.ZT (by simp) _).ZT (by simp;omega) _).mono (by simp;omega)⟩)
  rintro F2 g2 ⟨b2,f4,f5,ka,kc,w1,w2,fA,fC,ge1,ge2,yA,yC,o1,o2⟩
  rw[←hE]at yA o1 o2
  obtain⟨A,hA⟩:∃A:Qw,A=if E=0 then ⟨r.b,n.own.l⟩ else XU:=⟨_,rfl⟩
  obtain⟨V,hV⟩:∃V:List Vt,V=if E=0 then n.own.l else []:=⟨_,rfl⟩
  have hAp:(if E=0 then r.b else ⟨0,0⟩)=A.p:=by rw[hA];split<;>rfl
  have hAl:(if E=0 then n.own.l else [])=A.l:=by rw[hA];split<;>rfl
  have hVl:(if E=0 then n.own.l else [])=V:=hV.symm
  rw[hAp]at yA
  rw[hAl]at o1
  rw[hVl]at o2
  have Ra:=ZC k1.ZW b2
  have N2:=N1.still Ra
  have W2:=W1.still Ra
  have K2:=k1.trans Ra
  have z4:=x4.Zc Ra
  have z5:=x5.Zc Ra
  have BO:=tb1.Zc Ra
  have R2:YL o i g2 ra r:=N2.pt.Zi
  obtain⟨u0,_,_,_,_⟩:=R2.rr
  unfold Je at u0
  have iv7:Wm o g2 w2 V:=Im.QZ o2.own (fun b hb=>k1.ZW b hb)
  have iv6:Wm o g2 w1 A.l:=Im.QZ o1.own (fun b hb=>k1.ZW b hb)
  have z6:ZN o g2 ka _:=⟨k1.ZW ka ge1,yA⟩
  have z7:ZN o g2 kc _:=⟨k1.ZW kc ge2,yC⟩
  have P2:=Zx N2.ZF.2 N2.pt.store.len
  have m4:=Za z4.2
  have m5:=Za z5.2
  have mr:=Za R2.ZF.2
  have JR:=Za N2.ZF.2
  have s4:hc g2 ⟨h.size,0,none⟩=some (Zo nb):=Zh z4.2
  have s5:hc g2 ⟨h.size+1,0,none⟩=some (Zo ra.rb):=Zh z5.2
  unfold Zo at s4 s5 fA fC
  have oL:=P2.tape
  obtain⟨pd,cd,Rs⟩:=N2.pt.data.1.isSlice
  have Rs:a.data=.slice pd n.data.length cd:=Rs
  have oL:rd g2 ⟨nb,2,none⟩ 2=some [.slice pd n.data.length cd,.int .i64 n.Y9]:=by rw[←Rs];exact oL
  have N2d:Tv o g2 (.slice pd n.data.length cd) n.data:=by rw[←Rs];exact N2.pt.data
  obtain⟨E2,hO⟩:=Zy (J2 n.data n.Y9 r.b)
  have call2:∀G,Zg g2.size g2 G→Zd Tryz.prog T 111 #[.agg #[.slice pd n.data.length cd,.int .i64 n.Y9],.agg #[.int .i64 r.b.r,.int .i64 r.b.n]] G fun v' h'=>To G.size h' v' n.data n.Y9 E2 (Yk (XT r.b))∧Zg G.size G h':=fun G hG=>by
   rw[hO]
   exact Md T G _ n.Y9 n.data r.b (N2d.bs.Ya hG) (by omega) (BO.tk.Jy hG)
  have wT:∀(G:Hp) (k:Nat) (m:Int) (p:Option Addr) (L c:Nat),G[k]? = some (.cells [.slice none 0 0,.int .i64 0].toArray 100)→wr G ⟨k,0,none⟩ [.slice p L c,.int .i64 m]=some (G.setIfInBounds k (.cells [.slice p L c,.int .i64 m].toArray 100)):=fun G k m p L c hx=>by
   rw[ZS hx 0 _];rfl
  refine VS.mono (N:=fun F' g'=>Zg g2.size g2 g'∧F' 4=.pointer (some ⟨h.size,0,none⟩)∧F' 5=.pointer (some ⟨h.size+1,0,none⟩)∧F' 6=.pointer (some ⟨ka,0,none⟩)∧F' 7=.pointer (some ⟨kc,0,none⟩)∧F' 10=.int .i64 E2∧HU g2.size g' (F' 9) n.data n.Y9 E2 (Yk (XT r.b))) ?_ ?_ (fun _ _ _ h=>h) (fun _ _ h=>h)
  ·refine VS.z (g2.size) [8,13] (.q 0 (.p 1 (.p 2 (.q 3 (.q 4 (.p 5 (.p 6 (.q 7 (.or 8 (.p 9 (.p 10 (.p 11 (.s 12 (.w 13 (.p 14 .nil)))))) (.s 12 (.w 8 (.p 9 (.p 10 (.p 11 (.w 13 (.p 14 .nil)))))))))))))))) mixed (by kernel_rfl) ?_
   simp -implicitDefEqProofs only[go_sem,↓reduceIte,f4,f5,fA,fC,s4,s5,oL,u0,m4,m5,mr,JR]
   unfold HU
   repeat' (first|with_reducible exact Zg.refl _ _|with_reducible exact Zg.push (by omega) _|with_reducible refine And.intro ?_ ?_)
   all_goals first
    | (refine (call2 g2 (Zg.refl _ _)).use ?_
       rintro _ g5 ⟨⟨w,rfl,o1⟩,b5⟩
       obtain⟨p1,c1,rfl,_⟩:=o1.bs.open
       have s5:=b5.size
       simp -implicitDefEqProofs only[go_sem,↓reduceIte,b5]
       exact⟨f4,f5,fA,fC,_,_,rfl,s5,Zb,o1.push _⟩)
    | (refine (call2 (g2.push (.cells _ 100)) (Zg.push (Nat.le_refl _) _)).use ?_
       rintro _ g5 ⟨⟨w,rfl,o1⟩,b5⟩
       obtain⟨p1,c1,rfl,_⟩:=o1.bs.open
       have B5:Zg g2.size g2 g5:=(Zg.push (Nat.le_refl _) _).trans (b5.mono (by simp))
       have xA:=b5.get (k:=g2.size) (by simp) Zb
       have TD:=wT _ _ (if E2=0 then n.Y9 else 0) p1 (if E2=0 then n.data++Yk (XT r.b) else []).length c1 xA
       have zA:=Za xA
       simp -implicitDefEqProofs only[go_sem,↓reduceIte,B5,TD,zA]
       exact⟨f4,f5,fA,fC,_,_,rfl,Nat.le_refl _,Zv xA,(o1.ZT (by simp) _).mono (by simp)⟩)
  rintro F3 g3 ⟨b3,f4,f5,f6,f7,f10,kt,wt,fT,ge3,yT,oT⟩
  have Wn:=ZC K2.ZW b3
  have N4:=N2.still Wn
  have W4:=W2.still Wn
  have K4:Kp Qz o h o g3:=K2.Ya b3
  by_cases e2:E2=0
  case neg=>
   have eP:Qx { n with Zi:=some r } r=⟨{ n with Zi:=some r },[],[]⟩:=by unfold Qx;rw[if_pos c1,if_pos (by rw[←hO];exact e2)]
   rw[eP,List.append_nil]
   simp -implicitDefEqProofs only[go_sem,↓reduceIte,f10,e2]
   exact⟨o,_,YH,ZE K4,N4,W4⟩
  rw[if_pos e2]at yT oT
  have u4:=z4.Zc Wn
  have u5:=z5.Zc Wn
  have u6:=z6.Zc Wn
  have u7:=z7.Zc Wn
  have iu6:=iv6.Zc Wn
  have iu7:=iv7.Zc Wn
  have iT:Tv o g3 wt (n.data++Yk (XT r.b)):=⟨Im.QZ oT.own (fun b hb=>K2.ZW b hb),oT.byte⟩
  have eP:Qx { n with Zi:=some r } r=⟨{ n with Zi:=some r,data:=n.data++Yk (XT r.b),ZA:=some (.own A V true) },[],[]⟩:=by
   unfold Qx
   rw[if_pos c1,if_neg (by rw[←hO];simpa using e2),hA,hV,hE]
  rw[eP,List.append_nil]
  obtain⟨pt,ct,rfl,_⟩:=oT.bs.open
  have v4:hc g3 ⟨h.size,0,none⟩=some (Zo nb):=Zh u4.2
  have vT:rd g3 ⟨kt,0,none⟩ 2=some [.slice pt (n.data++Yk (XT r.b)).length ct,.int .i64 n.Y9]:=Zp yT rfl
  have MF:=Za N4.ZF.2
  obtain⟨g4,w4,N5,k5⟩:=ZU.write (a:={ a with Zi:=some ra,data:=.slice pt (n.data++Yk (XT r.b)).length ct }) (n:={ n with Zi:=some r,data:=n.data++Yk (XT r.b) }) { N4.pt with data:=iT } K4.ZW N4.ZF ((YT N4.ZF.2 N4.pt.store.len).tape (.slice pt (n.data++Yk (XT r.b)).length ct) n.Y9 rfl)
  have v4':hc g4 ⟨h.size,0,none⟩=some (Zo nb):=Zh (u4.Zc k5).2
  have Pa:=Za N5.ZF.2
  have pn:Up o g4 wb i nb (some ra) (Wu 119 [ka,h.size,kc,h.size+1]) (some (.own A V true)):=
   ⟨ka,h.size,kc,h.size+1,w2,ra.rb,rfl,⟨_,u6.Zc k5,iu6.Zc k5⟩,u4.Zc k5,u7.Zc k5,iu7.Zc k5,u5.Zc k5,by rw[if_pos rfl];exact⟨ra,rfl,rfl⟩⟩
  obtain⟨g6,w6,N6,k6⟩:=ZU.write (a:={ a with Zi:=some ra,data:=.slice pt (n.data++Yk (XT r.b)).length ct,ZA:=Wu 119 [ka,h.size,kc,h.size+1] }) (n:={ n with Zi:=some r,data:=n.data++Yk (XT r.b),ZA:=some (.own A V true) }) { N5.pt with ZA:=pn } k5.ZW N5.ZF ((YT N5.ZF.2 N5.pt.store.len).ZA (Wu 119 [ka,h.size,kc,h.size+1]) rfl)
  unfold Wu at w6
  simp only[List.map]at w6
  unfold Zo at v4 v4' w6
  simp -implicitDefEqProofs only[go_sem,↓reduceIte,f10,e2,f4,f5,f6,f7,fT,v4,vT,w4,MF,v4',w6,Pa]
  have K6:Kp (XC i) o h o g6:=((ZE K4).trans (k5.mono fun t q=>.inr (.inr (.inr (by rw[q];rfl))))).trans (k6.mono fun t q=>.inr (.inr (.inr (by rw[q];rfl))))
  exact⟨o,_,YH,K6,N6,(W4.Zc k5 (by rintro t rfl;simp[Tg.of])).Zc k6 (by rintro t rfl;simp[Tg.of])⟩
 by_cases c2:5<2*r.prom.length
 case neg=>
  have eP:Qx { n with Zi:=some r } r=⟨{ n with Zi:=some r },Nl n r,[]⟩:=by unfold Qx;rw[if_neg c1,if_pos c2];rfl
  rw[eP]
  have lm:=fun (K:Value→Hp→Prop) (cs:Array Bool) (ty:TypeId)=>Tb (T:=T) (K:=K) (ty:=ty) (cs:=cs) Mj R1.prom.2
  rw[R1.So.length]at lm
  simp -implicitDefEqProofs only[go_sem,↓reduceIte,f0,f4,f5,f35,c1,r4,r5,q2,lm]
  refine (MZ T g1 r.prom.length Ll).use ?_
  rintro _ _ ⟨rfl,rfl⟩
  simp -implicitDefEqProofs only[go_sem,↓reduceIte,c2,f0,f4,f5]
  obtain⟨pf,hpf⟩:∃pf:Nat→List Y3,pf=fun (m:Nat)=>if Yr r.prom (m:Int)=none then [⟨0,n.me,m,r.b,VX,[]⟩] else []:=⟨_,rfl⟩
  have ZfU:Nl n r=(List.range 5).flatMap pf:=by rw[hpf];rfl
  have ZoB:∀m,(pf m).length≤1:=fun m=>by rw[hpf];simp only;split<;>simp
  rw[ZfU]
  clear r4 r5 q0 q2 q3 q4 q5 l4 l5 CK JN P1 R1 lm ZfU
  refine VS.ZV (fun F g=>F 0=.pointer (some ⟨wb,0,none⟩)∧F 4=.pointer (some ⟨h.size,0,none⟩)∧F 5=.pointer (some ⟨h.size+1,0,none⟩)∧∃(m:Nat) (o':Ow) (Xu:WA),m≤5∧F 78=.int .i64 m∧Kp cU o h o' g∧ZJ o' g wb i nb { a with Zi:=some ra } { n with Zi:=some r }∧ZG o' g wb Z8 Xu (fl++(List.range m).flatMap pf) bad told∧ZN o' g h.size (.cells [Zo nb].toArray 98)∧ZN o' g (h.size+1) (.cells [Zo ra.rb].toArray 106))
   (fun F _=>5-(vi (F 78)).toNat) rfl ⟨f0,f4,f5,0,o,YH,by omega,rfl,ZE k1,N1,by simpa using W1,x4,x5⟩ ?_
  rintro F2 g2 ⟨f0,f4,f5,m,o2,WA2,hm,f78,K2,N2,W2,x4,x5⟩
  by_cases ZD:m<5
  ·have ZL:(m:Int)<5:=by omega
   have R2:YL o2 i g2 ra r:=N2.pt.Zi
   obtain⟨q0,q2,q3,q4,q5⟩:=R2.rr
   have P2:=Zx N2.ZF.2 N2.pt.store.len
   have l4:=Za x4.2
   have l5:=Za x5.2
   have CK:=Za R2.ZF.2
   have JR:=Za N2.ZF.2
   have r4:hc g2 ⟨h.size,0,none⟩=some (Zo nb):=Zh x4.2
   have r5:hc g2 ⟨h.size+1,0,none⟩=some (Zo ra.rb):=Zh x5.2
   unfold Zo at r4 r5
   unfold Je at q0
   have lk:=fun (K:Value→Hp→Prop)=>Yt (K:=K) (n:=(m:Int)) (c:=true) Mj oq R2.prom.2
   have hpm:pf m=if Yr r.prom (m:Int)=none then [⟨0,n.me,m,r.b,VX,[]⟩] else []:=by rw[hpf]
   rcases R2.So.Yr (m:Int) with⟨z1,z2⟩|⟨w,vs,z1,z2,iv⟩
   ·rw[if_pos z2]at hpm
    simp only[z1,Option.getD_none,Option.isSome_none,↓reduceIte]at lk
    simp -implicitDefEqProofs only[go_sem,↓reduceIte,f0,f4,f5,f78,ZL,r5,q2,lk]
    refine VS.z (g2.size) [8] (.p 0 (.q 1 (.p 2 (.q 3 (.p 4 (.p 5 (.q 6 (.p 7 (.w 8 .nil))))))))) mixed (by kernel_rfl) ?_
    simp -implicitDefEqProofs only[go_sem,↓reduceIte,f0,f4,f5,f78,r4,r5,q0,l4,l5,CK]
    have rl:(fl++(List.range m).flatMap pf).length≤1000000000000:=by
     have:=Wh pf 1 m ZoB
     rw[List.length_append];omega
    refine (UM T g2 o2 wb nb Z8 n.me WA2 _ bad told (m:Int) ⟨0,0,0,r.b,VX,[]⟩ (.slice none 0 0) K2.ZW W2 P2.me JR (Im.nil _ _ _ _) rl).use ?_
    rintro v' g3 ⟨o3,qP,k3,_,W3⟩
    simp -implicitDefEqProofs only[go_sem,↓reduceIte,f78]
    unfold Y4
    refine⟨⟨f0,f4,f5,m+1,o3,qP,ZD,rfl,K2.trans k3,N2.Zc k3 (by rintro t (rfl|rfl)<;>simp[Tg.of]),by rw[Qj,hpm,←List.append_assoc];exact W3,x4.Zc k3,x5.Zc k3⟩,?_⟩
    simp only[vi,Zk,↓reduceIte,f78];omega
   ·rw[if_neg (by rw[z2];simp)]at hpm
    obtain⟨pw,cw,rfl⟩:=iv.isSlice
    simp only[z1,Option.getD_some,Option.isSome_some,↓reduceIte]at lk
    simp -implicitDefEqProofs only[go_sem,↓reduceIte,f0,f4,f5,f78,ZL,r5,q2,lk]
    unfold Y4
    refine⟨⟨f0,f4,f5,m+1,o2,WA2,ZD,rfl,K2,N2,by rw[Qj,hpm,List.append_nil];exact W2,x4,x5⟩,?_⟩
    simp only[vi,Zk,↓reduceIte,f78];omega
  ·have YJ:¬(m:Int)<5:=by omega
   obtain rfl:m=5:=by omega
   simp -implicitDefEqProofs only[go_sem,↓reduceIte,f78,YJ]
   exact⟨o2,_,WA2,K2.mono (fun t q=>by rcases q with rfl|rfl<;>simp[XC]),N2,W2⟩
 have lm:=fun (K:Value→Hp→Prop) (cs:Array Bool) (ty:TypeId)=>Tb (T:=T) (K:=K) (ty:=ty) (cs:=cs) Mj R1.prom.2
 rw[R1.So.length]at lm
 obtain⟨r1,jz⟩:=Zy (if r.begun=true then r else Tq n r)
 have eP:Qx { n with Zi:=some r } r=⟨{ n with Zi:=some (Ju n r1 n.queue) },OB n (Ju n r1 n.queue),[]⟩:=by
  unfold Qx
  rw[if_neg c1,if_neg (by simpa using c2)]
  have e1:Uo { n with Zi:=some r } r=Ju n r1 n.queue:=by
   unfold Uo
   rw[jz,il (n:={ n with Zi:=some r }) (n':=n) rfl rfl,aj (n:={ n with Zi:=some r }) (n':=n) rfl rfl]
  rw[e1,oX (n:={ n with Zi:=some r }) (n':=n) rfl rfl]
 rw[eP]
 simp -implicitDefEqProofs only[go_sem,↓reduceIte,f0,f4,f5,f35,c1,r4,r5,q2,lm]
 refine (MZ T g1 r.prom.length Ll).use ?_
 rintro _ g' ⟨rfl,Ih⟩
 rw[Ih]
 cases cb:r.begun
 all_goals
 first
 | (rw[cb,if_neg (by simp)]at jz
    rw[cb]at q3
    simp -implicitDefEqProofs only[go_sem,↓reduceIte,c2,f0,f4,f5,r4,r5,q3]
    refine (oV T g1 o wb i nb a n ra r k1.ZW N1 hp hs hl).use ?_
    rintro v' g2 ⟨ra1,A9,kx,N3⟩
    rw[←jz]at N3
    have kx':Kp (XC i) o g1 o g2:=kx.mono fun t q=>.inr (.inr (.inr (Nm q)))
    have W3:=W1.Zc kx (by intro t q;rw[Nm q];simp)
    have y4:=x4.Zc kx
    have y5:=x5.Zc kx
    have K3:Kp (XC i) o h o g2:=(ZE k1).trans kx')
 | (rw[cb,if_pos rfl]at jz
    rw[cb]at q3
    simp -implicitDefEqProofs only[go_sem,↓reduceIte,c2,f0,f4,f5,r4,r5,q3]
    obtain⟨g2,QL⟩:=Zy (g1)
    obtain⟨ra1,gX⟩:=Zy (ra)
    have A9:ra1.rb=ra.rb:=by rw[gX]
    have N3:ZJ o g2 wb i nb { a with Zi:=some ra1 } { n with Zi:=some r1 }:=by rw[gX,jz,QL];exact N1
    have W3:ZG o g2 wb Z8 YH fl bad told:=by rw[QL];exact W1
    have y4:ZN o g2 h.size (.cells [Zo nb].toArray 98):=by rw[QL];exact x4
    have y5:ZN o g2 (h.size+1) (.cells [Zo ra.rb].toArray 106):=by rw[QL];exact x5
    have K3:Kp (XC i) o h o g2:=by rw[QL];exact ZE k1
    rw[←QL])
 all_goals
  clear r4 r5 q0 q2 q3 q4 q5 l4 l5 CK JN P1 R1 lm
  have P3:=Zx N3.ZF.2 N3.pt.store.len
  obtain⟨pq,cq,uZ,_⟩:=YB.isSlice N3.pt.queue
  have uZ:a.queue=.slice pq n.queue.length cq:=uZ
  have P3q:hc g2 ⟨nb,52,none⟩=some (.slice pq n.queue.length cq):=by rw[←uZ];exact P3.queue
  have r4:hc g2 ⟨h.size,0,none⟩=some (Zo nb):=Zh y4.2
  have r5:hc g2 ⟨h.size+1,0,none⟩=some (Zo ra.rb):=Zh y5.2
  unfold Zo at r4 r5
  simp -implicitDefEqProofs only[go_sem,↓reduceIte,f0,f4,f5,r4,r5,P3q]
  clear r4 r5 P3q P3
  refine VS.ZV (fun F g=>F 0=.pointer (some ⟨wb,0,none⟩)∧F 4=.pointer (some ⟨h.size,0,none⟩)∧F 5=.pointer (some ⟨h.size+1,0,none⟩)∧F 113=.slice pq n.queue.length cq∧F 114=.int .i64 n.queue.length∧∃(j:Nat) (ra':RA),j≤n.queue.length∧F 115=.int .i64 j∧Kp (XC i) o h o g∧ra'.rb=ra.rb∧ZJ o g wb i nb { a with Zi:=some ra' } { n with Zi:=some (Ju n r1 (n.queue.take j)) }∧ZG o g wb Z8 YH fl bad told∧ZN o g h.size (.cells [Zo nb].toArray 98)∧ZN o g (h.size+1) (.cells [Zo ra.rb].toArray 106))
   (fun F _=>n.queue.length-(vi (F 115)).toNat) rfl ⟨f0,f4,f5,rfl,rfl,0,ra1,by omega,rfl,K3,A9,N3,W3,y4,y5⟩ ?_
  clear f0 f4 f5 y4 y5 K3 N3 W3 A9
  rintro F3 g3 ⟨f0,f4,f5,f113,f114,j,ra',hj,f115,K3,A9,N3,W3,y4,y5⟩
  obtain⟨rj,hrj⟩:=Zy (Ju n r1 (n.queue.take j))
  rw[←hrj]at N3
  have r4:hc g3 ⟨h.size,0,none⟩=some (Zo nb):=Zh y4.2
  have r5:hc g3 ⟨h.size+1,0,none⟩=some (Zo ra.rb):=Zh y5.2
  unfold Zo at r4 r5
  have l4:=Za y4.2
  have l5:=Za y5.2
  by_cases ZD:j<n.queue.length
  ·have ZL:(j:Int)<n.queue.length:=by omega
   obtain⟨pz,cz,GM,As⟩:=JM N3.pt.queue.ts
   obtain⟨bb,oo,ui,U6,OJ⟩:=As (by intro e;have:n.queue=[]:=e;rw[this]at ZD;simp at ZD)
   have GM:a.queue=.slice pz n.queue.length cz:=GM
   rw[uZ]at GM
   simp only[Value.slice.injEq]at GM
   obtain⟨rfl,_,rfl⟩:=GM
   subst ui
   have re:rd g3 ⟨bb,oo+j*5,none⟩ 5=some (n.queue[j]).C:=OJ j ZD
   obtain⟨x,hx⟩:=Zy (n.queue[j])
   rw[←hx]at re
   have YA:Ju n r1 (n.queue.take (j+1))=We n rj x:=by
    rw[Yg _ j ZD,←hx,hrj]
    unfold Ju
    rw[List.foldl_append];rfl
   obtain⟨g4,OI⟩:=Zy (g3.push (.cells x.C.toArray 49):Hp)
   have k4:Kp Qz o g3 o g4:=by rw[OI];exact ZX K3.ZW _
   have x4':ZN o g4 g3.size (.cells x.C.toArray 49):=⟨K3.ZW _ (Nat.le_refl _),by rw[OI];exact Zb⟩
   have e4:=OI.symm
   have N4:=N3.still k4
   have R4:YL o i g4 ra' rj:=N4.pt.Zi
   have z4:=y4.Zc k4
   have z5:=y5.Zc k4
   have s4:hc g4 ⟨h.size,0,none⟩=some (Zo nb):=Zh z4.2
   have s5:hc g4 ⟨h.size+1,0,none⟩=some (Zo ra'.rb):=by rw[A9];exact Zh z5.2
   have sx:rd g4 ⟨g3.size,0,none⟩ 5=some x.C:=Zp x4'.2 rfl
   have cf:=uU T g4 o wb i nb { a with Zi:=some ra' } { n with Zi:=some rj } ra' rj x k4.ZW N4 R4 hl
   rw[show UC { n with Zi:=some rj } rj x=UC n rj x from by unfold UC;rw[Fv (n:={ n with Zi:=some rj }) (n':=n) rfl rfl],Fv (n:={ n with Zi:=some rj }) (n':=n) rfl rfl]at cf
   unfold WU Zo at cf
   unfold Zo at s4 s5
   simp -implicitDefEqProofs only[go_sem,↓reduceIte,f0,f4,f5,f113,f114,f115,ZL,re,e4,s4,s5,sx]
   refine cf.use ?_
   rintro _ g5 ⟨rfl,b5⟩
   have k5:=ZC k4.ZW b5
   have K5:Kp (XC i) o h o g5:=(K3.trans (ZE k4)).trans (ZE k5)
   have N5:=N4.still k5
   have R5:YL o i g5 ra' rj:=N5.pt.Zi
   have W5:=(W3.still k4).still k5
   have u4:=z4.Zc k5
   have u5:=z5.Zc k5
   have ux:=x4'.Zc k5
   cases hf:free n rj x with
   | none=>
    have e1:We n rj x=rj:=by unfold We;rw[hf]
    simp -implicitDefEqProofs only[go_sem,↓reduceIte,Option.isSome_none,f115]
    unfold Y4
    refine⟨⟨f0,f4,f5,f113,f114,j+1,ra',ZD,rfl,K5,A9,by rw[YA,e1];exact N5,W5,u4,u5⟩,?_⟩
    simp only[vi,Zk,↓reduceIte,f115];omega
   | some sl=>
    have e1:We n rj x = { rj with prop:=ins rj.prop (sl:Int) x }:=by unfold We;rw[hf]
    have e2:UC n rj x=sl:=by unfold UC;rw[hf]
    rw[e2]
    simp -implicitDefEqProofs only[go_sem,↓reduceIte,Option.isSome_some]
    have t5:hc g5 ⟨h.size+1,0,none⟩=some (Zo ra'.rb):=by rw[A9];exact Zh u5.2
    unfold Zo at t5
    have tx:rd g5 ⟨g3.size,0,none⟩ 5=some x.C:=Zp ux.2 rfl
    obtain⟨_,_,_,t4,_⟩:=R5.rr
    have m5:=Za u5.2
    have mr:=Za R5.ZF.2
    have mx:=Za ux.2
    refine VS.z (g5.size) [6] (.q 0 (.p 1 (.p 2 (.q 3 (.p 4 (.q 5 (.w 6 .nil))))))) mixed (by kernel_rfl) ?_
    simp -implicitDefEqProofs only[go_sem,↓reduceIte,f5,t5,t4,tx,m5,mr,mx]
    rw[XP VN R5.prop.2]
    obtain⟨k6,R6⟩:=R5.dg K5.ZW (k:=(sl:Int)) (x:=x)
    have k6':Kp (XF i) o g5 o _:=k6.mono fun t q=>.inr (.inr (.inl q))
    have k6a:Kp (XC i) o g5 o _:=k6.mono fun t q=>.inr (.inr (.inr (by rw[q];rfl)))
    simp -implicitDefEqProofs only[go_sem,↓reduceIte,f115]
    unfold Y4
    refine⟨⟨f0,f4,f5,f113,f114,j+1,ra',ZD,rfl,K5.trans k6a,A9,?_,W5.Zc k6 (by rintro t rfl;simp[Tg.of]),u4.Zc k6,u5.Zc k6⟩,?_⟩
    ·rw[YA,e1]
     exact⟨N5.ZF.Zc k6 (by intro e;cases e),ZU.Qr N5.pt k6' rfl rfl R6⟩
    ·simp only[vi,Zk,↓reduceIte,f115];omega
  ·have YJ:¬(j:Int)<n.queue.length:=by omega
   obtain rfl:j=n.queue.length:=by omega
   rw[List.take_length]at hrj
   simp -implicitDefEqProofs only[go_sem,↓reduceIte,f114,f115,YJ]
   rw[←hrj]
   obtain⟨r2,hr2⟩:=Zy (rj)
   rw[←hr2]at N3 ⊢
   have ZfW:∀s x m,(RX n r2 s x m).length≤1:=fun s x m=>by unfold RX;split<;>simp
   have ZfX:∀s,(Wt n r2 s).length≤5:=fun s=>by
    unfold Wt
    split
    ·split
     ·exact Wh _ 1 5 (ZfW s _)
     ·simp
    ·simp
   clear r4 r5 l4 l5
   refine VS.ZV (fun F g=>F 0=.pointer (some ⟨wb,0,none⟩)∧F 4=.pointer (some ⟨h.size,0,none⟩)∧F 5=.pointer (some ⟨h.size+1,0,none⟩)∧∃(s:Nat) (o':Ow) (Xu:WA),s≤40∧F 134=.int .i64 s∧Kp (XC i) o h o' g∧ZJ o' g wb i nb { a with Zi:=some ra' } { n with Zi:=some r2 }∧ZG o' g wb Z8 Xu (fl++(List.range s).flatMap (Wt n r2)) bad told∧ZN o' g h.size (.cells [Zo nb].toArray 98)∧ZN o' g (h.size+1) (.cells [Zo ra.rb].toArray 106))
    (fun F _=>40-(vi (F 134)).toNat) rfl ⟨f0,f4,f5,0,o,YH,by omega,rfl,K3,N3,by simpa using W3,y4,y5⟩ ?_
   clear f0 f4 f5 y4 y5 K3 N3 W3
   rintro F4 g4 ⟨f0,f4,f5,s,o4,dh,hs4,f134,K4,N4,W4,y4,y5⟩
   by_cases fJ:s<40
   case neg=>
    have zX:¬(s:Int)<40:=by omega
    obtain rfl:s=40:=by omega
    simp -implicitDefEqProofs only[go_sem,↓reduceIte,f134,zX]
    exact⟨o4,_,dh,K4,N4,W4⟩
   have Hm:(s:Int)<40:=by omega
   have R4:YL o4 i g4 ra' r2:=N4.pt.Zi
   obtain⟨_,_,_,t4,t5⟩:=R4.rr
   have P4:=Zx N4.ZF.2 N4.pt.store.len
   have r4:hc g4 ⟨h.size,0,none⟩=some (Zo nb):=Zh y4.2
   have r5:hc g4 ⟨h.size+1,0,none⟩=some (Zo ra'.rb):=by rw[A9];exact Zh y5.2
   unfold Zo at r4 r5
   have l4:=Za y4.2
   have l5:=Za y5.2
   have n4:¬h.size=g4.size:=by omega
   have n5:¬h.size+1=g4.size:=by omega
   have nnb:¬nb=g4.size:=by have:=Za N4.ZF.2;omega
   have HX:=fun (K:Value→Hp→Prop)=>Yt (K:=K) (n:=(s:Int)) (c:=true) VN OD R4.prop.2
   rw[Xn]at HX
   have Vm:=fun (K:Value→Hp→Prop) (z:Obj)=>Yt (h:=g4.push z) (K:=K) (n:=(s:Int)) (c:=true) VN OD ((Zr (Za N4.pt.known.2)).trans N4.pt.known.2)
   simp only[Xn,show ({ n with Zi:=some r2 }:Nd).known=n.known from rfl]at Vm
   have vd:∀x y:Obj,Kp Qz o4 g4 o4 ((g4.push x).push y):=fun x y=>(ZX K4.ZW _).push _
   have skip:∀(x y:Obj),Wt n r2 s=[]→ZJ o4 ((g4.push x).push y) wb i nb { a with Zi:=some ra' } { n with Zi:=some r2 }∧ZG o4 ((g4.push x).push y) wb Z8 dh (fl++(List.range (s+1)).flatMap (Wt n r2)) bad told∧ZN o4 ((g4.push x).push y) h.size (.cells [Zo nb].toArray 98)∧ZN o4 ((g4.push x).push y) (h.size+1) (.cells [Zo ra.rb].toArray 106):=fun x y hz=>
    ⟨N4.still (vd x y),by rw[Qj,hz,List.append_nil];exact W4.still (vd x y),y4.Zc (vd x y),y5.Zc (vd x y)⟩
   cases c3:Yr r2.prop (s:Int) with
   | none=>
    have hz:Wt n r2 s=[]:=by unfold Wt;rw[c3]
    simp only[c3,Option.map_none,Option.getD_none,Option.isSome_none,↓reduceIte]at HX
    cases c4:Yr n.known (s:Int) with
    | none=>
     simp only[c4,Option.map_none,Option.getD_none,Option.isSome_none,↓reduceIte]at Vm
     simp -implicitDefEqProofs only[go_sem,↓reduceIte,f0,f4,f5,f134,Hm,r5,t4,r4,n4,n5,nnb,HX,Vm,P4.known]
     unfold Y4
     refine⟨⟨f0,f4,f5,s+1,o4,dh,fJ,rfl,K4.trans (ZE (vd _ _)),skip _ _ hz⟩,?_⟩
     simp only[vi,Zk,↓reduceIte,f134];omega
    | some y=>
     simp only[c4,Option.map_some,Option.getD_some,Option.isSome_some,↓reduceIte]at Vm
     simp -implicitDefEqProofs only[go_sem,↓reduceIte,f0,f4,f5,f134,Hm,r5,t4,r4,n4,n5,nnb,HX,Vm,P4.known,WU]
     unfold Y4
     refine⟨⟨f0,f4,f5,s+1,o4,dh,fJ,rfl,K4.trans (ZE (vd _ _)),skip _ _ hz⟩,?_⟩
     simp only[vi,Zk,↓reduceIte,f134];omega
   | some x=>
    simp only[c3,Option.map_some,Option.getD_some,Option.isSome_some,↓reduceIte]at HX
    cases c4:Yr n.known (s:Int) with
    | some y=>
     have hz:Wt n r2 s=[]:=by unfold Wt;rw[c3];simp only;rw[if_neg (by rw[c4];simp)]
     simp only[c4,Option.map_some,Option.getD_some,Option.isSome_some,↓reduceIte]at Vm
     simp -implicitDefEqProofs only[go_sem,↓reduceIte,f0,f4,f5,f134,Hm,r5,t4,r4,n4,n5,nnb,HX,Vm,P4.known,WU]
     unfold Y4
     refine⟨⟨f0,f4,f5,s+1,o4,dh,fJ,rfl,K4.trans (ZE (vd _ _)),skip _ _ hz⟩,?_⟩
     simp only[vi,Zk,↓reduceIte,f134];omega
    | none=>
     have hz:Wt n r2 s=(List.range 5).flatMap (RX n r2 s x):=by unfold Wt;rw[c3];simp only;rw[if_pos c4]
     simp only[c4,Option.map_none,Option.getD_none,Option.isSome_none,↓reduceIte]at Vm
     simp -implicitDefEqProofs only[go_sem,↓reduceIte,f0,f4,f5,f134,Hm,r5,t4,r4,n4,n5,nnb,HX,Vm,P4.known,WU]
     obtain⟨fs,hfs⟩:=Zy (fl++(List.range s).flatMap (Wt n r2))
     have ZAd:fs.length≤900000001000:=by
      have:=Wh (Wt n r2) 5 s ZfX
      rw[hfs,List.length_append];omega
     have hnx:fl++(List.range (s+1)).flatMap (Wt n r2)=fs++(List.range 5).flatMap (RX n r2 s x):=by rw[Qj,hz,←List.append_assoc,←hfs]
     rw[←hfs]at W4
     have kz:=vd (.cells x.C.toArray 49) (.cells Ks.C.toArray 49)
     have xb:ZN o4 ((g4.push (.cells x.C.toArray 49)).push (.cells Ks.C.toArray 49)) g4.size (.cells x.C.toArray 49):=⟨K4.ZW _ (Nat.le_refl _),gY _ _ _⟩
     refine VS.ZV (fun F g=>F 0=.pointer (some ⟨wb,0,none⟩)∧F 4=.pointer (some ⟨h.size,0,none⟩)∧F 5=.pointer (some ⟨h.size+1,0,none⟩)∧F 134=.int .i64 s∧F 18=.int .i64 s∧F 19=.pointer (some ⟨g4.size,0,none⟩)∧∃(m:Nat) (o':Ow) (Xu:WA),m≤5∧F 160=.int .i64 m∧Kp (XC i) o h o' g∧ZJ o' g wb i nb { a with Zi:=some ra' } { n with Zi:=some r2 }∧ZG o' g wb Z8 Xu (fs++(List.range m).flatMap (RX n r2 s x)) bad told∧ZN o' g h.size (.cells [Zo nb].toArray 98)∧ZN o' g (h.size+1) (.cells [Zo ra.rb].toArray 106)∧ZN o' g g4.size (.cells x.C.toArray 49))
      (fun F _=>5-(vi (F 160)).toNat) rfl ⟨f0,f4,f5,f134,rfl,rfl,0,o4,dh,by omega,rfl,K4.trans (ZE kz),N4.still kz,by simpa using W4.still kz,y4.Zc kz,y5.Zc kz,xb⟩ ?_
     clear f0 f4 f5 f134 y4 y5 r4 r5 t4 t5 P4 HX Vm skip vd kz xb l4 l5 n4 n5 nnb R4
     rintro F5 g5 ⟨f0,f4,f5,f134,f18,f19,m,o5,WA5,hm,f160,K5,N5,W5,y4,y5,xb⟩
     by_cases iq:m<5
     case neg=>
      have hgm:¬(m:Int)<5:=by omega
      obtain rfl:m=5:=by omega
      simp -implicitDefEqProofs only[go_sem,↓reduceIte,f160,hgm,f134]
      unfold Y4
      refine⟨⟨f0,f4,f5,s+1,o5,WA5,fJ,rfl,K5,N5,by rw[hnx];exact W5,y4,y5⟩,?_⟩
      simp only[vi,Zk,↓reduceIte,f134];omega
     have ZfZ:(m:Int)<5:=by omega
     have R5:YL o5 i g5 ra' r2:=N5.pt.Zi
     obtain⟨v0,_,_,_,v5⟩:=R5.rr
     unfold Je at v0
     have r5:hc g5 ⟨h.size+1,0,none⟩=some (Zo ra'.rb):=by rw[A9];exact Zh y5.2
     unfold Zo at r5
     have lkv:=fun (K:Value→Hp→Prop)=>Yt (K:=K) (n:=(s:Int)) (c:=false) Kw HM R5.Xt.2
     rw[Xn]at lkv
     simp only[Bool.false_eq_true,if_false]at lkv
     obtain⟨g6,Rb⟩:=Zy (g5.push (.cells [].toArray 205):Hp)
     have e6:=Rb.symm
     have k6:Kp Qz o5 g5 o5 g6:=by rw[Rb];exact ZX K5.ZW _
     have w6:wr g6 ⟨g5.size,0,none⟩ []=some g6:=by
      have hx:g6[g5.size]? = some (.cells [].toArray 205):=by rw[Rb];exact Zb
      rw[ZS hx 0 [],if_pos ⟨by simp,rfl⟩]
      congr 1
      exact Si hx
     have N6:=N5.still k6
     have W6:=W5.still k6
     have z4:=y4.Zc k6
     have z5:=y5.Zc k6
     have zx:=xb.Zc k6
     have K6:Kp (XC i) o h o5 g6:=K5.trans (ZE k6)
     have P6:=Zx N6.ZF.2 N6.pt.store.len
     have R6:YL o5 i g6 ra' r2:=N6.pt.Zi
     obtain⟨u0,_,_,_,_⟩:=R6.rr
     unfold Je at u0
     have s4:hc g6 ⟨h.size,0,none⟩=some (Zo nb):=Zh z4.2
     have s5:hc g6 ⟨h.size+1,0,none⟩=some (Zo ra'.rb):=by rw[A9];exact Zh z5.2
     unfold Zo at s4 s5
     have sx:rd g6 ⟨g4.size,0,none⟩ 5=some [.int .i64 x.k,.int .i64 x.c,.int .i64 x.s,.int .i64 x.n,.int .i64 x.v]:=Zp zx.2 rfl
     have m4:=Za z4.2
     have m5:=Za z5.2
     have mx:=Za zx.2
     have mr:=Za R6.ZF.2
     have oZ:=Za N6.ZF.2
     obtain⟨S,hS⟩:=Zy ((Yr r2.Xt (s:Int)).getD [])
     have JZ:RX n r2 s x m=if Yr S (m:Int)=none then [⟨2,n.me,m,Jn,TK s r2.b x,[]⟩] else []:=by unfold RX;rw[hS]
     obtain⟨mv,hmv,lki⟩:∃mv,(Option.map qM (Yr ra'.sv (s:Int))).getD (.map none)=mv∧∀K:Value→Hp→Prop,NK Tryz.prog 204 mv (.int .i64 (m:Int)) true K g5=K (.tuple #[.agg #[],.bool (Yr S (m:Int)).isSome]) g5:=by
      rcases R5.VO.Yr (s:Int) with⟨z1,z2⟩|⟨sb,S',z1,z2,xz⟩
      ·refine⟨.map none,by rw[z1];rfl,fun K=>?_⟩
       rw[GK HL xV,hS,z2];rfl
      ·refine⟨.map (some sb),by rw[z1];rfl,fun K=>?_⟩
       have:=Yt (K:=K) (n:=(m:Int)) (c:=true) HL xV xz.2
       have hSS:S=S':=by rw[hS,z2];rfl
       rw[this]
       unfold ME
       rw[Xn,←hSS]
       cases Yr S (m:Int)<;>rfl
     rw[hmv]at lkv
     cases cS:Yr S (m:Int) with
     | some uu=>
      rw[if_neg (by rw[cS];simp)]at JZ
      simp only[cS,Option.isSome_some]at lki
      simp -implicitDefEqProofs only[go_sem,↓reduceIte,f0,f4,f5,f18,f19,f160,ZfZ,r5,v5,lkv,lki,e6,w6]
      unfold Y4
      refine⟨⟨f0,f4,f5,f134,f18,f19,m+1,o5,WA5,iq,rfl,K6,N6,by rw[Qj,JZ,List.append_nil];exact W6,z4,z5,zx⟩,?_⟩
      simp only[vi,Zk,↓reduceIte,f160];omega
     | none=>
      rw[if_pos cS]at JZ
      simp only[cS,Option.isSome_none]at lki
      simp -implicitDefEqProofs only[go_sem,↓reduceIte,f0,f4,f5,f18,f19,f160,ZfZ,r5,v5,lkv,lki,e6,w6]
      refine VS.z (g6.size) [11] (.p 0 (.q 1 (.p 2 (.p 3 (.q 4 (.p 5 (.p 6 (.q 7 (.q 8 (.p 9 (.p 10 (.w 11 .nil)))))))))))) mixed (by kernel_rfl) ?_
      simp -implicitDefEqProofs only[go_sem,↓reduceIte,f0,f4,f5,f18,f19,f160,s4,s5,u0,sx,m4,m5,mx,mr]
      have rl:(fs++(List.range m).flatMap (RX n r2 s x)).length≤1000000000000:=by
       have:=Wh (RX n r2 s x) 1 m (ZfW s x)
       rw[List.length_append];omega
      refine (UM T g6 o5 wb nb Z8 n.me WA5 _ bad told (m:Int) ⟨2,0,0,Jn,TK s r2.b x,[]⟩ (.slice none 0 0) K6.ZW W6 P6.me oZ (Im.nil _ _ _ _) rl).use ?_
      rintro v' g7 ⟨o7,WA7,k7,_,W7⟩
      simp -implicitDefEqProofs only[go_sem,↓reduceIte,f160]
      unfold Y4
      refine⟨⟨f0,f4,f5,f134,f18,f19,m+1,o7,WA7,iq,rfl,K6.trans (k7.mono fun t q=>by rcases q with rfl|rfl<;>simp[XC]),N6.Zc k7 (by rintro t (rfl|rfl)<;>simp[Tg.of]),by rw[Qj,JZ,←List.append_assoc];exact W7,z4.Zc k7,z5.Zc k7,zx.Zc k7⟩,?_⟩
      simp only[vi,Zk,↓reduceIte,f160];omega
theorem Up.fn {o:Ow} {h:Hp} {wb i nb:Nat} {ra:Option RA} {v:Value} {p:Option DM} (s:Up o h wb i nb ra v p):(p=none∧v=.nilFunc)∨(p.isSome=true∧∃f l,v=.func (.func f) #[] l):=by
 match p,s with
 | none,s=>exact .inl ⟨rfl,s⟩
 | some (.MD _ _ _ _),⟨_,_,_,_,e,_⟩=>exact .inr ⟨rfl,_,_,e⟩
 | some (.Mi _ _ _),⟨_,_,_,_,e,_⟩=>exact .inr ⟨rfl,_,_,e⟩
 | some (.own _ _ _),⟨_,_,_,_,_,_,e,_⟩=>exact .inr ⟨rfl,_,_,e⟩
theorem iu (n:Nd) (r:Jj):(Qx n r).n.Xk=n.Xk∧(Qx n r).n.log=n.log∧(Qx n r).n.me=n.me∧(Qx n r).n.heard=n.heard∧(Qx n r).n.own=n.own∧(Qx n r).ts=[]:=by
 unfold Qx
 split
 ·split<;>exact⟨rfl,rfl,rfl,rfl,rfl,rfl⟩
 ·split<;>exact⟨rfl,rfl,rfl,rfl,rfl,rfl⟩
theorem ak (n:Nd) (r:Jj):(Nl n r).length≤5:=by
 have:=Wh (fun (m:Nat)=>if Yr r.prom (m:Int)=none then [(⟨0,n.me,m,r.b,VX,[]⟩:Y3)] else []) 1 5 (fun m=>by split<;>simp)
 exact this
theorem iw (n:Nd) (r:Jj):(OB n r).length≤200:=by
 have h1:∀s x m,(RX n r s x m).length≤1:=fun s x m=>by unfold RX;split<;>simp
 have h2:∀s,(Wt n r s).length≤5:=fun s=>by
  unfold Wt
  split
  ·split
   ·exact Wh _ 1 5 (h1 s _)
   ·simp
  ·simp
 exact Wh _ 5 40 h2
theorem ve (n:Nd) (r:Jj):(Qx n r).ls.length≤200:=by
 unfold Qx
 split
 ·split<;>simp
 ·split
  ·have:=ak n r;simp only;omega
  ·exact iw n _
theorem ao (n:Nd):(still n).Xk=n.Xk∧(still n).log=n.log∧(still n).me=n.me∧(still n).heard=n.heard∧(still n).own=n.own∧(still n).queue=n.queue∧(still n).ZA=n.ZA∧(still n).data=n.data∧(still n).Y9=n.Y9:=by
 unfold still
 split
 ·split<;>exact⟨rfl,rfl,rfl,rfl,rfl,rfl,rfl,rfl,rfl⟩
 ·exact⟨rfl,rfl,rfl,rfl,rfl,rfl,rfl,rfl,rfl⟩
theorem D1 (n:Nd):(still n).Zi=none∨(still n).Zi=n.Zi:=by
 unfold still
 split
 ·split
  ·exact .inl rfl
  ·exact .inr rfl
 ·exact .inr rfl
theorem Pb (n:Nd):(Yx n).n.Xk=n.Xk∧(Yx n).n.log=n.log∧(Yx n).n.me=n.me∧(Yx n).n.heard=n.heard∧(Yx n).n.own=n.own∧(Yx n).ts=[]:=by
 unfold Yx
 split
 ·exact iu _ _
 ·split<;>exact⟨rfl,rfl,rfl,rfl,rfl,rfl⟩
theorem D2 (n:Nd):(Yx n).ls.length≤200+n.queue.length:=by
 unfold Yx
 split
 ·next r _=>have:=ve n r;omega
 ·split
  ·simp[VM]
  ·simp
set_option maxHeartbeats 4000000 in
theorem vf (T:World) (h:Hp) (o:Ow) (wb i nb:Nat) (Z8:Nat→Nat) (a:NA) (n:Nd) (YH:WA) (fl:List Y3) (bad:Nat→Int) (told:List S9) (d:Uq o h)
  (N:ZJ o h wb i nb a n) (W:ZG o h wb Z8 YH fl bad told) (tb:CI o h) (hp0:n.ZA=none) (Yp:fl.length≤800000000000) (nP:n.own.l.length≤1000000) (jB:n.data.length≤1000000)
  (hr:∀r,n.Zi=some r→(∀x∈r.prom,x.2.length≤1000000)∧(∀x∈r.prom,∀v∈x.2,v.slot≤1000000)∧r.prom.length≤1000000000000) (hl:n.log.length≤100000000000) (hq:n.queue.length≤10000000000) (ht:0≤n.Xk∧n.Xk<5) :
  Zd Tryz.prog T 79 #[Zo wb,Zo nb] h fun v' h'=>∃o' a' Xu,Kp (XC i) o h o' h'∧ZJ o' h' wb i nb a' (Wf n).n∧ZG o' h' wb Z8 Xu (fl++(Wf n).ls) bad told:=by
 refine Zd.MM (args:=#[_,_]) Tryz.func79 rfl rfl rfl ?_
 obtain⟨ye,Za2,sme,Za3,ix,Fw,ph,yf,ZoF⟩:=ao n
 refine VS.seq (VS.mono (N:=fun F' g'=>F' 0=.pointer (some ⟨wb,0,none⟩)∧F' 1=.pointer (some ⟨nb,0,none⟩)∧∃a1,Kp (XC i) o h o g'∧ZJ o g' wb i nb a1 (still n)∧ZG o g' wb Z8 YH fl bad told) ?_ ?_ (fun _ _ _ h=>h) (fun _ _ h=>h))
 ·refine Jc _ _ _ _ _ _ rfl ?_
  unfold Zo
  have P:=Zx N.ZF.2 N.pt.store.len
  have Wo:=Za N.ZF.2
  have Pr:=P.Zi
  have Po:=P.DN
  cases Nq:a.Zi with
  | none=>
   rw[Nq]at Pr
   have hn:n.Zi=none:=by
    have:=N.pt.Zi
    rw[Nq]at this
    cases hx:n.Zi with
    | none=>rfl
    | some r=>rw[hx]at this;exact this.elim
   have es:still n=n:=by unfold still;rw[hn]
   rw[es]
   unfold RZ at Pr
   simp -implicitDefEqProofs only[go_sem,↓reduceIte,Pr]
   refine VS.mono (N:=fun F' g'=>Zg h.size h g'∧F' 0=.pointer (some ⟨wb,0,none⟩)∧F' 1=.pointer (some ⟨nb,0,none⟩)∧F' 26=.bool false) ?_ ?_ (fun _ _ _ h=>h) (fun _ _ h=>h)
   ·refine VS.z (h.size) [12] (.p 0 (.p 1 (.p 2 (.p 3 (.p 4 (.p 5 (.p 6 (.q 7 (.p 8 (.p 9 (.p 10 (.q 11 (.w 12 (.p 13 .nil)))))))))))))) mixed (by kernel_rfl) ?_
    simp -implicitDefEqProofs only[go_sem,↓reduceIte,Pr,Po,Wo]
    try exact Zg.refl _ _
   rintro F1 g1 ⟨b1,f0,f1,f26⟩
   have kb:=ZC d b1
   simp -implicitDefEqProofs only[go_sem,↓reduceIte,f26]
   exact⟨f0,f1,a,ZE kb,N.still kb,W.still kb⟩
  | some ra=>
   obtain⟨r,hn⟩:∃r,n.Zi=some r:=by
    have:=N.pt.Zi
    rw[Nq]at this
    cases hx:n.Zi with
    | none=>rw[hx]at this;exact this.elim
    | some r=>exact⟨r,rfl⟩
   rw[Nq]at Pr
   unfold RZ Zo at Pr
   have R:YL o i h ra r:=by have:=N.pt.Zi;rw[Nq,hn]at this;exact this
   obtain⟨q0,_,_,_,_⟩:=R.rr
   have CK:=Za R.ZF.2
   simp -implicitDefEqProofs only[go_sem,↓reduceIte,Pr]
   refine VS.mono (N:=fun F' g'=>Zg h.size h g'∧F' 0=.pointer (some ⟨wb,0,none⟩)∧F' 1=.pointer (some ⟨nb,0,none⟩)∧F' 26=.bool (decide (below r.b n.own.p))) ?_ ?_ (fun _ _ _ h=>h) (fun _ _ h=>h)
   ·refine VS.z (h.size) [12] (.p 0 (.p 1 (.p 2 (.p 3 (.p 4 (.p 5 (.p 6 (.q 7 (.p 8 (.p 9 (.p 10 (.q 11 (.w 12 (.p 13 .nil)))))))))))))) mixed (by kernel_rfl) ?_
    simp -implicitDefEqProofs only[go_sem,↓reduceIte,Pr,Po,q0,Wo,CK]
    refine (OH T h n.own.p r.b).use ?_
    rintro _ g ⟨rfl,b⟩
    simp -implicitDefEqProofs only[go_sem,↓reduceIte,b]
   rintro F1 g1 ⟨b1,f0,f1,f26⟩
   have kb:=ZC d b1
   have N1:=N.still kb
   have W1:=W.still kb
   by_cases c:below r.b n.own.p
   ·have es:still n = { n with Zi:=none }:=by unfold still;rw[hn];simp only;rw[if_pos c]
    rw[es]
    have hpn:a.ZA=.nilFunc:=by
     have:=N.pt.ZA
     rw[hp0]at this
     exact this
    have pn:Up o g1 wb i nb none a.ZA n.ZA:=by rw[hp0];exact hpn
    obtain⟨g2,w2,N2,k2⟩:=ZU.write (a:={ a with Zi:=none }) (n:={ n with Zi:=none }) { N1.pt with Zi:=trivial,ZA:=pn } kb.ZW N1.ZF ((YT N1.ZF.2 N1.pt.store.len).Zi none)
    have JN:=Za N1.ZF.2
    unfold RZ at w2
    simp -implicitDefEqProofs only[go_sem,↓reduceIte,f0,f1,f26,c,w2,JN]
    exact⟨_,(ZE kb).trans (k2.mono fun t q=>.inr (.inr (.inr (by rw[q];rfl)))),N2,W1.Zc k2 (by rintro t rfl;simp[Tg.of])⟩
   ·have es:still n=n:=by unfold still;rw[hn];simp only;rw[if_neg c]
    rw[es]
    simp -implicitDefEqProofs only[go_sem,↓reduceIte,f26,c]
    exact⟨f0,f1,a,ZE kb,N1,W1⟩
 rintro F1 g1 ⟨f0,f1,a1,K1,N1,W1⟩
 obtain⟨s,hs⟩:=Zy (still n)
 rw[←hs]at N1 ye Za2 sme Za3 ix Fw ph yf ZoF
 have srg:s.Zi=none∨s.Zi=n.Zi:=by rw[hs];exact D1 n
 obtain⟨yg,Zf1,eme,Za4,ZoG,ets⟩:=Pb s
 have els:=D2 s
 unfold Wf
 rw[←hs]
 clear hs
 refine VS.seq (VS.mono (N:=fun F' g'=>F' 0=.pointer (some ⟨wb,0,none⟩)∧F' 1=.pointer (some ⟨nb,0,none⟩)∧∃kb a1,F' 5=.pointer (some ⟨kb,0,none⟩)∧ZN o g' kb (.cells [.int .i64 n.own.p.r,.int .i64 n.own.p.n].toArray 102)∧Kp (XC i) o h o g'∧ZJ o g' wb i nb a1 s∧ZG o g' wb Z8 YH fl bad told) ?_ ?_ (fun _ _ _ h=>h) (fun _ _ h=>h))
 ·refine Jc _ _ _ _ _ _ rfl ?_
  have P1:=Zx N1.ZF.2 N1.pt.store.len
  have P1o:=P1.DN
  rw[ix]at P1o
  have Wo:=Za N1.ZF.2
  obtain⟨g2,QL⟩:=Zy (g1.push (.cells [.int .i64 n.own.p.r,.int .i64 n.own.p.n].toArray 102):Hp)
  have k2:Kp Qz o g1 o g2:=by rw[QL];exact ZX K1.ZW _
  have x5:ZN o g2 g1.size (.cells [.int .i64 n.own.p.r,.int .i64 n.own.p.n].toArray 102):=⟨K1.ZW _ (Nat.le_refl _),by rw[QL];exact Zb⟩
  have e2:=QL.symm
  simp -implicitDefEqProofs only[go_sem,↓reduceIte,f0,f1,P1o,Wo,e2]
  exact⟨_,a1,rfl,x5,K1.trans (ZE k2),N1.still k2,W1.still k2⟩
 clear f0 f1 K1 N1 W1
 rintro F2 g2 ⟨f0,f1,kb,a2,f5,x5,K2,N2,W2⟩
 have BO:=tb.Zc K2
 refine VS.seq (VS.mono (N:=fun F' g'=>F' 0=.pointer (some ⟨wb,0,none⟩)∧F' 1=.pointer (some ⟨nb,0,none⟩)∧(Yx s).n.ZA=none∧∃o' a1 Xu,Kp (XC i) o h o' g'∧ZJ o' g' wb i nb a1 (Yx s).n∧ZG o' g' wb Z8 Xu (fl++(Yx s).ls) bad told) ?_ ?_ (fun _ _ _ h=>h) (fun _ _ h=>h))
 ·refine Jc _ _ _ _ _ _ rfl ?_
  have P2:=Zx N2.ZF.2 N2.pt.store.len
  have P2r:=P2.Zi
  have iy:=P2.me
  have Wo:=Za N2.ZF.2
  have l5:=Za x5.2
  cases Nq:a2.Zi with
  | some ra=>
   obtain⟨r,hn⟩:∃r,s.Zi=some r:=by
    have:=N2.pt.Zi
    rw[Nq]at this
    cases hx:s.Zi with
    | none=>rw[hx]at this;exact this.elim
    | some r=>exact⟨r,rfl⟩
   have hnr:n.Zi=some r:=by
    rcases srg with e|e
    ·rw[e]at hn;cases hn
    ·rw[←e,hn]
   have e1:Yx s=Qx s r:=by unfold Yx;rw[hn]
   have ea:a2 = { a2 with Zi:=some ra }:=by rw[←Nq]
   have es:s = { s with Zi:=some r }:=by rw[←hn]
   obtain⟨jz,hr2,hr3⟩:=hr r hnr
   rw[Nq]at P2r
   unfold RZ Zo at P2r
   have cr:=uX T g2 o wb i nb Z8 a2 s ra r YH fl bad told K2.ZW (by rw[←ea,←es];exact N2) W2 BO (by omega) (by rw[ix];exact nP) (by rw[yf];exact jB) jz hr2 hr3 (by rw[Za2];omega) (by rw[Fw];omega)
   rw[←es,←e1]at cr
   unfold Zo at cr
   simp -implicitDefEqProofs only[go_sem,↓reduceIte,f0,f1,P2r]
   refine cr.use ?_
   rintro v' g3 ⟨o3,a3,qP,k3,N3,W3⟩
   have P3:=(Zx N3.ZF.2 N3.pt.store.len).ZA
   rcases N3.pt.ZA.fn with⟨c1,c2⟩|⟨c1,f,l,c2⟩
   ·rw[c2]at P3
    simp -implicitDefEqProofs only[go_sem,↓reduceIte,f0,f1,P3]
    exact⟨c1,o3,a3,qP,K2.trans k3,N3,W3⟩
   ·rw[c2]at P3
    simp -implicitDefEqProofs only[go_sem,↓reduceIte,f0,f1,P3]
    rw[if_pos c1]
    exact⟨o3,a3,qP,K2.trans k3,N3,W3⟩
  | none=>
   have hn:s.Zi=none:=by
    have:=N2.pt.Zi
    rw[Nq]at this
    cases hx:s.Zi with
    | none=>rfl
    | some r=>rw[hx]at this;exact this.elim
   rw[Nq]at P2r
   unfold RZ at P2r
   have r5a:hc g2 ⟨kb,0,none⟩=some (.int .i64 n.own.p.r):=Zh x5.2
   have r5b:hc g2 ⟨kb,1,none⟩=some (.int .i64 n.own.p.n):=Zh x5.2
   rw[sme]at iy
   by_cases c:0<n.own.p.r∧n.own.p.n≠n.me
   case neg=>
    have e1:Yx s=⟨s,[],[]⟩:=by unfold Yx;rw[hn];simp only;rw[ix,sme,if_neg c]
    rw[e1]
    have Rs:s.ZA=none:=by rw[ph];exact hp0
    simp -implicitDefEqProofs only[go_sem,↓reduceIte,f0,f1,P2r]
    refine VS.mono (N:=fun F' g'=>Zg g2.size g2 g'∧F' 0=.pointer (some ⟨wb,0,none⟩)∧F' 1=.pointer (some ⟨nb,0,none⟩)∧F' 53=.bool false) ?_ ?_ (fun _ _ _ h=>h) (fun _ _ h=>h)
    ·refine VS.z (g2.size) [] (.p 0 (.q 1 (.p 2 (.p 3 (.p 4 (.q 5 (.p 6 (.p 7 (.p 8 (.q 9 (.p 10 (.p 11 (.p 12 .nil))))))))))))) mixed (by kernel_rfl) ?_
     by_cases c1:0<n.own.p.r
     ·have c2:n.own.p.n=n.me:=by
       rcases Decidable.em (n.own.p.n=n.me) with e|e
       ·exact e
       ·exact (c ⟨c1,e⟩).elim
      simp -implicitDefEqProofs only[go_sem,↓reduceIte,f0,f1,f5,r5a,r5b,iy,l5,Wo,c1,c2]
      try exact Zg.refl _ _
     ·simp -implicitDefEqProofs only[go_sem,↓reduceIte,f0,f1,f5,r5a,r5b,iy,l5,Wo,c1]
      try exact Zg.refl _ _
    rintro F3 g3 ⟨b3,f0,f1,f53⟩
    have Wn:=ZC K2.ZW b3
    simp -implicitDefEqProofs only[go_sem,↓reduceIte,f53]
    exact⟨f0,f1,Rs,o,a2,YH,K2.trans (ZE Wn),N2.still Wn,by rw[List.append_nil];exact W2.still Wn⟩
   have e1:Yx s=⟨s,VM s,[]⟩:=by unfold Yx;rw[hn];simp only;rw[ix,sme,if_pos c]
   rw[e1]
   have Rs:s.ZA=none:=by rw[ph];exact hp0
   obtain⟨c1,c2⟩:=c
   simp -implicitDefEqProofs only[go_sem,↓reduceIte,f0,f1,P2r]
   refine VS.mono (N:=fun F' g'=>Zg g2.size g2 g'∧F' 0=.pointer (some ⟨wb,0,none⟩)∧F' 1=.pointer (some ⟨nb,0,none⟩)∧F' 5=.pointer (some ⟨kb,0,none⟩)∧F' 53=.bool true) ?_ ?_ (fun _ _ _ h=>h) (fun _ _ h=>h)
   ·refine VS.z (g2.size) [] (.p 0 (.q 1 (.p 2 (.p 3 (.p 4 (.q 5 (.p 6 (.p 7 (.p 8 (.q 9 (.p 10 (.p 11 (.p 12 .nil))))))))))))) mixed (by kernel_rfl) ?_
    simp -implicitDefEqProofs only[go_sem,↓reduceIte,f0,f1,f5,r5a,r5b,iy,l5,Wo,c1,c2]
    try exact Zg.refl _ _
   clear f0 f1 f5
   rintro F3 g3 ⟨b3,f0,f1,f5,f53⟩
   have Wn:=ZC K2.ZW b3
   have N3:=N2.still Wn
   have W3:=W2.still Wn
   have K3:=K2.trans (ZE (S:=XC i) Wn)
   have y5:=x5.Zc Wn
   obtain⟨pq,cq,uZ,_⟩:=YB.isSlice N3.pt.queue
   have uZ:a2.queue=.slice pq s.queue.length cq:=uZ
   have P3q:=(Zx N3.ZF.2 N3.pt.store.len).queue
   rw[uZ]at P3q
   simp -implicitDefEqProofs only[go_sem,↓reduceIte,f0,f1,f53,P3q]
   have hql:s.queue.length≤10000000000:=by rw[Fw];exact hq
   refine VS.ZV (fun F g=>F 0=.pointer (some ⟨wb,0,none⟩)∧F 1=.pointer (some ⟨nb,0,none⟩)∧F 5=.pointer (some ⟨kb,0,none⟩)∧F 69=.slice pq s.queue.length cq∧F 70=.int .i64 s.queue.length∧∃(j:Nat) (o':Ow) (Xu:WA),j≤s.queue.length∧F 71=.int .i64 j∧Kp (XC i) o h o' g∧ZJ o' g wb i nb a2 s∧ZG o' g wb Z8 Xu (fl++(VM s).take j) bad told∧ZN o' g kb (.cells [.int .i64 n.own.p.r,.int .i64 n.own.p.n].toArray 102))
    (fun F _=>s.queue.length-(vi (F 71)).toNat) rfl ⟨f0,f1,f5,rfl,rfl,0,o,YH,by omega,rfl,K3,N3,by simpa using W3,y5⟩ ?_
   clear f0 f1 f5 f53 P3q N3 W3 K3 y5 Wn b3 x5 K2 N2 W2
   rintro F4 g4 ⟨f0,f1,f5,f69,f70,j,o4,dh,hj,f71,K4,N4,W4,y5⟩
   have ue:(VM s).length=s.queue.length:=by unfold VM;simp
   by_cases ZD:j<s.queue.length
   ·have ZL:(j:Int)<s.queue.length:=by omega
    obtain⟨pz,cz,GM,As⟩:=JM N4.pt.queue.ts
    obtain⟨bb,oo,ui,U6,OJ⟩:=As (by intro e;have:s.queue=[]:=e;rw[this]at ZD;simp at ZD)
    have GM:a2.queue=.slice pz s.queue.length cz:=GM
    rw[uZ]at GM
    simp only[Value.slice.injEq]at GM
    obtain⟨rfl,_,rfl⟩:=GM
    subst ui
    have re:rd g4 ⟨bb,oo+j*5,none⟩ 5=some (s.queue[j]).C:=OJ j ZD
    obtain⟨x,hx⟩:=Zy (s.queue[j])
    rw[←hx]at re
    have YA:(VM s).take (j+1)=(VM s).take j++[⟨4,s.me,n.own.p.n,Jn,TK 0 Jn x,[]⟩]:=by
     rw[Yg _ j (by rw[ue];exact ZD)]
     congr 2
     unfold VM
     rw[List.getElem_map,←hx,ix]
    obtain⟨g5,pj⟩:=Zy (g4.push (.cells x.C.toArray 49):Hp)
    have k5:Kp Qz o4 g4 o4 g5:=by rw[pj];exact ZX K4.ZW _
    have x7:ZN o4 g5 g4.size (.cells x.C.toArray 49):=⟨K4.ZW _ (Nat.le_refl _),by rw[pj];exact Zb⟩
    have e5:=pj.symm
    have N5:=N4.still k5
    have W5:=W4.still k5
    have z5:=y5.Zc k5
    have s5:hc g5 ⟨kb,1,none⟩=some (.int .i64 n.own.p.n):=Zh z5.2
    have sx:rd g5 ⟨g4.size,0,none⟩ 5=some [.int .i64 x.k,.int .i64 x.c,.int .i64 x.s,.int .i64 x.n,.int .i64 x.v]:=Zp x7.2 rfl
    have re:rd g4 ⟨bb,oo+j*5,none⟩ 5=some [.int .i64 x.k,.int .i64 x.c,.int .i64 x.s,.int .i64 x.n,.int .i64 x.v]:=re
    have e5:g4.push (.cells [.int .i64 x.k,.int .i64 x.c,.int .i64 x.s,.int .i64 x.n,.int .i64 x.v].toArray 49)=g5:=e5
    have P5:=Zx N5.ZF.2 N5.pt.store.len
    have Pa:=Za N5.ZF.2
    simp -implicitDefEqProofs only[go_sem,↓reduceIte,f0,f1,f5,f69,f70,f71,ZL,re,e5,s5,sx]
    have rl:(fl++(VM s).take j).length≤1000000000000:=by
     rw[List.length_append,List.length_take];omega
    refine (UM T g5 o4 wb nb Z8 s.me dh _ bad told n.own.p.n ⟨4,0,0,Jn,TK 0 Jn x,[]⟩ (.slice none 0 0) k5.ZW W5 P5.me Pa (Im.nil _ _ _ _) rl).use ?_
    rintro v' g6 ⟨o6,WA6,k6,_,W6⟩
    simp -implicitDefEqProofs only[go_sem,↓reduceIte,f71]
    unfold Y4
    refine⟨⟨f0,f1,f5,f69,f70,j+1,o6,WA6,ZD,rfl,(K4.trans (ZE k5)).trans (k6.mono fun t q=>by rcases q with rfl|rfl<;>simp[XC]),N5.Zc k6 (by rintro t (rfl|rfl)<;>simp[Tg.of]),by rw[YA,←List.append_assoc];exact W6,z5.Zc k6⟩,?_⟩
    simp only[vi,Zk,↓reduceIte,f71];omega
   ·have YJ:¬(j:Int)<s.queue.length:=by omega
    obtain rfl:j=s.queue.length:=by omega
    rw[List.take_of_length_le (by rw[ue];exact Nat.le_refl _)]at W4
    simp -implicitDefEqProofs only[go_sem,↓reduceIte,f70,f71,YJ]
    exact⟨f0,f1,Rs,o4,a2,dh,K4,N4,W4⟩
 clear f0 f1 f5 x5 K2 N2 W2 BO
 rintro F3 g3 ⟨f0,f1,Rs,o3,a3,qP,K3,N3,W3⟩
 rw[if_neg (by rw[Rs];simp)]
 obtain⟨m,hm⟩:=Zy ((Yx s).n)
 obtain⟨ls,hls⟩:=Zy ((Yx s).ls)
 rw[←hm]at yg Zf1 eme Za4 ZoG N3 Rs
 rw[←hls]at W3 els
 rw[←hm,←hls]
 clear hm hls
 have hmt:0≤m.Xk∧m.Xk<5:=by rw[yg,ye];exact ht
 have jE:m.log.length≤100000000000:=by rw[Zf1,Za2];exact hl
 have hll:ls.length≤10000000200:=by rw[Fw]at els;omega
 refine VS.seq (VS.mono (N:=fun F' g'=>F' 0=.pointer (some ⟨wb,0,none⟩)∧F' 1=.pointer (some ⟨nb,0,none⟩)∧Kp (XC i) o h o3 g'∧ZJ o3 g' wb i nb a3 (Qh m)∧ZG o3 g' wb Z8 qP (fl++ls) bad told) ?_ ?_ (fun _ _ _ h=>h) (fun _ _ h=>h))
 ·refine Jc _ _ _ _ _ _ rfl ?_
  have P3:=Zx N3.ZF.2 N3.pt.store.len
  have P3t:=P3.Xk
  have Wo:=Za N3.ZF.2
  have et:(m.Xk+1).tmod 5=(m.Xk+1)%5:=Int.tmod_eq_emod_of_nonneg (by omega)
  obtain⟨g4,w4,N4,k4⟩:=ZU.write (a:=a3) (n:=Qh m) { N3.pt with } K3.ZW N3.ZF ((YT N3.ZF.2 N3.pt.store.len).Xk ((m.Xk+1)%5))
  simp -implicitDefEqProofs only[go_sem,↓reduceIte,f0,f1,P3t,et,w4,Wo]
  exact⟨K3.trans (k4.mono fun t q=>.inr (.inr (.inr (by rw[q];rfl)))),N4,W3.Zc k4 (by rintro t rfl;simp[Tg.of])⟩
 clear f0 f1 K3 N3 W3
 rintro F4 g4 ⟨f0,f1,K4,N4,W4⟩
 obtain⟨q,hq0⟩:=Zy (Qh m)
 have ql:q.log=m.log:=by rw[hq0];rfl
 rw[←hq0]at N4 ⊢
 clear hq0
 have P4:=Zx N4.ZF.2 N4.pt.store.len
 have P4t:=P4.Xk
 have Za6:=P4.me
 have P4o:=P4.DN
 have P4l:=P4.log
 obtain⟨pl,cl,Ll,_⟩:=YB.isSlice N4.pt.log
 have Ll:a3.log=.slice pl q.log.length cl:=Ll
 rw[Ll]at P4l
 have Wo:=Za N4.ZF.2
 rw[←ql]at jE
 refine Jc _ _ _ _ _ _ rfl ?_
 simp -implicitDefEqProofs only[go_sem,↓reduceIte]
 by_cases c:q.Xk≠q.me∧q.log.length<40
 case neg=>
  have e1:Vi q=[]:=by unfold Vi;rw[if_neg c]
  rw[e1,List.append_nil]
  refine VS.mono (N:=fun F' g'=>Zg g4.size g4 g'∧F' 109=.bool false) ?_ ?_ (fun _ _ _ h=>h) (fun _ _ h=>h)
  ·refine VS.z (g4.size) [] (.p 0 (.p 1 (.p 2 (.q 3 (.p 4 (.p 5 (.p 6 (.q 7 (.p 8 (.p 9 (.p 10 (.p 11 (.p 12 (.q 13 (.p 14 (.p 15 (.p 16 .nil))))))))))))))))) mixed (by kernel_rfl) ?_
   by_cases c1:q.Xk=q.me
   ·simp -implicitDefEqProofs only[go_sem,↓reduceIte,f0,f1,P4t,Za6,P4l,Wo,c1]
    try exact Zg.refl _ _
   ·have c2:¬(q.log.length:Int)<40:=by
     intro e
     exact c ⟨c1,by omega⟩
    simp -implicitDefEqProofs only[go_sem,↓reduceIte,f0,f1,P4t,Za6,P4l,Wo,c1,c2]
    try exact Zg.refl _ _
  rintro F5 g5 ⟨b5,f109⟩
  have HT:=ZC K4.ZW b5
  simp -implicitDefEqProofs only[go_sem,↓reduceIte,f109]
  exact⟨o3,a3,qP,K4.trans (ZE HT),N4.still HT,W4.still HT⟩
 have e1:Vi q=[⟨5,q.me,q.Xk,UA q,TK q.log.length Jn Ks,[]⟩]:=by unfold Vi;rw[if_pos c]
 rw[e1]
 obtain⟨c1,c2⟩:=c
 have c2:(q.log.length:Int)<40:=by omega
 refine VS.mono (N:=fun F' g'=>Zg g4.size g4 g'∧F' 0=.pointer (some ⟨wb,0,none⟩)∧F' 1=.pointer (some ⟨nb,0,none⟩)∧F' 109=.bool true) ?_ ?_ (fun _ _ _ h=>h) (fun _ _ h=>h)
 ·refine VS.z (g4.size) [] (.p 0 (.p 1 (.p 2 (.q 3 (.p 4 (.p 5 (.p 6 (.q 7 (.p 8 (.p 9 (.p 10 (.p 11 (.p 12 (.q 13 (.p 14 (.p 15 (.p 16 .nil))))))))))))))))) mixed (by kernel_rfl) ?_
  simp -implicitDefEqProofs only[go_sem,↓reduceIte,f0,f1,P4t,Za6,P4l,Wo,c1,c2]
  try exact Zg.refl _ _
 clear f0 f1
 rintro F5 g5 ⟨b5,f0,f1,f109⟩
 have HT:=ZC K4.ZW b5
 have N5:=N4.still HT
 have W5:=W4.still HT
 have K5:Kp (XC i) o h o3 g5:=K4.trans (ZE HT)
 have P5:=Zx N5.ZF.2 N5.pt.store.len
 have P5o:=P5.DN
 have Pa:=Za N5.ZF.2
 obtain⟨g6,Rb⟩:=Zy (g5.push (.cells [.int .i64 q.own.p.r,.int .i64 q.own.p.n].toArray 102):Hp)
 have k6:Kp Qz o3 g5 o3 g6:=by rw[Rb];exact ZX K5.ZW _
 have x8:ZN o3 g6 g5.size (.cells [.int .i64 q.own.p.r,.int .i64 q.own.p.n].toArray 102):=⟨K5.ZW _ (Nat.le_refl _),by rw[Rb];exact Zb⟩
 have e6:=Rb.symm
 have N6:=N5.still k6
 have W6:=W5.still k6
 have K6:Kp (XC i) o h o3 g6:=K5.trans (ZE k6)
 have P6h:=(Zx N6.ZF.2 N6.pt.store.len).heard
 have oZ:=Za N6.ZF.2
 have l8:=Za x8.2
 have r8:rd g6 ⟨g5.size,0,none⟩ 2=some [.int .i64 q.own.p.r,.int .i64 q.own.p.n]:=Zp x8.2 rfl
 obtain⟨kb,qx⟩:=Zy (g5.size)
 simp -implicitDefEqProofs only[go_sem,↓reduceIte,f0,f1,f109,P5o,Pa,e6]
 rw[←qx]at x8 l8 r8 ⊢
 refine VS.mono (N:=fun F' g'=>Zg g6.size g6 g'∧F' 0=.pointer (some ⟨wb,0,none⟩)∧F' 1=.pointer (some ⟨nb,0,none⟩)∧F' 8=.pointer (some ⟨kb,0,none⟩)∧F' 120=.bool (decide (below q.own.p q.heard))) ?_ ?_ (fun _ _ _ h=>h) (fun _ _ h=>h)
 ·refine VS.z (g6.size) [5] (.p 0 (.p 1 (.p 2 (.q 3 (.q 4 (.w 5 .nil)))))) mixed (by kernel_rfl) ?_
  simp -implicitDefEqProofs only[go_sem,↓reduceIte,f0,f1,P6h,r8,oZ,l8]
  refine (OH T g6 q.heard q.own.p).use ?_
  rintro _ g ⟨rfl,b⟩
  simp -implicitDefEqProofs only[go_sem,↓reduceIte,b]
  exact⟨f0,f1⟩
 clear f0 f1
 rintro F7 g7 ⟨b7,f0,f1,f8,f120⟩
 have kb7:=ZC K6.ZW b7
 have N7:=N6.still kb7
 have W7:=W6.still kb7
 have K7:Kp (XC i) o h o3 g7:=K6.trans (ZE kb7)
 have y8:=x8.Zc kb7
 have P7h:=(Zx N7.ZF.2 N7.pt.store.len).heard
 have Za7:=Za N7.ZF.2
 have m8:=Za y8.2
 by_cases c6:below q.own.p q.heard
 all_goals
 first
 | (have eb:UA q=q.heard:=by unfold UA;rw[if_pos c6]
    obtain⟨g8,IQ⟩:=Zy (g7.setIfInBounds kb (.cells [.int .i64 q.heard.r,.int .i64 q.heard.n].toArray 102):Hp)
    have w8:wr g7 ⟨kb,0,none⟩ [.int .i64 q.heard.r,.int .i64 q.heard.n]=some g8:=by rw[ZS y8.2 0 _,IQ];rfl
    have k8:Kp Qz o3 g5 o3 g8:=by rw[IQ];exact (k6.trans kb7).BN (by omega) _
    have z8:ZN o3 g8 kb (.cells [.int .i64 (UA q).r,.int .i64 (UA q).n].toArray 102):=⟨y8.1,by rw[IQ,eb];exact Zv y8.2⟩
    simp -implicitDefEqProofs only[go_sem,↓reduceIte,f0,f1,f8,f120,c6,P7h,Za7,w8])
 | (have eb:UA q=q.own.p:=by unfold UA;rw[if_neg c6]
    obtain⟨g8,IQ⟩:=Zy (g7:Hp)
    have k8:Kp Qz o3 g5 o3 g8:=by rw[IQ];exact k6.trans kb7
    have z8:ZN o3 g8 kb (.cells [.int .i64 (UA q).r,.int .i64 (UA q).n].toArray 102):=⟨y8.1,by rw[IQ,eb];exact y8.2⟩
    simp -implicitDefEqProofs only[go_sem,↓reduceIte,f120,c6]
    rw[←IQ])
 all_goals
  have N8:=N5.still k8
  have W8:=W5.still k8
  have K8:Kp (XC i) o h o3 g8:=K5.trans (ZE k8)
  have P8:=Zx N8.ZF.2 N8.pt.store.len
  have P8t:=P8.Xk
  have P8l:=P8.log
  rw[Ll]at P8l
  have vg:=Za N8.ZF.2
  have n8:=Za z8.2
  have s8:rd g8 ⟨kb,0,none⟩ 2=some [.int .i64 (UA q).r,.int .i64 (UA q).n]:=Zp z8.2 rfl
  refine VS.z (g8.size) [14] (.p 0 (.p 1 (.p 2 (.p 3 (.p 4 (.q 5 (.q 6 (.p 7 (.p 8 (.p 9 (.q 10 (.p 11 (.p 12 (.p 13 (.w 14 .nil))))))))))))))) mixed (by kernel_rfl) ?_
  simp -implicitDefEqProofs only[go_sem,↓reduceIte,f0,f1,f8,P8t,P8l,s8,vg,n8]
  have rl:(fl++ls).length≤1000000000000:=by rw[List.length_append];omega
  refine (UM T g8 o3 wb nb Z8 q.me qP _ bad told q.Xk ⟨5,0,0,UA q,TK q.log.length Jn Ks,[]⟩ (.slice none 0 0) K8.ZW W8 P8.me vg (Im.nil _ _ _ _) rl).use ?_
  rintro v' g9 ⟨o9,WA9,k9,_,W9⟩
  simp -implicitDefEqProofs only[go_sem,↓reduceIte]
  exact⟨o9,a3,WA9,K8.trans (k9.mono fun t q=>by rcases q with rfl|rfl<;>simp[XC]),N8.Zc k9 (by rintro t (rfl|rfl)<;>simp[Tg.of]),by rw[←List.append_assoc];exact W9⟩
structure aq (n:Nd) (l:Y3) (fl told:Nat):Prop where
 kind:0≤l.kind∧l.kind≤7
 room:fl≤1000000000000
 YQ:n.own.l.length≤1000000
 data:n.data.length≤1000000
 known:n.known.length≤100000000000
 log:n.log.length≤100000000000
 told:told≤100000000000
 queue:n.queue.length≤1000000000000
 waiting:n.waiting.length≤1000000000000
 VO:∀r s,n.Zi=some r→((Yr r.Xt s).getD []).length≤1000000
structure po (n:Nd) (fl:Nat):Prop where
 room:fl≤800000000000
 YQ:n.own.l.length≤1000000
 data:n.data.length≤1000000
 rgn:∀r,n.Zi=some r→(∀x∈r.prom,x.2.length≤1000000)∧(∀x∈r.prom,∀v∈x.2,v.slot≤1000000)∧r.prom.length≤1000000000000
 log:n.log.length≤100000000000
 queue:n.queue.length≤10000000000
 Xk:0≤n.Xk∧n.Xk<5
def SW:Nd→List Y3→Nat→Nat→Prop
 | _,[],_,_=>True
 | n,l :: k,f,t=>n.ZA.isSome=true∨(aq { n with inbox:=k } l f t∧SW (handle { n with inbox:=k } l).n k (f+(handle { n with inbox:=k } l).ls.length) (t+(handle { n with inbox:=k } l).ts.length))
structure ar (n:Nd) (fl told:Nat):Prop where
 data:n.data.length≤1000000
 room:fl≤1000000000000
 dr:n.ZA=none→SW n n.inbox fl told
 du:n.ZA=none→(drain n n.inbox).n.ZA=none→po (drain n n.inbox).n (fl+(drain n n.inbox).ls.length)
theorem Fx (n:Nd) (l:Y3) (k:List Y3):(handle { n with inbox:=k } l).n.inbox=k:=by
 have hL:∀(m:Nat) (x:Nd),(Yu m x).1.inbox=x.inbox:=by
  intro m
  induction m with
  | zero=>intro x;rfl
  | succ m ih=>
   intro x
   unfold Yu
   split
   ·rfl
   ·simp only;rw[ih];rfl
 have hl:∀(x:Nd) s c,(Un x s c).n.inbox=x.inbox:=fun x s c=>by unfold Un;simp only;rw[hL];rfl
 have hn:∀x:Nd,(notes x l).inbox=x.inbox:=fun x=>by unfold notes;split<;>rfl
 unfold handle
 split
 ·unfold YR;split;· rfl
  split;· rfl
  split<;>rfl
 split
 ·unfold Yv
  split
  ·rfl
  ·split
   ·split<;>rfl
   ·split;· rfl
    split
    ·rw[hl];rfl
    ·rfl
 split
 ·unfold asked;split;· rfl
  split;· rfl
  split<;>rfl
 split
 ·unfold add;simp only;split<;>rfl
 split
 ·unfold Wc;split
  ·simp only;rw[hn]
  ·simp only;rw[hn]
 split
 ·rw[hl]
 ·simp only;rw[hn]
theorem vj {o:Ow} {t:Tg} {h:Hp} {v:Value} {l:Y3} {k:List Y3} (s:QO o t h v (l :: k)) :
  ∃w b off c,v=.slice (some ⟨b,off,none⟩) (k.length+1) c∧k.length+1≤c∧rd h ⟨b,off,none⟩ 14=some (YY l w)∧Wm o h w l.vs∧QO o t h (.slice (if c=1 then some ⟨b,off,none⟩ else some ⟨b,off+14,none⟩) k.length (c-1)) k:=by
 obtain⟨xs,h1,h2,h3⟩:=s
 cases xs with
 | nil=>cases h1
 | cons x xs=>
  obtain⟨l',w⟩:=x
  simp only[List.map_cons,List.cons.injEq]at h1
  obtain⟨rfl,rfl⟩:=h1
  have h2':=h2
  rcases h2 with⟨_,e,_⟩|⟨b,off,cap,pre,spare,g1,rfl,g3,g4,g5,g6,g7⟩
  ·cases e
  refine⟨w,b,off,cap,by rw[List.length_map];rfl,by rw[List.length_map];exact g7,?_,h3 (l',w) (by simp),?_⟩
  ·have e1:Zz Mk ((l',w) :: xs)=YY l' w++Zz Mk xs:=by simp[Zz,Mk]
   have g5':(Zz Mk ((l',w) :: xs)).length=(xs.length+1)*14:=g5
   rw[Z5 g3 (by simp only[List.length_append];omega),←g4,List.drop_left,e1,List.append_assoc]
   rfl
  ·refine⟨xs,rfl,?_,fun x hx=>h3 x (by simp[hx])⟩
   have tl:=h2'.tail (k:=1) (by simp)
   have e1:Zz Mk ((l',w) :: xs)=YY l' w++Zz Mk xs:=by simp[Zz,Mk]
   rw[e1]at tl
   have e2:(YY l' w++Zz Mk xs).drop (1*14)=Zz Mk xs:=rfl
   rw[e2]at tl
   simpa [YX] using tl
def D3 (nb:Nat) (g:Hp):Nat:=match hc g ⟨nb,54,none⟩ with
 | some (.slice _ m _)=>m
 | _=>0
theorem D4 {o:Ow} {h:Hp} {wb i nb:Nat} {a:NA} {n:Nd} (N:ZJ o h wb i nb a n):D3 nb h=n.inbox.length:=by
 obtain⟨xs,h1,h2,_⟩:=N.pt.inbox
 obtain⟨p,c,h3,_⟩:=h2.isSlice
 have:=(Zx N.ZF.2 N.pt.store.len).inbox
 unfold D3
 rw[this,h3,←h1,List.length_map]
theorem D5 {i:Nat} (t:Tg) (q:ZaY i t):XC i t:=by
 rcases q with rfl|rfl|rfl|rfl|rfl
 ·exact .inl rfl
 ·exact .inr (.inl rfl)
 all_goals exact .inr (.inr (.inr rfl))
set_option maxHeartbeats 4000000 in
theorem pA (T:World) (h:Hp) (o:Ow) (wb i nb:Nat) (Z8:Nat→Nat) (a:NA) (n:Nd) (YH:WA) (fl:List Y3) (bad:Nat→Int) (told:List S9) (d:Uq o h)
  (N:ZJ o h wb i nb a n) (W:ZG o h wb Z8 YH fl bad told) (tb:CI o h) (ok:ar n fl.length told.length) :
  Zd Tryz.prog T 57 #[Zo wb,Zo nb] h fun v' h'=>∃o' a' Xu,Kp (XC i) o h o' h'∧ZJ o' h' wb i nb a' (step n).n∧ZG o' h' wb Z8 Xu (fl++(step n).ls) bad (told++(step n).ts):=by
 refine Zd.Zj (args:=[_,_]) Tryz.func57 rfl rfl rfl rfl ?_
 unfold Zo
 have P:=Zx N.ZF.2 N.pt.store.len
 have Wo:=Za N.ZF.2
 have Pu:=P.up
 cases hu:n.up with
 | false=>
  have e1:step n=⟨n,[],[]⟩:=by unfold step;rw[hu];rfl
  rw[hu]at Pu
  rw[e1,List.append_nil,List.append_nil]
  simp -implicitDefEqProofs only[go_sem,↓reduceIte,Pu]
  exact⟨o,a,YH,Kp.refl d _,N,W⟩
 | true=>
 rw[hu]at Pu
 have Pp:=P.ZA
 cases hp:n.ZA with
 | some p=>
  have e1:step n=finish (synced n) p:=by unfold step;rw[hu,hp];rfl
  rw[e1]
  have Pn:=N.pt.ZA
  rw[hp]at Pn
  obtain⟨f,l,hf⟩:∃f l,a.ZA=.func (.func f) #[] l:=by
   rcases Pn.fn with⟨c,_⟩|⟨_,c⟩
   ·cases c
   ·exact c
  have Pp':=Pp
  rw[hf]at Pp'
  obtain⟨pd,cd,Rs⟩:=N.pt.data.1.isSlice
  have Rs:a.data=.slice pd n.data.length cd:=Rs
  have Pt:=P.tape
  rw[Rs]at Pt
  have Nd:=N.pt.data
  rw[Rs]at Nd
  simp -implicitDefEqProofs only[go_sem,↓reduceIte,Pu,Pp',Pt]
  refine (tE T h _ n.Y9 n.data Nd.bs (by have:=ok.data;omega)).use ?_
  rintro v1 h1 ⟨b1,s1⟩
  have kb:=ZC d b1
  have N1:=N.still kb
  have W1:=W.still kb
  obtain⟨p1,c1,rfl,i1⟩:∃p1 c1,v1=.tuple [.agg [.slice p1 (synced n).data.length c1,.int .i64 (synced n).Y9].toArray,.int .i64 (if YO n.data n.Y9 then 0 else 5)].toArray∧Tv o h1 (.slice p1 (synced n).data.length c1) (synced n).data:=by
   unfold Ag at s1
   by_cases c:YO n.data n.Y9
   ·rw[if_pos (show n.data.length≤100000∧0≤n.Y9∧n.Y9≤n.data.length from c)]at s1
    obtain⟨w,rfl,o1⟩:=s1
    obtain⟨p1,c1,rfl,_⟩:=o1.bs.open
    have e2:(synced n).data=n.data:=by unfold synced;simp only;rw[if_pos c]
    have e3:(synced n).Y9=n.data.length:=by unfold synced;simp only;rw[if_pos c]
    rw[e2,e3,if_pos c]
    exact⟨p1,c1,rfl,Im.QZ o1.own (fun b hb=>d b hb),o1.byte⟩
   ·rw[if_neg (show ¬(n.data.length≤100000∧0≤n.Y9∧n.Y9≤n.data.length) from c)]at s1
    have e2:(synced n).data=[]:=by unfold synced;simp only;rw[if_neg c]
    have e3:(synced n).Y9=0:=by unfold synced;simp only;rw[if_neg c]
    rw[e2,e3,if_neg c]
    exact⟨none,0,s1,Im.nil _ _ _ _,fun x hx=>by cases hx⟩
  obtain⟨g2,w2,N2,k2⟩:=ZU.write (a:={ a with data:=.slice p1 (synced n).data.length c1 }) (n:={ n with data:=(synced n).data,Y9:=(synced n).Y9 }) { N1.pt with data:=i1 } kb.ZW N1.ZF ((YT N1.ZF.2 N1.pt.store.len).tape (.slice p1 (synced n).data.length c1) (synced n).Y9 rfl)
  have JN:=Za N1.ZF.2
  have JR:=Za N2.ZF.2
  have au:hc g2 ⟨nb,55,none⟩=some a.ZA:=(Zx N2.ZF.2 N2.pt.store.len).ZA
  have pn:Up o g2 wb i nb a.Zi .nilFunc none:=rfl
  obtain⟨g3,w3,N3,k3⟩:=ZU.write (a:={ a with data:=.slice p1 (synced n).data.length c1,ZA:=.nilFunc }) (n:=synced n) { N2.pt with ZA:=pn } k2.ZW N2.ZF ((YT N2.ZF.2 N2.pt.store.len).ZA .nilFunc rfl)
  have K3:Kp (XC i) o h o g3:=((ZE kb).trans (k2.mono fun t q=>.inr (.inr (.inr (by rw[q];rfl))))).trans (k3.mono fun t q=>.inr (.inr (.inr (by rw[q];rfl))))
  have W3:=(W1.Zc k2 (by rintro t rfl;simp[Tg.of])).Zc k3 (by rintro t rfl;simp[Tg.of])
  have Pn3:Up o g3 wb i nb a.Zi a.ZA (some p):=((Pn.Zc kb (by rintro⟨⟩)).Zc k2 (by intro e;cases e)).Zc k3 (by intro e;cases e)
  clear hf Pp'
  rw[show (finish (synced n) p).ts=[] from by cases p<;>rfl,List.append_nil]
  have rm:=ok.room
  have hns:(synced n).ZA=none:=rfl
  cases p with
  | MD acc to b vs=>
   obtain⟨b6,b4,b9,u,h1',h2',h3',h4',h5'⟩:=Pn3
   have cf:=uK T g3 o wb i nb Z8 YH fl bad told _ (synced n) acc to b vs b6 b4 b9 u k3.ZW N3 W3 rm h2' h3' h4' h5'
   rw[h1']at au
   unfold Wu at au
   simp only[List.map]at au
   unfold Zo at au cf
   simp -implicitDefEqProofs only[go_sem,↓reduceIte,w2,JN,au,w3,JR]
   refine cf.use ?_
   rintro v' h' ⟨o',a',Xu,k,N',W'⟩
   simp -implicitDefEqProofs only[go_sem,↓reduceIte]
   exact⟨o',a',Xu,K3.trans (k.mono D5),N',W'⟩
  | Mi acc to x=>
   obtain⟨b6,b4,b9,u,h1',h2',h3',h4',h5'⟩:=Pn3
   have cf:=uL T g3 o wb i nb Z8 YH fl bad told _ (synced n) acc to x b6 b4 b9 u k3.ZW N3 W3 rm h2' h3' h4' h5'
   rw[h1']at au
   unfold Wu at au
   simp only[List.map]at au
   unfold Zo at au cf
   simp -implicitDefEqProofs only[go_sem,↓reduceIte,w2,JN,au,w3,JR]
   refine cf.use ?_
   rintro v' h' ⟨o',a',Xu,k,N',W'⟩
   simp -implicitDefEqProofs only[go_sem,↓reduceIte]
   exact⟨o',a',Xu,K3.trans (k.mono D5),N',W'⟩
  | own acc vs cur=>
   obtain⟨b6,b4,b7,b5,h1',cf⟩:=uM T g3 o wb i nb _ (synced n) acc vs cur a.ZA k3.ZW N3 hns Pn3
   rw[h1']at au
   unfold Wu at au
   simp only[List.map]at au
   unfold Zo at au cf
   rw[show (finish (synced n) (.own acc vs cur)).ls=[] from rfl,List.append_nil]
   simp -implicitDefEqProofs only[go_sem,↓reduceIte,w2,JN,au,w3,JR]
   refine cf.use ?_
   rintro v' h' ⟨o',a',k,N'⟩
   simp -implicitDefEqProofs only[go_sem,↓reduceIte]
   exact⟨o',a',YH,K3.trans (k.mono fun t q=>by rcases q with rfl|rfl|rfl<;>exact .inr (.inr (.inr rfl))),N',W3.Zc k (fun t q=>by rcases q with rfl|rfl|rfl<;>simp[Tg.of])⟩
 | none=>
  have Pp0:a.ZA=.nilFunc:=by have:=N.pt.ZA;rw[hp]at this;exact this
  have Pp1:=P.ZA
  rw[Pp0]at Pp1
  simp -implicitDefEqProofs only[go_sem,↓reduceIte,Pu,Pp1]
  obtain⟨D,hD⟩:=Zy (drain n n.inbox)
  have dr:=ok.dr hp
  have du:=ok.du hp
  have e1:step n=if D.n.ZA.isSome=true then D else ⟨(Wf D.n).n,D.ls++(Wf D.n).ls,D.ts++(Wf D.n).ts⟩:=by unfold step;rw[hu,hp,hD];rfl
  rw[←hD]at du
  rw[e1]
  refine VS.ZV (fun F g=>F 0=.pointer (some ⟨wb,0,none⟩)∧F 1=.pointer (some ⟨nb,0,none⟩)∧∃(o':Ow) (a':NA) (Xu:WA) (m:Nd) (ls:List Y3) (ts:List S9),Kp (XC i) o h o' g∧ZJ o' g wb i nb a' m∧ZG o' g wb Z8 Xu (fl++ls) bad (told++ts)∧D=⟨(drain m m.inbox).n,ls++(drain m m.inbox).ls,ts++(drain m m.inbox).ts⟩∧SW m m.inbox (fl.length+ls.length) (told.length+ts.length))
   (fun _ g=>D3 nb g) rfl ⟨rfl,rfl,o,a,YH,n,[],[],Kp.refl d _,N,by simpa using W,by rw[hD];rfl,by simpa using dr⟩ ?_
  clear Pu Pp Pp0 Pp1 P Wo N W d
  rintro F1 g1 ⟨f0,f1,o1,a1,qQ,m,ls,ts,K1,N1,W1,hDm,dr1⟩
  have P1:=Zx N1.ZF.2 N1.pt.store.len
  have JN:=Za N1.ZF.2
  have P1i:=P1.inbox
  have uY:=P1.ZA
  have stop:(m.inbox=[]∨m.ZA.isSome=true)→D=⟨m,ls,ts⟩:=by
   intro q
   have e2:drain m m.inbox=⟨m,[],[]⟩:=by
    cases qS:m.inbox with
    | nil=>unfold drain;rw[←qS]
    | cons l k=>
     rcases q with q|q
     ·rw[qS]at q;cases q
     ·unfold drain;rw[if_pos q,←qS]
   rw[hDm,e2];simp
  rcases N1.pt.ZA.fn with⟨c1,c2⟩|⟨c1,f,fl',c2⟩
  ·rw[c2]at uY
   cases qS:m.inbox with
   | nil=>
    have eD:=stop (.inl qS)
    obtain⟨p,c,hi⟩:∃p c,a1.inbox=.slice p 0 c:=by
     have:=N1.pt.inbox
     rw[qS]at this
     obtain⟨xs,h1,h2,_⟩:=this
     obtain⟨p,c,h3,_⟩:=h2.isSlice
     rw[List.map_eq_nil_iff]at h1
     subst h1
     exact⟨p,c,h3⟩
    rw[hi]at P1i
    have yh:=du (by rw[eD];exact c1)
    rw[eD]at yh
    rw[eD,if_neg (by rw[c1];simp)]
    have cd:=vf T g1 o1 wb i nb Z8 a1 m qQ (fl++ls) bad (told++ts) K1.ZW N1 W1 (tb.Zc K1) c1 (by rw[List.length_append];exact yh.room) yh.YQ yh.data yh.rgn yh.log yh.queue yh.Xk
    unfold Zo at cd
    simp -implicitDefEqProofs only[go_sem,↓reduceIte,f0,f1,P1i,uY]
    refine cd.use ?_
    rintro v' g2 ⟨o2,a2,WA2,k2,N2,W2⟩
    simp -implicitDefEqProofs only[go_sem,↓reduceIte]
    have edt:(Wf m).ts=[]:=by
     unfold Wf
     split
     ·exact (Pb _).2.2.2.2.2
     ·rfl
    refine⟨o2,a2,WA2,K1.trans k2,N2,?_⟩
    rw[edt,List.append_nil,←List.append_assoc]
    exact W2
   | cons l k=>
    have NI:=N1.pt.inbox
    rw[qS]at NI
    obtain⟨w,b,off,c,hi,UF,OJ,iv,tl⟩:=vj NI
    rw[hi]at P1i
    rw[qS]at dr1
    have hk:aq { m with inbox:=k } l (fl.length+ls.length) (told.length+ts.length)∧SW (handle { m with inbox:=k } l).n k (fl.length+ls.length+(handle { m with inbox:=k } l).ls.length) (told.length+ts.length+(handle { m with inbox:=k } l).ts.length):=by
     rcases dr1 with q|q
     ·rw[c1]at q;cases q
     ·exact q
    obtain⟨hk,dr2⟩:=hk
    have CJ:D=⟨(drain (handle { m with inbox:=k } l).n k).n,(ls++(handle { m with inbox:=k } l).ls)++(drain (handle { m with inbox:=k } l).n k).ls,(ts++(handle { m with inbox:=k } l).ts)++(drain (handle { m with inbox:=k } l).n k).ts⟩:=by
     rw[hDm,qS]
     have e2:drain m (l :: k)=⟨(drain (handle { m with inbox:=k } l).n k).n,(handle { m with inbox:=k } l).ls++(drain (handle { m with inbox:=k } l).n k).ls,(handle { m with inbox:=k } l).ts++(drain (handle { m with inbox:=k } l).n k).ts⟩:=by
      rw[drain];rw[if_neg (by rw[c1];simp)]
     rw[e2];simp
    have RC:=Fx m l k
    clear stop dr1 hDm
    obtain⟨pw,cw,rfl⟩:=iv.isSlice
    obtain⟨g2,QL⟩:=Zy (g1.push (.cells (YY l (.slice pw l.vs.length cw)).toArray 148):Hp)
    have k2:Kp Qz o1 g1 o1 g2:=by rw[QL];exact ZX K1.ZW _
    have x5:ZN o1 g2 g1.size (.cells (YY l (.slice pw l.vs.length cw)).toArray 148):=⟨K1.ZW _ (Nat.le_refl _),by rw[QL];exact Zb⟩
    have e2:=QL.symm
    have N2:=N1.still k2
    have W2:=W1.still k2
    have P2i:=(Zx N2.ZF.2 N2.pt.store.len).inbox
    rw[hi]at P2i
    have JR:=Za N2.ZF.2
    obtain⟨vi',hvi⟩:∃v:Value,v=.slice (if c=1 then some ⟨b,off,none⟩ else some ⟨b,off+14,none⟩) k.length (c-1):=⟨_,rfl⟩
    have tl2:QO o1 (.inbox i) g2 vi' k:=by rw[hvi];exact tl.Zc k2 (fun q=>q.elim)
    obtain⟨g3,w3,N3,k3⟩:=ZU.write (a:={ a1 with inbox:=vi' }) (n:={ m with inbox:=k }) { N2.pt with inbox:=tl2 } k2.ZW N2.ZF ((YT N2.ZF.2 N2.pt.store.len).inbox vi' (by rw[hvi];rfl))
    rw[hvi]at w3
    have y5:=x5.Zc k3
    have W3:=W2.Zc k3 (by rintro t rfl;simp[Tg.of])
    have r5:rd g3 ⟨g1.size,0,none⟩ 14=some (YY l (.slice pw l.vs.length cw)):=Zp y5.2 rfl
    have K3:Kp (XC i) o h o1 g3:=(K1.trans (ZE k2)).trans (k3.mono fun t q=>.inr (.inr (.inr (by rw[q];rfl))))
    have Ha:(1:Int)≤c:=by omega
    have ch:=ic T g3 o1 wb i nb Z8 _ { m with inbox:=k } qQ (fl++ls) bad (told++ts) l (.slice pw l.vs.length cw) k3.ZW N3 W3 ((iv.Zc k2).Zc k3) (tb.Zc K3) hk.kind (by rw[List.length_append];exact hk.room) hk.YQ hk.data hk.known hk.log (by rw[List.length_append];exact hk.told) hk.queue hk.waiting hk.VO
    unfold Zo YY at ch
    unfold YY at OJ e2 r5
    simp -implicitDefEqProofs only[go_sem,↓reduceIte,f0,f1,P1i,uY,OJ,e2,P2i,JR,w3,UF,Ha,r5,Nat.add_sub_cancel]
    refine ch.use ?_
    rintro v' g4 ⟨o4,a4,dh,k4,N4,W4⟩
    simp -implicitDefEqProofs only[go_sem,↓reduceIte]
    unfold Y4
    have in4:=D4 N4
    have in1:=D4 N1
    rw[RC]at in4
    rw[qS]at in1
    refine⟨⟨f0,f1,o4,a4,dh,(handle { m with inbox:=k } l).n,ls++(handle { m with inbox:=k } l).ls,ts++(handle { m with inbox:=k } l).ts,K3.trans k4,N4,by rw[←List.append_assoc,←List.append_assoc];exact W4,by rw[RC];exact CJ,by rw[RC,List.length_append,List.length_append,←Nat.add_assoc,←Nat.add_assoc];exact dr2⟩,?_⟩
    show D3 nb g4<D3 nb g1
    rw[in4,in1]
    simp
  ·rw[c2]at uY
   have eD:=stop (.inr c1)
   rw[eD,if_pos c1]
   obtain⟨p,c,hi⟩:∃p c,a1.inbox=.slice p m.inbox.length c:=by
    obtain⟨xs,h1,h2,_⟩:=N1.pt.inbox
    obtain⟨p,c,h3,_⟩:=h2.isSlice
    rw[←h1,List.length_map]
    exact⟨p,c,h3⟩
   rw[hi]at P1i
   by_cases hz:0<m.inbox.length
   ·have FX:(0:Int)<m.inbox.length:=by omega
    simp -implicitDefEqProofs only[go_sem,↓reduceIte,f0,f1,P1i,uY,FX]
    exact⟨o1,a1,qQ,K1,N1,W1⟩
   ·have FX:¬(0:Int)<m.inbox.length:=by omega
    simp -implicitDefEqProofs only[go_sem,↓reduceIte,f0,f1,P1i,uY,FX]
    exact⟨o1,a1,qQ,K1,N1,W1⟩
def Vn (t:Tg):Prop:=True
def Zf4 (t:Tg):Prop:=∃i,t.of=some i
theorem Yc {S:Tg→Prop} {o o':Ow} {h h':Hp} (k:Kp S o h o' h'):Kp Vn o h o' h':=k.mono fun _ _=>trivial
structure Jf (o:Ow) (h:Hp) (wb:Nat) (Z8:Nat→Nat) (YH:WA) (w:Wd):Prop where
 wd:ZG o h wb Z8 YH w.Zm w.bad w.told
 nd:∀i,i<5→∃a,ZJ o h wb i (Z8 i) a (w.nodes i)
theorem Jf.still {o:Ow} {h h':Hp} {wb:Nat} {Z8:Nat→Nat} {YH:WA} {w:Wd} {o':Ow} (A:Jf o h wb Z8 YH w) (k:Kp Qz o h o' h'):Jf o' h' wb Z8 YH w:=
 ⟨A.wd.still k,fun i hi=>by obtain⟨a,N⟩:=A.nd i hi;exact⟨a,N.still k⟩⟩
theorem Jf.Xk {o o':Ow} {h h':Hp} {wb:Nat} {Z8:Nat→Nat} {YH qQ:WA} {w:Wd} {i:Nat} {a:NA} {n:Nd} {fl:List Y3} {bad:Nat→Int} {told:List S9} (A:Jf o h wb Z8 YH w) (k:Kp (XC i) o h o' h')
  (N:ZJ o' h' wb i (Z8 i) a n) (W:ZG o' h' wb Z8 qQ fl bad told):Jf o' h' wb Z8 qQ { nodes:=fun j=>if j=i then n else w.nodes j,Zm:=fl,bad:=bad,told:=told }:=by
 refine⟨W,fun j hj=>?_⟩
 by_cases e:j=i
 ·subst e
  exact⟨a,by simpa using N⟩
 ·obtain⟨b,M⟩:=A.nd j hj
  refine⟨b,?_⟩
  simp only[if_neg e]
  refine M.Zc k fun t q hq=>?_
  rcases q with rfl|rfl|rfl|q
  ·cases hq
  ·cases hq
  ·cases hq
  ·rw[hq]at q;exact e (Option.some.inj q)
theorem Wi {o:Ow} {h:Hp} {wb:Nat} {Z8:Nat→Nat} {YH:WA} {fl:List Y3} {bad:Nat→Int} {told:List S9} (W:ZG o h wb Z8 YH fl bad told) :
  ∃b off c,YH.nodes=.slice (some ⟨b,off,none⟩) 5 c∧5≤c∧b<h.size∧∀i,i<5→hc h ⟨b,off+i,none⟩=some (Zo (Z8 i)):=by
 rcases W.nodes with⟨_,e,_⟩|⟨b,off,cap,pre,spare,g1,g2,g3,g4,g5,g6,g7⟩
 ·cases e
 refine⟨b,off,cap,g2,g7,Za g3,fun i hi=>?_⟩
 rw[Zh g3,Ym,←g4,List.getElem?_append_right (by omega),Nat.add_sub_cancel_left]
 match i,hi with
 | 0,_=>rfl
 | 1,_=>rfl
 | 2,_=>rfl
 | 3,_=>rfl
 | 4,_=>rfl
theorem iz {T:World} {K:Value→Hp→Prop} {ty:TypeId} {o:Ow} {t:Tg} {h:Hp} {v:Value} {l:List Y3} {x:Y3} {w:Value} {bx:Nat} {cb:Array Bool} (s:QO o t h v l) (d:Uq o h) (iv:Wm o h w x.vs) (hb:h[bx]? = some (.cells (YY x w).toArray 148)) (hr:l.length≤1000000000000)
  (H:∀p c o' h',QO o' t h' (.slice p (l.length+1) c) (l++[x])→Kp (fun u=>u=t) o h o' h'→K (.slice p (l.length+1) c) h') :
  TL Tryz.prog T .append #[95,95] ty cb [v,.slice (some ⟨bx,0,none⟩) 1 1] K h:=by
 have src:Sl 14 h (.slice (some ⟨bx,0,none⟩) 1 1) 1 (YY x w):=⟨_,1,rfl,rfl,fun _=>⟨bx,0,rfl,fun i hi=>by
  rw[Zh hb,Ym,Nat.zero_add];exact List.getElem?_eq_getElem hi⟩⟩
 obtain⟨p,c,hw⟩:=iv.isSlice
 have Xj:Z7 w=true:=by rw[hw];rfl
 obtain⟨xs,Qy,RN,Ar⟩:=s
 have CD:xs.length=l.length:=by rw[←Qy,List.length_map]
 refine X0 (E:=148) (n:=14) (bytes:=128) (k:=1) bN Tryz.underlying95 mh bQ rfl xo RN d src (by rw[YY,List.all_eq_true];intro x hx;simp at hx;rcases hx with rfl|rfl|rfl|rfl|rfl|rfl|rfl|rfl|rfl|rfl|rfl|rfl|rfl|rfl<;>first|rfl|exact Xj) (by omega) (by omega) ?_
 intro v' o' h' w' k _
 obtain⟨p',c',rfl,_⟩:=w'.isSlice
 rw[CD]
 refine H p' c' o' h' ⟨xs++[(x,w)],by rw[List.map_append,Qy];rfl,?_,fun y hy=>?_⟩ k
 ·rw[Ye,Ud,List.length_append,←CD]
  exact w'
 ·rcases List.mem_append.1 hy with hy|hy
  ·exact (Ar y hy).Zc k
  ·have:y=(x,w):=by simpa using hy
   subst this
   exact iv.Zc k
theorem VR {o:Ow} {t:Tg} {h:Hp} {v:Value} {l:List Y3} (s:QO o t h v l):∃p c,v=.slice p l.length c∧l.length≤c:=by
 obtain⟨xs,h1,h2,_⟩:=s
 obtain⟨p,c,h3,h4⟩:=h2.isSlice
 rw[←h1,List.length_map]
 exact⟨p,c,h3,h4⟩
set_option maxHeartbeats 4000000 in
theorem Fy (T:World) (h:Hp) (o:Ow) (wb:Nat) (Z8:Nat→Nat) (YH:WA) (w:Wd) (l:Y3) (v:Value) (d:Uq o h) (A:Jf o h wb Z8 YH w) (iv:Wm o h v l.vs) (yi:0≤l.to∧l.to<5)
  (RC:∀i,i<5→(w.nodes i).inbox.length≤1000000000000) :
  Zd Tryz.prog T 59 #[Zo wb,.agg (YY l v).toArray] h fun v' h'=>∃o',Kp Zf4 o h o' h'∧Jf o' h' wb Z8 YH (Ue w l):=by
 obtain⟨pw,cw,rfl⟩:=iv.isSlice
 obtain⟨j,hj⟩:∃j:Nat,(j:Int)=l.to:=⟨l.to.toNat,by omega⟩
 have hj5:j<5:=by omega
 have hjn:l.to.toNat=j:=by omega
 refine Zd.Zj (args:=[_,_]) Tryz.func59 rfl rfl rfl rfl ?_
 unfold Zo YY
 obtain⟨h1,YD⟩:=Zy (h.push (.cells (YY l (.slice pw l.vs.length cw)).toArray 148):Hp)
 have k1:Kp Qz o h o h1:=by rw[YD];exact ZX d _
 have x3:ZN o h1 h.size (.cells (YY l (.slice pw l.vs.length cw)).toArray 148):=⟨d _ (Nat.le_refl _),by rw[YD];exact Zb⟩
 have e0:=YD.symm
 unfold YY at e0
 have A1:=A.still k1
 have R1:=YZ A1.wd.ZF.2
 obtain⟨b,off,c,hn,hc5,hb,OJ⟩:=Wi A1.wd
 have Rn:=R1.nodes
 rw[hn]at Rn
 have Fu:=Za A1.wd.ZF.2
 have r3:hc h1 ⟨h.size,2,none⟩=some (.int .i64 j):=by rw[hj];exact Zh x3.2
 have l3:=Za x3.2
 have rj:=OJ j hj5
 unfold Zo at rj
 have ZoU:(j:Int)<5:=by omega
 simp -implicitDefEqProofs only[go_sem,↓reduceIte,e0]
 refine VS.mono (N:=fun F' g'=>Zg h1.size h1 g'∧F' 3=.pointer (some ⟨h.size,0,none⟩)∧F' 4=.pointer (some ⟨Z8 j,0,none⟩)) ?_ ?_ (fun _ _ _ h=>h) (fun _ _ h=>h)
 ·refine VS.z (h1.size) [] (.p 0 (.p 1 (.p 2 (.q 3 (.p 4 (.q 5 (.p 6 (.q 7 (.p 8 .nil))))))))) mixed (by kernel_rfl) ?_
  simp -implicitDefEqProofs only[go_sem,↓reduceIte,Rn,r3,Fu,l3,hb,ZoU,rj]
  try exact Zg.refl _ _
 rintro F1 g1 ⟨b1,f3,f4⟩
 have kb:=ZC k1.ZW b1
 have A2:=A1.still kb
 have K2:=k1.trans kb
 have y3:=x3.Zc kb
 obtain⟨a,N2⟩:=A2.nd j hj5
 have P2:=Zx N2.ZF.2 N2.pt.store.len
 have di:=P2.up
 have Wo:=Za N2.ZF.2
 unfold Ue
 rw[hjn]
 cases hu:(w.nodes j).up with
 | false=>
  rw[hu]at di
  rw[if_neg (by simp)]
  simp -implicitDefEqProofs only[go_sem,↓reduceIte,f4,di]
  exact⟨o,ZE K2,A2⟩
 | true=>
  rw[hu]at di
  rw[if_pos rfl]
  obtain⟨pi,ci,hi,_⟩:=VR N2.pt.inbox
  have P2i:=P2.inbox
  rw[hi]at P2i
  have r3:rd g1 ⟨h.size,0,none⟩ 14=some (YY l (.slice pw l.vs.length cw)):=Zp y3.2 rfl
  unfold YY at r3
  have l3:=Za y3.2
  simp -implicitDefEqProofs only[go_sem,↓reduceIte,f4,di]
  refine VS.z (g1.size) [7,10] (.p 0 (.p 1 (.p 2 (.p 3 (.q 4 (.q 5 (.s 6 (.w 7 (.p 8 (.p 9 (.w 10 .nil))))))))))) mixed (by kernel_rfl) ?_
  simp -implicitDefEqProofs only[go_sem,↓reduceIte,f3,f4,P2i,r3,Wo,l3]
  obtain⟨g2,QL⟩:=Zy (g1.push (.cells (YY l (.slice pw l.vs.length cw)).toArray 148):Hp)
  have k2:Kp Qz o g1 o g2:=by rw[QL];exact ZX K2.ZW _
  have e2:=QL.symm
  unfold YY at e2
  rw[e2]
  have N3:=N2.still k2
  have A3:=A2.still k2
  have K3:=K2.trans k2
  have LI:=N3.pt.inbox
  rw[hi]at LI
  refine iz LI K3.ZW ((iv.Zc K2).Zc k2) (by rw[QL];exact Zb) (RC j hj5) ?_
  intro p3 c3 o3 g3 L3 k3
  have k3:Kp (fun t=>t=.inbox j) o g2 o3 g3:=k3
  have N4:=ZU.gS N3.pt k3 L3
  have B4:=N3.ZF.Zc k3 (by intro e;cases e)
  have W4:=A3.wd.Zc k3 (by rintro t rfl;simp[Tg.of])
  obtain⟨g5,w5,N5,k5⟩:=ZU.write N4 k3.ZW B4 ((YT B4.2 N3.pt.store.len).inbox (.slice p3 ((w.nodes j).inbox.length+1) c3) rfl)
  have MF:=Za B4.2
  simp -implicitDefEqProofs only[go_sem,↓reduceIte,w5,MF]
  have W5:=W4.Zc k5 (by rintro t rfl;simp[Tg.of])
  have kk:Kp (fun t=>t.of=some j) o g2 o3 g5:=(k3.mono fun t q=>by rw[q];rfl).trans (k5.mono fun t q=>by rw[q];rfl)
  exact⟨o3,(ZE K3).trans (kk.mono fun t q=>⟨j,q⟩),A3.Xk (kk.mono fun t q=>.inr (.inr (.inr q))) N5 W5⟩
theorem dj {o:Ow} {t:Tg} {h:Hp} {v:Value} {l:List Y3} (s:QO o t h v l) (k:Nat) (hk:k<l.length) :
  ∃w b off c,v=.slice (some ⟨b,off,none⟩) l.length c∧l.length≤c∧b<h.size∧rd h ⟨b,off+k*14,none⟩ 14=some (YY l[k] w)∧Wm o h w l[k].vs:=by
 obtain⟨xs,rfl,h2,h3⟩:=s
 rw[List.length_map]at hk
 rcases h2 with⟨_,e,_⟩|⟨b,off,cap,pre,spare,g1,rfl,g3,g4,g5,g6,g7⟩
 ·omega
 refine⟨xs[k].2,b,off,cap,by rw[List.length_map],by rw[List.length_map];exact g7,Za g3,?_,?_⟩
 ·have hlen:∀x,(Mk x).length=14:=fun x=>rfl
  have hle:k*14+14≤xs.length*14:=by omega
  rw[Z5 g3 (by simp only[List.length_append];omega),←g4,List.drop_append,List.drop_of_length_le (by omega),List.nil_append,Nat.add_sub_cancel_left]
  rw[List.drop_append_of_le_length (by omega),List.take_append_of_le_length (by rw[List.length_drop];omega)]
  rw[VQ hlen xs k (by omega),List.drop_eq_getElem_cons hk]
  have e1:Zz Mk (xs[k] :: xs.drop (k+1))=YY xs[k].1 xs[k].2++Zz Mk (xs.drop (k+1)):=by simp[Zz,Mk]
  rw[e1,List.getElem_map]
  rfl
 ·rw[List.getElem_map]
  exact h3 _ (List.getElem_mem hk)
theorem iA {o':Ow} {t:Tg} {h':Hp} {xs:List (Y3 × Value)} {v:Value} {k:Nat} (hk:k<xs.length) (h2:YB o' t 148 14 h' v (xs.length-1) ((Zz Mk xs).take (k*14)++(Zz Mk xs).drop ((k+1)*14))) (h3:∀x∈xs,Wm o' h' x.2 x.1.vs) :
  QO o' t h' v ((xs.map (·.1)).eraseIdx k):=by
 have hlen:∀x,(Mk x).length=14:=fun x=>rfl
 have el:(xs.eraseIdx k).length=xs.length-1:=by rw[List.length_eraseIdx_of_lt hk]
 refine⟨xs.eraseIdx k,?_,?_,fun x hx=>h3 x (List.mem_of_mem_eraseIdx hx)⟩
 ·rw[List.eraseIdx_eq_take_drop_succ,List.eraseIdx_eq_take_drop_succ,List.map_append,List.map_take,List.map_drop]
 ·rw[el]
  have e1:Zz Mk (xs.eraseIdx k)=(Zz Mk xs).take (k*14)++(Zz Mk xs).drop ((k+1)*14):=by
   rw[SV hlen xs k (by omega),VQ hlen xs (k+1) (by omega),←Ye,List.eraseIdx_eq_take_drop_succ]
  rw[e1]
  exact h2
theorem ZG.H4 {o o1:Ow} {h h1:Hp} {wb:Nat} {nb:Nat→Nat} {a:WA} {fl fl':List Y3} {bad:Nat→Int} {told:List S9} {v:Value} (W:ZG o h wb nb a fl bad told) (k:Kp (fun t=>t=.Zm) o h o1 h1)
  (hv:QO o1 .Zm h1 v fl') {e:Option Hp} (w:e=some (h1.setIfInBounds wb (.cells (Xd bad { a with Zm:=v }).toArray 97))) :
  ∃g,e=some g∧ZG o1 g wb nb { a with Zm:=v } fl' bad told∧Kp (fun t=>t=.world) o1 h1 o1 g:=by
 have b:=W.ZF.Zc k (by intro e;cases e)
 have kk:Kp (fun t=>t=.world) o1 h1 o1 (h1.setIfInBounds wb (.cells (Xd bad { a with Zm:=v }).toArray 97)):=(Kp.refl k.ZW (fun t=>t=.world)).set b.1 rfl _
 exact⟨_,w,⟨⟨b.1,Zv b.2⟩,(W.nodes.Zc k (by intro e;cases e)).Zc kk (by intro e;cases e),hv.Zc kk (by intro e;cases e),(W.told.Zc k (by intro e;cases e)).Zc kk (by intro e;cases e)⟩,kk⟩
theorem Jf.vm {S:Tg→Prop} {o o':Ow} {h h':Hp} {wb:Nat} {Z8:Nat→Nat} {YH qQ:WA} {w:Wd} {fl:List Y3} {bad:Nat→Int} {told:List S9} (A:Jf o h wb Z8 YH w) (k:Kp S o h o' h') (hn:∀t,S t→t.of=none) (W:ZG o' h' wb Z8 qQ fl bad told) :
  Jf o' h' wb Z8 qQ { w with Zm:=fl,bad:=bad,told:=told }:=
 ⟨W,fun i hi=>by obtain⟨a,N⟩:=A.nd i hi;exact⟨a,N.Zc k fun t q e=>by rw[hn t q]at e;cases e⟩⟩
theorem vo {o:Ow} {h:Hp}:∀(xs:List (Y3 × Value)),(∀x∈xs,Wm o h x.2 x.1.vs)→(Zz Mk xs).all Z7=true:=by
 intro xs
 induction xs with
 | nil=>intro _;rfl
 | cons x xs ih=>
  intro hx
  have e1:Zz Mk (x :: xs)=Mk x++Zz Mk xs:=by simp[Zz]
  obtain⟨p,c,hw⟩:=(hx x (by simp)).isSlice
  rw[e1,List.all_append,ih (fun y hy=>hx y (by simp[hy])),Bool.and_true]
  unfold Mk
  rw[hw];rfl
set_option maxHeartbeats 4000000 in
theorem pB (T:World) (h:Hp) (o:Ow) (wb:Nat) (Z8:Nat→Nat) (YH:WA) (w:Wd) (at':Nat) (comes stays:Bool) (d:Uq o h) (A:Jf o h wb Z8 YH w) (yi:∀l∈w.Zm,0≤l.to∧l.to<5)
  (ue:w.Zm.length≤1000000000000) (RC:∀i,i<5→(w.nodes i).inbox.length≤1000000000000) :
  Zd Tryz.prog T 58 #[Zo wb,.int .i64 at',.bool comes,.bool stays] h fun v' h'=>∃o' Xu,Kp Vn o h o' h'∧Jf o' h' wb Z8 Xu (pick w at' comes stays):=by
 refine Zd.Zj (args:=[_,_,_,_]) Tryz.func58 rfl rfl rfl rfl ?_
 unfold Zo
 have R:=YZ A.wd.ZF.2
 have Rf:=R.Zm
 have Fu:=Za A.wd.ZF.2
 obtain⟨pf,cf,hf,hfc⟩:=VR A.wd.Zm
 rw[hf]at Rf
 by_cases hz:w.Zm.length=0
 ·have hp:pick w at' comes stays=w:=by
   unfold pick
   rw[List.getElem?_eq_none (by rw[hz];exact Nat.zero_le _)]
  rw[hp]
  have FX:(w.Zm.length:Int)=0:=by omega
  simp -implicitDefEqProofs only[go_sem,↓reduceIte,Rf,FX]
  exact⟨o,YH,Kp.refl d _,A⟩
 have FX:¬(w.Zm.length:Int)=0:=by omega
 obtain⟨k,hk⟩:=Zy (at'%w.Zm.length)
 have Dv:k<w.Zm.length:=by rw[hk];exact Nat.mod_lt _ (by omega)
 have ek:(at':Int).tmod (w.Zm.length:Int)=(k:Int):=by rw[hk];rfl
 have av:(k:Int)<w.Zm.length:=by omega
 obtain⟨v,b,off,c,hv,hvc,hb,OJ,iv⟩:=dj A.wd.Zm k Dv
 rw[hf]at hv
 simp only[Value.slice.injEq]at hv
 obtain⟨rfl,_,rfl⟩:=hv
 obtain⟨l,hl⟩:=Zy (w.Zm[k])
 rw[←hl]at OJ iv
 have iq:l∈w.Zm:=by rw[hl];exact List.getElem_mem Dv
 obtain⟨pw,cw,rfl⟩:=iv.isSlice
 obtain⟨h1,YD⟩:=Zy (h.push (.cells (YY l (.slice pw l.vs.length cw)).toArray 148):Hp)
 have k1:Kp Qz o h o h1:=by rw[YD];exact ZX d _
 have x9:ZN o h1 h.size (.cells (YY l (.slice pw l.vs.length cw)).toArray 148):=⟨d _ (Nat.le_refl _),by rw[YD];exact Zb⟩
 have e0:=YD.symm
 unfold YY at e0 OJ
 have A1:=A.still k1
 have R1:=YZ A1.wd.ZF.2
 have R1f:=R1.Zm
 rw[hf]at R1f
 have Za9:=Za A1.wd.ZF.2
 have r9:rd h1 ⟨h.size,0,none⟩ 14=some (YY l (.slice pw l.vs.length cw)):=Zp x9.2 rfl
 unfold YY at r9
 have eg:w.Zm[at'%w.Zm.length]? = some l:=by rw[←hk,hl];exact List.getElem?_eq_getElem Dv
 have ep:pick w at' comes stays=if comes=true then Ue (if stays=true then w else { w with Zm:=w.Zm.eraseIdx k }) l else (if stays=true then w else { w with Zm:=w.Zm.eraseIdx k }):=by
  unfold pick;rw[eg,hk]
 rw[ep]
 cases stays with
 | true=>
  rw[if_pos rfl]
  cases comes with
  | false=>
   rw[if_neg (by simp)]
   simp -implicitDefEqProofs only[go_sem,↓reduceIte,Rf,FX,ek,av,OJ,e0]
   exact⟨o,YH,Yc k1,A1⟩
  | true=>
   rw[if_pos rfl]
   have cc:=Fy T h1 o wb Z8 YH w l (.slice pw l.vs.length cw) k1.ZW A1 (iv.Zc k1) (yi l iq) RC
   unfold Zo YY at cc
   simp -implicitDefEqProofs only[go_sem,↓reduceIte,Rf,FX,ek,av,OJ,e0,r9]
   refine cc.use ?_
   rintro v' g ⟨o',kk,A'⟩
   simp -implicitDefEqProofs only[go_sem,↓reduceIte]
   exact⟨o',YH,(Yc k1).trans (Yc kk),A'⟩
 | false=>
  rw[if_neg (show ¬(false=true) by simp)]
  obtain⟨xs,Qy,RN,Ar⟩:=A1.wd.Zm
  have CD:xs.length=w.Zm.length:=by rw[←Qy,List.length_map]
  have cd:=DP T h1 o .Zm YH.Zm xs.length k (Zz Mk xs) RN k1.ZW (vo xs Ar) (by omega) (by omega)
  rw[hf]at cd
  have ek2:(k:Int)+1=((k:Int)+1):=rfl
  simp -implicitDefEqProofs only[go_sem,↓reduceIte,Rf,FX,ek,av,OJ,e0,R1f]
  refine cd.use ?_
  rintro v2 g2 ⟨L2,k2⟩
  have k2:Kp (fun t=>t=.Zm) o h1 o g2:=k2
  have L3:QO o .Zm g2 v2 (w.Zm.eraseIdx k):=by
   rw[←Qy]
   exact iA (by omega) L2 (fun x hx=>(Ar x hx).Zc k2)
  have B2:=A1.wd.ZF.Zc k2 (by intro e;cases e)
  obtain⟨p2,c2,rfl,_⟩:=VR L3
  obtain⟨g3,w3,W3,k3⟩:=A1.wd.H4 k2 L3 ((YZ B2.2).Ft (.slice p2 (w.Zm.eraseIdx k).length c2) rfl)
  have A3:Jf o g3 wb Z8 { YH with Zm:=.slice p2 (w.Zm.eraseIdx k).length c2 } { w with Zm:=w.Zm.eraseIdx k }:=
   A1.vm (S:=fun t=>t=.Zm∨t=.world) ((k2.mono fun t q=>.inl q).trans (k3.mono fun t q=>.inr q)) (by rintro t (rfl|rfl)<;>rfl) W3
  have Zba:=Za B2.2
  have y9:=(x9.Zc k2).Zc k3
  have r9:rd g3 ⟨h.size,0,none⟩ 14=some (YY l (.slice pw l.vs.length cw)):=Zp y9.2 rfl
  unfold YY at r9
  have K3:Kp Vn o h o g3:=((Yc k1).trans (Yc k2)).trans (Yc k3)
  cases comes with
  | false=>
   rw[if_neg (show ¬(false=true) by simp)]
   simp -implicitDefEqProofs only[go_sem,↓reduceIte,w3,Zba]
   exact⟨o,_,K3,A3⟩
  | true=>
   rw[if_pos rfl]
   have cc:=Fy T g3 o wb Z8 _ _ l (.slice pw l.vs.length cw) k3.ZW A3 (((iv.Zc k1).Zc k2).Zc k3) (yi l iq) RC
   unfold Zo YY at cc
   simp -implicitDefEqProofs only[go_sem,↓reduceIte,w3,Zba,r9]
   refine cc.use ?_
   rintro v' g ⟨o',kk,A'⟩
   simp -implicitDefEqProofs only[go_sem,↓reduceIte]
   exact⟨o',_,K3.trans (Yc kk),A'⟩
theorem vq (rc:List Nat) (now:Int):Fp rc now=(XX rc now).C:=by
 unfold Fp XX
 split<;>rfl
theorem Zbb {h:Hp} {wb:Nat} {bad:Nat→Int} {a:WA} (H:h[wb]? = some (.cells (Xd bad a).toArray 97)) (i:Nat) (hi:i<5) :
  hc h ⟨wb,9+i,none⟩=some (.int .i64 (bad i))∧∀k,Jx h ⟨wb,9+i,none⟩ (.int .i64 k)=some (h.setIfInBounds wb (.cells (Xd (fun j=>if j=i then k else bad j) a).toArray 97)):=by
 match i,hi with
 | 0,_=>exact⟨Zh H,fun k=>by rw[Yz H,if_pos ⟨by simp[Xd],rfl⟩];rfl⟩
 | 1,_=>exact⟨Zh H,fun k=>by rw[Yz H,if_pos ⟨by simp[Xd],rfl⟩];rfl⟩
 | 2,_=>exact⟨Zh H,fun k=>by rw[Yz H,if_pos ⟨by simp[Xd],rfl⟩];rfl⟩
 | 3,_=>exact⟨Zh H,fun k=>by rw[Yz H,if_pos ⟨by simp[Xd],rfl⟩];rfl⟩
 | 4,_=>exact⟨Zh H,fun k=>by rw[Yz H,if_pos ⟨by simp[Xd],rfl⟩];rfl⟩
theorem pC {i:Nat} (t:Tg) (q:ZaU i t):XC i t:=by
 rcases q with rfl|rfl<;>exact .inr (.inr (.inr rfl))
theorem add_same (n:Nd) (x:Cm):(add n x).waiting=n.waiting∧(add n x).me=n.me:=by
 unfold add;split<;>exact⟨rfl,rfl⟩
set_option maxHeartbeats 4000000 in
theorem iB (T:World) (h:Hp) (o:Ow) (wb:Nat) (Z8:Nat→Nat) (YH:WA) (w:Wd) (i:Nat) (rc:List Nat) (v:Value) (d:Uq o h) (A:Jf o h wb Z8 YH w) (hi:i<5) (IS:(w.nodes i).me=i) (iv:Tv o h v rc) (QB:Ta v) (qE:rc.length≤140737488355328) (tb:CI o h)
  (hq:(w.nodes i).queue.length≤1000000000000) (hl:(w.nodes i).log.length≤1000000000000) (Ld:(w.nodes i).waiting.length≤1000000000000) (ht:w.told.length≤1000000000000) (hb:0≤w.bad i∧w.bad i≤1000000000000) :
  Zd Tryz.prog T 55 #[Zo wb,Zo (Z8 i),v] h fun v' h'=>∃o' Xu,Kp Vn o h o' h'∧Jf o' h' wb Z8 Xu (Tt w i rc):=by
 obtain⟨pv,cv,rfl⟩:=iv.1.isSlice
 refine Zd.Zj (args:=[_,_,_]) Tryz.func55 rfl rfl rfl rfl ?_
 unfold Zo
 obtain⟨a,N⟩:=A.nd i hi
 obtain⟨n,hn⟩:=Zy (w.nodes i)
 unfold Tt
 rw[←hn]at N IS hq hl Ld ⊢
 have P:=Zx N.ZF.2 N.pt.store.len
 have Wo:=Za N.ZF.2
 have Pu:=P.up
 cases hu:n.up with
 | false=>
  rw[hu]at Pu
  rw[if_neg (by simp)]
  simp -implicitDefEqProofs only[go_sem,↓reduceIte,Pu]
  exact⟨o,YH,Kp.refl d _,A⟩
 | true=>
 rw[hu]at Pu
 rw[if_pos rfl]
 have Pl:=P.log
 obtain⟨pl,cl,Ll,_⟩:=YB.isSlice N.pt.log
 have Ll:a.log=.slice pl n.log.length cl:=Ll
 rw[Ll]at Pl
 obtain⟨E,hE⟩:=Zy (Yo rc n.log.length)
 obtain⟨x,hx⟩:=Zy (XX rc n.log.length)
 have co:=DL T h (.slice pv rc.length cv) rc n.log.length iv.bs QB qE tb.tk tb.tn
 rw[vq,←hE,←hx]at co
 rw[←hE,←hx]
 simp -implicitDefEqProofs only[go_sem,↓reduceIte,Pu,Pl]
 refine co.use ?_
 rintro _ g ⟨rfl,b⟩
 have kb:=ZC d b
 obtain⟨g1,OP⟩:=Zy (g.push (.cells x.C.toArray 49):Hp)
 have e1:=OP.symm
 have k1:Kp Qz o h o g1:=by rw[OP];exact kb.push _
 have x6:ZN o g1 g.size (.cells x.C.toArray 49):=⟨kb.ZW _ (Nat.le_refl _),by rw[OP];exact Zb⟩
 have A1:=A.still k1
 have N1:=N.still k1
 have P1:=Zx N1.ZF.2 N1.pt.store.len
 have Zbc:=P1.me
 rw[IS]at Zbc
 have JN:=Za N1.ZF.2
 have Za9:=Za A1.wd.ZF.2
 obtain⟨br,bw⟩:=Zbb A1.wd.ZF.2 i hi
 have r6:rd g1 ⟨g.size,0,none⟩ 5=some x.C:=Zp x6.2 rfl
 have l6:=Za x6.2
 have cF:(i:Int)<5:=by omega
 by_cases hz:E=0
 case neg=>
  rw[if_pos (by simpa using hz)]
  simp -implicitDefEqProofs only[go_sem,↓reduceIte,e1,hz]
  refine VS.z (g1.size) [15] (.p 0 (.p 1 (.p 2 (.p 3 (.q 4 (.p 5 (.p 6 (.p 7 (.p 8 (.q 9 (.p 10 (.p 11 (.p 12 (.p 13 (.p 14 (.w 15 .nil)))))))))))))))) mixed (by kernel_rfl) ?_
  simp -implicitDefEqProofs only[go_sem,↓reduceIte,Zbc,JN,Za9,cF,br,bw]
  have kk:Kp (fun t=>t=.world) o g1 o (g1.setIfInBounds wb (.cells (Xd (fun j=>if j=i then w.bad i+1 else w.bad j) YH).toArray 97)):=(Kp.refl k1.ZW (fun t=>t=.world)).set A1.wd.ZF.1 rfl _
  exact⟨o,YH,(Yc k1).trans (Yc kk),A1.vm kk (by rintro t rfl;rfl) ⟨⟨A1.wd.ZF.1,Zv A1.wd.ZF.2⟩,A1.wd.nodes.Zc kk (by intro e;cases e),A1.wd.Zm.Zc kk (by intro e;cases e),A1.wd.told.Zc kk (by intro e;cases e)⟩⟩
 rw[if_neg (by simpa using hz)]
 have P1l:hc g1 ⟨Z8 i,11,none⟩=some a.log:=P1.log
 simp -implicitDefEqProofs only[go_sem,↓reduceIte,e1,hz]
 obtain⟨J,hJ⟩:=Zy (VP n.log x)
 refine VS.mono (N:=fun F' g'=>Zg g1.size g1 g'∧F' 0=.pointer (some ⟨wb,0,none⟩)∧F' 1=.pointer (some ⟨Z8 i,0,none⟩)∧F' 6=.pointer (some ⟨g.size,0,none⟩)∧F' 8=.int .i64 J) ?_ ?_ (fun _ _ _ h=>h) (fun _ _ h=>h)
 ·refine VS.z (g1.size) [5] (.p 0 (.p 1 (.p 2 (.q 3 (.q 4 (.w 5 (.p 6 .nil))))))) mixed (by kernel_rfl) ?_
  simp -implicitDefEqProofs only[go_sem,↓reduceIte,P1l,r6,JN,l6]
  refine (Ky T g1 _ n.log x N1.pt.log.ts (by omega)).use ?_
  rintro _ g2 ⟨rfl,b2⟩
  simp -implicitDefEqProofs only[go_sem,↓reduceIte,b2,hJ]
 rintro F2 g2 ⟨b2,f0,f1,f6,f8⟩
 have Ra:=ZC k1.ZW b2
 have A2:=A1.still Ra
 have N2:=N1.still Ra
 have y6:=x6.Zc Ra
 have K2:Kp Qz o h o g2:=k1.trans Ra
 have P2:=Zx N2.ZF.2 N2.pt.store.len
 have iy:=P2.me
 rw[IS]at iy
 have JR:=Za N2.ZF.2
 have Zba:=Za A2.wd.ZF.2
 have r62:rd g2 ⟨g.size,0,none⟩ 5=some x.C:=Zp y6.2 rfl
 have l62:=Za y6.2
 clear r6 l6 JN Za9 br bw P1 Zbc P1l e1
 by_cases hm:x∈n.log
 ·have hJ0:0≤J:=by rw[hJ];exact (OG _ _).2 hm
  rw[if_pos hm]
  have call:=fun G=>cW T G n.store N2.pt.store x
  have P2s:rd g2 ⟨Z8 i,12,none⟩ 40=some n.store:=P2.store
  obtain⟨D,hDe⟩:=Zy (Fq n.store x)
  obtain⟨E2,hO⟩:=Zy (Oz n.store x)
  obtain⟨c1,UF⟩:=Zy (RV n.store x)
  obtain⟨c2,Ha⟩:=Zy (Kt n.store x)
  have hD:=N2.pt.store.do x
  rw[←hDe]at hD
  rw[←hDe,←hO,←UF,←Ha]at call
  rw[←UF,←Ha]
  have Mo:=hD.len
  have CJ:=hD.one
  unfold WU at call
  have Gi:=ZP (zs:=JH) (vs:=D) (by rw[Mo];rfl)
  unfold JH at Gi
  simp only[rep,List.cons_append,List.nil_append]at Gi
  have wA:∀(G:Hp) (k:Nat),G[k]? = some (.cells JH.toArray 62)→wr G ⟨k,0,none⟩ D=some (G.setIfInBounds k (.cells D.toArray 62)):=fun G k hx=>by
   rw[ZS hx 0 D,ZP (by rw[Mo];rfl),if_pos ⟨by rw[Mo];simp[JH,rep],CJ⟩]
  have wB:∀(G:Hp) (k:Nat),G[k]? = some (.cells [.int .i64 0,.int .i64 0].toArray 40)→wr G ⟨k,0,none⟩ [.int .i64 c1,.int .i64 c2]=some (G.setIfInBounds k (.cells [.int .i64 c1,.int .i64 c2].toArray 40)):=fun G k hx=>by
   rw[ZS hx 0 _];rfl
  have gl:∀(G:Hp) (X Y:Obj),((G.push X).push Y)[G.size]? = some X:=fun G X Y=>by rw[Zr (by simp),Zb]
  have gs:∀(G:Hp) (k:Nat) (X Y:Obj),((G.setIfInBounds k X).push Y)[G.size]? = some Y:=fun G k X Y=>by
   have:=Zb (h:=G.setIfInBounds k X) (o:=Y);rwa [Array.size_setIfInBounds]at this
  have gl':=gs
  have gr:∀(G:Hp) (X Y:Obj),((G.push X).push Y)[G.size+1]? = some Y:=fun G X Y=>by
   have:=Zb (h:=G.push X) (o:=Y);rwa [Array.size_push]at this
  simp -implicitDefEqProofs only[go_sem,↓reduceIte,f8,hJ0]
  refine VS.mono (N:=fun F' g'=>Zg g2.size g2 g'∧F' 0=.pointer (some ⟨wb,0,none⟩)∧F' 1=.pointer (some ⟨Z8 i,0,none⟩)∧F' 6=.pointer (some ⟨g.size,0,none⟩)∧∃B,F' 10=.pointer (some ⟨B,0,none⟩)∧g2.size≤B∧g'[B]? = some (.cells [.int .i64 c1,.int .i64 c2].toArray 40)) ?_ ?_ (fun _ _ _ h=>h) (fun _ _ h=>h)
  ·refine VS.z (g2.size) [5,12,13] (.p 0 (.p 1 (.p 2 (.q 3 (.q 4 (.or 5 (.p 6 (.p 7 (.p 8 (.p 9 (.or 10 (.s 11 (.w 12 (.w 13 (.p 14 .nil)))) (.s 11 (.s 10 (.w 12 (.w 13 (.p 14 .nil)))))))))) (.or 10 (.or 5 (.p 6 (.p 7 (.p 8 (.p 9 (.s 11 (.w 12 (.w 13 (.p 14 .nil)))))))) (.s 11 (.w 5 (.p 6 (.p 7 (.p 8 (.p 9 (.w 12 (.w 13 (.p 14 .nil)))))))))) (.s 11 (.or 5 (.p 6 (.p 7 (.p 8 (.p 9 (.s 10 (.w 12 (.w 13 (.p 14 .nil)))))))) (.s 10 (.w 5 (.p 6 (.p 7 (.p 8 (.p 9 (.w 12 (.w 13 (.p 14 .nil)))))))))))))))))) mixed (by kernel_rfl) ?_
   simp -implicitDefEqProofs only[go_sem,↓reduceIte,f0,f1,f6,P2s,JR,l62,r62]
   repeat' (first|with_reducible exact Zg.refl _ _|with_reducible exact Zg.push (by omega) _|with_reducible refine And.intro ?_ ?_)
   all_goals first
    | (refine (call g2).use ?_
       rintro _ g5 ⟨rfl,b5⟩
       have s5:=b5.size
       simp -implicitDefEqProofs only[go_sem,↓reduceIte,b5,Mo,CJ,Gi]
       refine⟨⟨f0,f1,f6,_,rfl,by omega,gr _ _ _⟩,⟨f0,f1,f6,_,rfl,s5,gl _ _ _⟩⟩)
    | (refine (call (g2.push (.cells _ 62))).use ?_
       rintro _ g5 ⟨rfl,b5⟩
       have s5:=b5.size
       rw[Array.size_push]at s5
       have B5:Zg g2.size g2 g5:=(Zg.push (Nat.le_refl _) _).trans (b5.mono (by simp))
       have xA:=b5.get (k:=g2.size) (by simp) Zb
       have TD:=wA _ _ xA
       have zA:=Za xA
       simp -implicitDefEqProofs only[go_sem,↓reduceIte,B5,Mo,CJ,TD,zA]
       exact⟨f0,f1,f6,_,rfl,by omega,gs _ _ _ _⟩)
    | (refine (call (g2.push (.cells _ 40))).use ?_
       rintro _ g5 ⟨rfl,b5⟩
       have s5:=b5.size
       rw[Array.size_push]at s5
       have B5:Zg g2.size g2 g5:=(Zg.push (Nat.le_refl _) _).trans (b5.mono (by simp))
       have xB:=b5.get (k:=g2.size) (by simp) Zb
       have KC:=wB _ _ xB
       have zB:=Za xB
       have gB:=Zv (o:=.cells [.int .i64 c1,.int .i64 c2].toArray 40) xB
       simp -implicitDefEqProofs only[go_sem,↓reduceIte,B5,Mo,CJ,KC,Gi,zB]
       exact⟨f0,f1,f6,_,rfl,Nat.le_refl _,by rw[Zr (by simpa using zB)];exact gB⟩)
    | (refine (call ((g2.push (.cells _ 62)).push (.cells _ 40))).use ?_
       rintro _ g5 ⟨rfl,b5⟩
       have s5:=b5.size
       rw[Array.size_push,Array.size_push]at s5
       have B5:Zg g2.size g2 g5:=((Zg.push (Nat.le_refl _) _).Yh (by simp) _).trans (b5.mono (by simp;omega))
       have xA:=b5.get (k:=g2.size) (by simp;omega) (gl _ _ _)
       have xB:=b5.get (k:=g2.size+1) (by simp) (gr _ _ _)
       have TD:=wA _ _ xA
       have zA:=Za xA
       have Np:=(Yi (o:=.cells D.toArray 62) (show g2.size≠g2.size+1 by omega)).trans xB
       have KC:=wB _ _ Np
       have zB:=Za Np
       simp -implicitDefEqProofs only[go_sem,↓reduceIte,B5,Mo,CJ,TD,zA,KC,zB]
       exact⟨f0,f1,f6,_,rfl,by omega,Zv Np⟩)
    | (refine (call ((g2.push (.cells _ 40)).push (.cells _ 62))).use ?_
       rintro _ g5 ⟨rfl,b5⟩
       have s5:=b5.size
       rw[Array.size_push,Array.size_push]at s5
       have B5:Zg g2.size g2 g5:=((Zg.push (Nat.le_refl _) _).Yh (by simp) _).trans (b5.mono (by simp;omega))
       have xB:=b5.get (k:=g2.size) (by simp;omega) (gl _ _ _)
       have xA:=b5.get (k:=g2.size+1) (by simp) (gr _ _ _)
       have TD:=wA _ _ xA
       have zA:=Za xA
       have Np:=(Yi (o:=.cells D.toArray 62) (show g2.size+1≠g2.size by omega)).trans xB
       have KC:=wB _ _ Np
       have zB:=Za Np
       simp -implicitDefEqProofs only[go_sem,↓reduceIte,B5,Mo,CJ,TD,zA,KC,zB]
       exact⟨f0,f1,f6,_,rfl,by omega,Zv Np⟩)
  clear f0 f1 f6 f8
  rintro F5 g5 ⟨b5,f0,f1,f6,B,f10,hB,yB⟩
  have HT:=ZC K2.ZW b5
  have A5:=A2.still HT
  have N5:=N2.still HT
  have z6:=y6.Zc HT
  have K5:Kp Qz o h o g5:=K2.trans HT
  have xB:ZN o g5 B (.cells [.int .i64 c1,.int .i64 c2].toArray 40):=⟨K2.ZW _ hB,yB⟩
  have ZoW:=(Zx N5.ZF.2 N5.pt.store.len).me
  have Pa:=Za N5.ZF.2
  have U5:=YZ A5.wd.ZF.2
  have ax:=Za A5.wd.ZF.2
  have rx1:hc g5 ⟨g.size,1,none⟩=some (.int .i64 x.c):=Zh z6.2
  have rx2:hc g5 ⟨g.size,2,none⟩=some (.int .i64 x.s):=Zh z6.2
  have rB:rd g5 ⟨B,0,none⟩ 2=some [.int .i64 c1,.int .i64 c2]:=Zp yB rfl
  have zx:=Za z6.2
  have zB:=Za yB
  refine VS.z (g5.size) [17,21] (.p 0 (.p 1 (.p 2 (.p 3 (.p 4 (.q 5 (.p 6 (.p 7 (.p 8 (.q 9 (.p 10 (.q 11 (.p 12 (.q 13 (.q 14 (.p 15 (.s 16 (.w 17 (.p 18 (.p 19 (.p 20 (.w 21 .nil)))))))))))))))))))))) mixed (by kernel_rfl) ?_
  simp -implicitDefEqProofs only[go_sem,↓reduceIte,f0,f1,f6,f10,U5.told,ZoW,rx1,rx2,rB,Pa,ax,zx,zB]
  have k6:=ZX K5.ZW (.cells (Kx ⟨n.me,x.c,x.s,c1,c2⟩).toArray 42)
  have A6:=A5.still k6
  refine Mn (l:=w.told) (x:=⟨n.me,x.c,x.s,c1,c2⟩) A6.wd.told k6.ZW Zb ht ?_
  intro p7 c7 o7 g7 q7 k7
  have b7:=A6.wd.ZF.Zc k7 (by intro e;cases e)
  obtain⟨g8,w8,W8,k8⟩:=A6.wd.cX k7 q7 ((YZ b7.2).xW (.slice p7 _ c7) rfl)
  have z7:=Za b7.2
  simp -implicitDefEqProofs only[go_sem,↓reduceIte,w8,z7]
  have A8:=A6.vm (S:=fun t=>t=.told∨t=.world) ((k7.mono fun t q=>.inl q).trans (k8.mono fun t q=>.inr q)) (by rintro t (rfl|rfl)<;>rfl) W8
  exact⟨o7,_,(((Yc K5).trans (Yc k6)).trans (Yc k7)).trans (Yc k8),A8⟩
 ·have hJ0:¬0≤J:=by rw[hJ];exact fun e=>hm ((OG _ _).1 e)
  rw[if_neg hm]
  have ca:=oH T g2 o wb i (Z8 i) a n x K2.ZW N2 hq hl
  unfold Zo WU at ca
  simp -implicitDefEqProofs only[go_sem,↓reduceIte,f1,f6,f8,hJ0,r62]
  refine ca.use ?_
  rintro v3 g3 ⟨o3,a3,k3,N3⟩
  have k3a:Kp (XC i) o g2 o3 g3:=k3.mono pC
  obtain⟨aw,am⟩:=add_same n x
  obtain⟨m,tY⟩:=Zy (add n x)
  rw[←tY]at N3 aw am ⊢
  have W3:=A2.wd.Zc k3 (by rintro t (rfl|rfl)<;>simp[Tg.of])
  have z6:=y6.Zc k3
  have P3:=Zx N3.ZF.2 N3.pt.store.len
  have P3w:hc g3 ⟨Z8 i,53,none⟩=some a3.waiting:=P3.waiting
  have R7:=Za N3.ZF.2
  have r63:rd g3 ⟨g.size,0,none⟩ 5=some x.C:=Zp z6.2 rfl
  have l63:=Za z6.2
  have hmw:m.waiting.length≤1000000000000:=by rw[aw];exact Ld
  have K3:Kp Vn o h o3 g3:=(Yc K2).trans (Yc k3)
  simp -implicitDefEqProofs only[go_sem,↓reduceIte]
  refine VS.mono (N:=fun F' g'=>Zg g3.size g3 g'∧F' 1=.pointer (some ⟨Z8 i,0,none⟩)∧F' 6=.pointer (some ⟨g.size,0,none⟩)∧F' 92=.bool (!decide (x∈m.waiting))) ?_ ?_ (fun _ _ _ h=>h) (fun _ _ h=>h)
  ·refine VS.z (g3.size) [5] (.p 0 (.p 1 (.p 2 (.q 3 (.q 4 (.w 5 (.p 6 .nil))))))) mixed (by kernel_rfl) ?_
   simp -implicitDefEqProofs only[go_sem,↓reduceIte,f1,f6,P3w,r63,R7,l63]
   refine (Vk T g3 _ m.waiting x N3.pt.waiting.ts (by omega)).use ?_
   rintro _ g4 ⟨rfl,b4⟩
   simp -implicitDefEqProofs only[go_sem,↓reduceIte,b4]
   exact⟨f1,f6⟩
  clear f0 f1 f6
  rintro F4 g4 ⟨b4,f1,f6,f92⟩
  have kb4:=ZC K3.ZW b4
  have N4:=N3.still kb4
  have W4:=W3.still kb4
  have k4a:Kp (XC i) o g2 o3 g4:=k3a.trans (ZE kb4)
  have K4:Kp Vn o h o3 g4:=K3.trans (Yc kb4)
  by_cases vr:x∈m.waiting
  ·have e5:OC m x=m:=by unfold OC;rw[if_pos vr]
   rw[e5]
   simp -implicitDefEqProofs only[go_sem,↓reduceIte,f92,vr]
   exact⟨o3,_,K4,A2.Xk k4a N4 W4⟩
  ·have e5:OC m x = { m with waiting:=m.waiting++[x] }:=by unfold OC;rw[if_neg vr]
   rw[e5]
   have q6:=z6.Zc kb4
   have P4w:=(Zx N4.ZF.2 N4.pt.store.len).waiting
   obtain⟨pw,cw,hpw,_⟩:=YB.isSlice N4.pt.waiting
   have hpw:a3.waiting=.slice pw m.waiting.length cw:=hpw
   have P4w:hc g4 ⟨Z8 i,53,none⟩=some (.slice pw m.waiting.length cw):=by rw[←hpw];exact P4w
   have MF:=Za N4.ZF.2
   have r64:rd g4 ⟨g.size,0,none⟩ 5=some x.C:=Zp q6.2 rfl
   have l64:=Za q6.2
   simp -implicitDefEqProofs only[go_sem,↓reduceIte,f92,vr]
   refine VS.z (g4.size) [7,10] (.p 0 (.p 1 (.p 2 (.p 3 (.q 4 (.q 5 (.s 6 (.w 7 (.p 8 (.p 9 (.w 10 .nil))))))))))) mixed (by kernel_rfl) ?_
   simp -implicitDefEqProofs only[go_sem,↓reduceIte,f1,f6,P4w,r64,MF,l64]
   have k5:=ZX K4.ZW (.cells x.C.toArray 49)
   have N5:=N4.still k5
   have W5:=W4.still k5
   have Q5:=N5.pt.waiting
   rw[hpw]at Q5
   refine No (l:=m.waiting) Q5 k5.ZW Zb hmw ?_
   intro p6 c6 o6 g6 q7 k6
   have b6:=N5.ZF.Zc k6 (by intro e;cases e)
   obtain⟨g7,w7,N7,k7⟩:=(N5.pt.Ml k6 q7).write k6.ZW b6 ((YT b6.2 N5.pt.store.len).waiting (.slice p6 (m.waiting.length+1) c6) rfl)
   have oZ:=Za b6.2
   simp -implicitDefEqProofs only[go_sem,↓reduceIte,w7,oZ]
   have kk:Kp (XC i) o g2 o6 g7:=((k4a.trans (ZE k5)).trans (k6.mono fun t q=>.inr (.inr (.inr (by rw[q];rfl))))).trans (k7.mono fun t q=>.inr (.inr (.inr (by rw[q];rfl))))
   exact⟨o6,_,(Yc K2).trans (Yc kk),A2.Xk kk N7 ((W5.Zc k6 (by rintro t rfl;simp[Tg.of])).Zc k7 (by rintro t rfl;simp[Tg.of]))⟩
def KJ (i:Nat) (t:Tg):Prop:=t=.node i∨t=.known i
set_option maxHeartbeats 4000000 in
theorem KK (T:World) (h:Hp) (o:Ow) (wb i:Nat) (dv:Value) (ay:List Nat) (Y9:Int) (vv:Value) (Wv:Qw) (d:Uq o h) (iD:Tv o h dv ay) (iV:Wm o h vv Wv.l) :
  Zd Tryz.prog T 54 #[.int .i64 i,.agg #[dv,.int .i64 Y9],.agg #[.int .i64 Wv.p.r,.int .i64 Wv.p.n,vv]] h fun v' h'=>∃nb o' a',v'=Zo nb∧Zg h.size h h'∧Kp (KJ i) o h o' h'∧ZJ o' h' wb i nb a' (blank i true ay Y9 Wv):=by
 obtain⟨pd,cd,rfl⟩:=iD.1.isSlice
 obtain⟨pv,cv,rfl⟩:=iV.isSlice
 refine Zd.Zj (args:=[_,_,_]) Tryz.func54 rfl rfl rfl rfl ?_
 unfold Zo
 obtain⟨h1,YD⟩:=Zy ((h.push (.cells [.slice pd ay.length cd,.int .i64 Y9].toArray 100)).push (.cells [.int .i64 Wv.p.r,.int .i64 Wv.p.n,.slice pv Wv.l.length cv].toArray 105):Hp)
 have k1:Kp Qz o h o h1:=by rw[YD];exact ((Kp.refl d _).push _).push _
 have x4:ZN o h1 h.size (.cells [.slice pd ay.length cd,.int .i64 Y9].toArray 100):=⟨d _ (Nat.le_refl _),by rw[YD];exact gY _ _ _⟩
 have x5:ZN o h1 (h.size+1) (.cells [.int .i64 Wv.p.r,.int .i64 Wv.p.n,.slice pv Wv.l.length cv].toArray 105):=⟨d _ (by omega),by rw[YD];exact jI _ _ _⟩
 have e0:=YD.symm
 have r4:rd h1 ⟨h.size,0,none⟩ 2=some [.slice pd ay.length cd,.int .i64 Y9]:=Zp x4.2 rfl
 have r5:rd h1 ⟨h.size+1,0,none⟩ 3=some [.int .i64 Wv.p.r,.int .i64 Wv.p.n,.slice pv Wv.l.length cv]:=Zp x5.2 rfl
 simp -implicitDefEqProofs only[go_sem,↓reduceIte,e0,r4,r5]
 obtain⟨A,hA⟩:∃A:NA,A=⟨.slice pd ay.length cd,.slice pv Wv.l.length cv,none,h1.size,.slice none 0 0,.slice none 0 0,.slice none 0 0,.slice none 0 0,.nilFunc⟩:=⟨_,rfl⟩
 obtain⟨h2,Wl⟩:=Zy (h1.push (Xo []):Hp)
 obtain⟨h3,qL⟩:=Zy (h2.push (Xg (blank i true ay Y9 Wv) A):Hp)
 have s2:h2.size=h1.size+1:=by rw[Wl];simp
 have ee:h3=(h1.push (.map #[] 0)).push (Xg (blank i true ay Y9 Wv) A):=by rw[qL,Wl];rfl
 rw[hA]at ee
 refine⟨h1.size+1,Jz (Jz o h1.size (.known i)) (h1.size+1) (.node i),A,rfl,?_⟩
 have k2:Kp (KJ i) o h1 (Jz o h1.size (.known i)) h2:=by rw[Wl];exact ((Kp.refl k1.ZW _).push _).TY (Nat.le_refl _) (by simp) (.inr rfl)
 have k3:Kp (KJ i) o h1 (Jz (Jz o h1.size (.known i)) (h1.size+1) (.node i)) h3:=by rw[qL];exact (k2.push _).TY (by omega) (by rw[Array.size_push];omega) (.inl rfl)
 have kx:Kp (fun t=>t=.node i) (Jz o h1.size (.known i)) h2 (Jz (Jz o h1.size (.known i)) (h1.size+1) (.node i)) h3:=by rw[qL];exact ((Kp.refl k2.ZW _).push _).TY (by omega) (by rw[Array.size_push];omega) rfl
 have m2:Qq (Jz o h1.size (.known i)) (.known i) h2 h1.size (Uw WU []):=⟨Y1,by rw[Wl];exact Zb⟩
 have iD3:=(iD.Zc k1).Zc k3
 have iV3:=(iV.Zc k1).Zc k3
 have K3:Kp (KJ i) o h (Jz (Jz o h1.size (.known i)) (h1.size+1) (.node i)) h3:=(ZE k1).trans k3
 have st:OE JH:=OE.oJ (by kernel_rfl)
 show Zg h.size h ((h1.push (.map #[] 0)).push (Xg (blank i true ay Y9 Wv) ⟨.slice pd ay.length cd,.slice pv Wv.l.length cv,none,h1.size,.slice none 0 0,.slice none 0 0,.slice none 0 0,.slice none 0 0,.nilFunc⟩))∧Kp (KJ i) o h _ ((h1.push (.map #[] 0)).push (Xg (blank i true ay Y9 Wv) ⟨.slice pd ay.length cd,.slice pv Wv.l.length cv,none,h1.size,.slice none 0 0,.slice none 0 0,.slice none 0 0,.slice none 0 0,.nilFunc⟩))∧ZJ _ ((h1.push (.map #[] 0)).push (Xg (blank i true ay Y9 Wv) ⟨.slice pd ay.length cd,.slice pv Wv.l.length cv,none,h1.size,.slice none 0 0,.slice none 0 0,.slice none 0 0,.slice none 0 0,.nilFunc⟩)) wb i (h1.size+1) A (blank i true ay Y9 Wv)
 rw[←ee]
 refine⟨by rw[qL,Wl,YD];exact ((((Zg.refl _ _).add _).add _).add _).add _,K3,⟨Y1,by rw[qL,←s2];exact Zb⟩,?_⟩
 rw[hA]
 exact⟨iD3,iV3,trivial,m2.Zc kx (by intro e;cases e),YB.nil _ _ _ _ _,YB.nil _ _ _ _ _,YB.nil _ _ _ _ _,⟨[],rfl,YB.nil _ _ _ _ _,fun x hx=>by cases hx⟩,rfl,st⟩
theorem D6 {S:Tg→Prop} {o o':Ow} {h h':Hp} (k:Kp S o h o' h') {b:Nat} {t u:Tg} (hb:o' b=some t) (ht:S t) (hu:S u):Kp S o h (Jz o' b u) h':=by
 refine⟨k.size,fun c hc hn=>⟨(k.Zc c hc hn).1,?_⟩,fun c hc v hv hs=>?_,fun c hc v hv=>?_,fun c hc=>?_⟩
 ·by_cases e:c=b
  ·subst e
   have:=(k.Zc c hc hn).2
   rw[hb]at this
   exact (hn t this.symm ht).elim
  ·rw[Y7 e];exact (k.Zc c hc hn).2
 ·by_cases e:c=b
  ·subst e;exact⟨u,Y1,hu⟩
  ·rw[Y7 e];exact k.stay c hc v hv hs
 ·by_cases e:c=b
  ·subst e;rw[Y1]at hv;cases hv;exact hu
  ·rw[Y7 e]at hv;exact k.new c hc v hv
 ·by_cases e:c=b
  ·subst e;rw[k.ZW c hc]at hb;cases hb
  ·rw[Y7 e];exact k.ZW c hc
def KL (i:Nat) (t:Tg):Prop:=t=.Zi i∨t=.prom i∨t=.Xf i
theorem iC {o:Ow} {h:Hp} {wb i nb:Nat} {a:NA} {n:Nd} (d:Uq o h) (N:ZJ o h wb i nb a n) :
  ∃o',Kp (KL i) o h o' h∧ZU o' h wb i nb { a with Zi:=none } { n with Zi:=none,ZA:=Xf n.ZA }∧o' nb=some (.node i):=by
 have key:∀o',Kp (KL i) o h o' h→Up o' h wb i nb none a.ZA (Xf n.ZA)→ZU o' h wb i nb { a with Zi:=none } { n with Zi:=none,ZA:=Xf n.ZA }:=fun o' k p=>
  ⟨N.pt.data.Zc k,N.pt.YQ.Zc k,trivial,N.pt.known.Zc k (by rintro (e|e|e)<;>cases e),N.pt.log.Zc k (by rintro (e|e|e)<;>cases e),N.pt.queue.Zc k (by rintro (e|e|e)<;>cases e),N.pt.waiting.Zc k (by rintro (e|e|e)<;>cases e),N.pt.inbox.Zc k (by rintro (e|e|e)<;>cases e),p,N.pt.store⟩
 have hp:=N.pt.ZA
 have hR:=N.pt.Zi
 cases Nq:a.Zi with
 | none=>
  rw[Nq]at hp
  refine⟨o,Kp.refl d _,key o (Kp.refl d _) ?_,N.ZF.1⟩
  match hn:n.ZA,hp with
  | none,hp=>exact hp
  | some (.MD _ _ _ _),hp=>exact hp
  | some (.Mi _ _ _),hp=>exact hp
  | some (.own _ _ false),hp=>exact hp
  | some (.own _ _ true),⟨b6,b4,b7,b5,w,rb,h1,h2,h3,h4,h5,h6,a',h7,_⟩=>cases h7
 | some ra=>
  rw[Nq]at hp hR
  obtain⟨r,hr⟩:∃r,n.Zi=some r:=by
   cases hx:n.Zi with
   | none=>rw[hx]at hR;exact hR.elim
   | some r=>exact⟨r,rfl⟩
  rw[hr]at hR
  have hR:YL o i h ra r:=hR
  have Yw:ra.rb≠ra.pb:=fun e=>by
   have h1:=hR.ZF.1;have h2:=hR.prom.1
   rw[e,h2]at h1;cases h1
  have k1:Kp (KL i) o h (Jz o ra.rb (.Xf i)) h:=D6 (Kp.refl d (KL i)) hR.ZF.1 (.inl rfl) (.inr (.inr rfl))
  have qA:Jz o ra.rb (.Xf i) ra.pb=some (.prom i):=by rw[Y7 (fun e=>Yw e.symm)];exact hR.prom.1
  have k2:Kp (KL i) o h (Jz (Jz o ra.rb (.Xf i)) ra.pb (.Xf i)) h:=D6 k1 qA (.inr (.inl rfl)) (.inr (.inr rfl))
  obtain⟨o2,qI⟩:=Zy (Jz (Jz o ra.rb (.Xf i)) ra.pb (.Xf i))
  rw[←qI]at k2
  have s1:o2 ra.rb=some (.Xf i):=by rw[qI,Y7 Yw];exact Y1
  have s2:o2 ra.pb=some (.Xf i):=by rw[qI];exact Y1
  have so:∀b,b≠ra.rb→b≠ra.pb→o2 b=o b:=fun b e1 e2=>by rw[qI,Y7 e2,Y7 e1]
  have sst:∀b,o b=some (.Xf i)→o2 b=some (.Xf i):=fun b hb=>by
   by_cases e1:b=ra.rb
   ·rw[e1];exact s1
   ·by_cases e2:b=ra.pb
    ·rw[e2];exact s2
    ·rw[so b e1 e2];exact hb
  have Wo:o2 nb=some (.node i):=by
   rw[so nb (fun e=>by have:=N.ZF.1;rw[e,hR.ZF.1]at this;cases this) (fun e=>by have:=N.ZF.1;rw[e,hR.prom.1]at this;cases this)]
   exact N.ZF.1
  refine⟨o2,k2,key o2 k2 ?_,Wo⟩
  match hn:n.ZA,hp with
  | none,hp=>exact hp
  | some (.MD a to b vs),⟨b6,b4,b9,u,h1,h2,h3,h4,h5⟩=>exact⟨b6,b4,b9,u,h1,h2.Zc k2,h3.Zc k2,h4.Zc k2,h5.Zc k2⟩
  | some (.Mi a to x),⟨b6,b4,b9,u,h1,h2,h3,h4,h5⟩=>exact⟨b6,b4,b9,u,h1,h2.Zc k2,h3.Zc k2,h4.Zc k2,h5.Zc k2⟩
  | some (.own a vs cur),⟨b6,b4,b7,b5,w,rb,h1,h2,h3,h4,h5,h6,h7⟩=>
   refine⟨b6,b4,b7,b5,w,rb,h1,h2.Zc k2,h3.Zc k2,h4.Zc k2,h5.Zc k2,h6.Zc k2,?_⟩
   rw[if_neg (by simp)]
   cases cur with
   | false=>
    rw[if_neg (by simp)]at h7
    obtain⟨cs,pb,pv,g1,g2,g3⟩:=h7
    exact⟨cs,pb,pv,⟨sst _ g1.1,g1.2⟩,g2,sst _ g3.1,g3.2⟩
   | true=>
    rw[if_pos rfl]at h7
    obtain⟨a',q1,q2⟩:=h7
    obtain rfl:=Option.some.inj q1
    rw[←q2]
    exact⟨_,ra.pb,ra.pv,⟨s1,hR.ZF.2⟩,rfl,s2,hR.prom.2⟩
theorem vu {o:Ow} {h:Hp} {wb i nb:Nat} {ra:Option RA} {v:Value} {p:Option DM} (s:Up o h wb i nb none v (Xf p)):Up o h wb i nb ra v (Xf p):=by
 match p,s with
 | none,s=>exact s
 | some (.MD _ _ _ _),s=>exact s
 | some (.Mi _ _ _),s=>exact s
 | some (.own _ _ _),s=>exact s
set_option maxHeartbeats 4000000 in
theorem vw (T:World) (h:Hp) (o:Ow) (wb i nb:Nat) (a:NA) (n:Nd) (d:Uq o h) (N:ZJ o h wb i nb a n) (hb:n.own.p.r≤1000000000000∧n.heard.r≤1000000000000 ∧ -1000000000000≤n.own.p.r ∧ -1000000000000≤n.heard.r)
  (hr:∀r,n.Zi=some r→r.b.r≤1000000000000 ∧ -1000000000000≤r.b.r) :
  Zd Tryz.prog T 56 #[Zo wb,Zo nb] h fun v' h'=>∃o' a',Kp (fun t=>t.of=some i) o h o' h'∧ZJ o' h' wb i nb a' (lead n):=by
 refine Zd.MM (args:=#[_,_]) Tryz.func56 rfl rfl rfl ?_
 obtain⟨M,hM⟩:=Zy (max n.own.p.r n.heard.r+1)
 refine VS.seq (VS.mono (N:=fun F' g'=>F' 1=.pointer (some ⟨nb,0,none⟩)∧Zg h.size h g'∧∃kb,h.size≤kb∧F' 4=.pointer (some ⟨kb,0,none⟩)∧g'[kb]? = some (.cells [.int .i64 M,.int .i64 n.me].toArray 102)) ?_ ?_ (fun _ _ _ h=>h) (fun _ _ h=>h))
 ·refine Jc _ _ _ _ _ _ rfl ?_
  unfold Zo
  have P:=Zx N.ZF.2 N.pt.store.len
  have Wo:=Za N.ZF.2
  simp -implicitDefEqProofs only[go_sem,↓reduceIte]
  refine VS.z (h.size) [19] (.p 0 (.p 1 (.p 2 (.p 3 (.p 4 (.q 5 (.p 6 (.p 7 (.p 8 (.p 9 (.q 10 (.p 11 (.p 12 (.p 13 (.p 14 (.p 15 (.q 16 (.p 17 (.s 18 (.w 19 .nil)))))))))))))))))))) mixed (by kernel_rfl) ?_
  simp -implicitDefEqProofs only[go_sem,↓reduceIte,P.ZnT,P.ZaQ,P.me,Wo]
  have em:(if n.heard.r>n.own.p.r then n.heard.r else n.own.p.r)+1=M:=by
   rw[hM]
   split<;>omega
  rw[em]
  exact⟨_,Nat.le_refl _,rfl,Zb⟩
 rintro F1 g1 ⟨f1,b1,kb,qx,f4,y4⟩
 refine VS.seq (VS.mono (N:=fun F' g'=>F' 1=.pointer (some ⟨nb,0,none⟩)∧F' 4=.pointer (some ⟨kb,0,none⟩)∧Zg h.size h g'∧g'[kb]? = some (.cells [.int .i64 (Xz n).r,.int .i64 n.me].toArray 102)) ?_ ?_ (fun _ _ _ h=>h) (fun _ _ h=>h))
 ·refine Jc _ _ _ _ _ _ rfl ?_
  have k1:=ZC d b1
  have N1:=N.still k1
  have P1:=Zx N1.ZF.2 N1.pt.store.len
  have P1r:=P1.Zi
  have JN:=Za N1.ZF.2
  have l4:=Za y4
  have r4:hc g1 ⟨kb,0,none⟩=some (.int .i64 M):=Zh y4
  cases Nq:a.Zi with
  | none=>
   rw[Nq]at P1r
   unfold RZ at P1r
   have hn:n.Zi=none:=by
    have:=N.pt.Zi
    rw[Nq]at this
    cases hx:n.Zi with
    | none=>rfl
    | some r=>rw[hx]at this;exact this.elim
   have e1:(Xz n).r=M:=by unfold Xz;rw[hn,hM]
   rw[e1]
   simp -implicitDefEqProofs only[go_sem,↓reduceIte,f1,P1r]
   exact⟨f4,b1,y4⟩
  | some ra=>
   rw[Nq]at P1r
   unfold RZ Zo at P1r
   obtain⟨r,hn⟩:∃r,n.Zi=some r:=by
    have:=N.pt.Zi
    rw[Nq]at this
    cases hx:n.Zi with
    | none=>rw[hx]at this;exact this.elim
    | some r=>exact⟨r,rfl⟩
   have R1:YL o i g1 ra r:=by have:=N1.pt.Zi;rw[Nq,hn]at this;exact this
   have CK:=Za R1.ZF.2
   have rr0:hc g1 ⟨ra.rb,0,none⟩=some (.int .i64 r.b.r):=Zh R1.ZF.2
   have e1:(Xz n).r=max M (r.b.r+1):=by unfold Xz;rw[hn,hM]
   obtain⟨jz,hr2⟩:=hr r hn
   obtain⟨Z,hZ⟩:=Zy ((Xz n).r)
   have hz:(if r.b.r+1>M then r.b.r+1 else M)=Z:=by
    rw[hZ,e1];split<;>omega
   rw[←hZ]
   have w4:Jx g1 ⟨kb,0,none⟩ (.int .i64 Z)=some (g1.setIfInBounds kb (.cells [.int .i64 Z,.int .i64 n.me].toArray 102)):=by rw[Yz y4 0 _];rfl
   simp -implicitDefEqProofs only[go_sem,↓reduceIte,f1,P1r]
   refine VS.z (g1.size) [10] (.p 0 (.q 1 (.p 2 (.p 3 (.p 4 (.p 5 (.q 6 (.p 7 (.p 8 (.p 9 (.w 10 .nil))))))))))) mixed (by kernel_rfl) ?_
   simp -implicitDefEqProofs only[go_sem,↓reduceIte,f1,f4,P1r,r4,rr0,CK,l4,hz,w4]
   exact⟨b1.Zl qx _,Zv y4⟩
 clear f1 f4 y4 b1
 rintro F3 g3 ⟨f1,f4,b3,y4⟩
 refine Jc _ _ _ _ _ _ rfl ?_
 have k3:=ZC d b3
 have N3:=N.still k3
 have P3:=Zx N3.ZF.2 N3.pt.store.len
 have P3u:=P3.up
 have R7:=Za N3.ZF.2
 have l4:=Za y4
 have r4a:hc g3 ⟨kb,0,none⟩=some (.int .i64 (Xz n).r):=Zh y4
 cases hu:n.up with
 | false=>
  rw[hu]at P3u
  have e1:lead n=n:=by unfold lead;rw[if_pos (.inl hu)]
  rw[e1]
  simp -implicitDefEqProofs only[go_sem,↓reduceIte,f1,P3u]
  exact⟨o,a,ZE k3,N3⟩
 | true=>
 rw[hu]at P3u
 by_cases c:65536<(Xz n).r
 ·have e1:lead n=n:=by unfold lead;rw[if_pos (.inr c)]
  rw[e1]
  have c':(Xz n).r>65536:=c
  simp -implicitDefEqProofs only[go_sem,↓reduceIte,f1,f4,P3u,r4a,c,c']
  exact⟨o,a,ZE k3,N3⟩
 have e1:lead n = { n with Zi:=some ⟨Xz n,[],false,[],[]⟩,ZA:=Xf n.ZA }:=by
  unfold lead;rw[if_neg];rintro (e|e)
  ·rw[hu]at e;cases e
  ·exact c e
 rw[e1]
 have c':¬(Xz n).r>65536:=c
 have r4:rd g3 ⟨kb,0,none⟩ 2=some [.int .i64 (Xz n).r,.int .i64 n.me]:=Zp y4 rfl
 obtain⟨o2,k2,vx,JR⟩:=iC k3.ZW N3
 obtain⟨ra,Nq⟩:∃ra:RA,ra=⟨g3.size+3,g3.size,g3.size+1,g3.size+2,[],[]⟩:=⟨_,rfl⟩
 obtain⟨r,hr0⟩:∃r:Jj,r=⟨Xz n,[],false,[],[]⟩:=⟨_,rfl⟩
 obtain⟨p1,qA⟩:=Zy (g3.push (Xo []):Hp)
 obtain⟨p2,lQ⟩:=Zy (p1.push (Xo []):Hp)
 obtain⟨p3,hp3⟩:=Zy (p2.push (Xo []):Hp)
 obtain⟨p4,hp4⟩:=Zy (p3.push (.cells (A7 r ra).toArray 169):Hp)
 have s1:p1.size=g3.size+1:=by rw[qA];simp
 have s2:p2.size=g3.size+2:=by rw[lQ,Array.size_push,s1]
 have s3:p3.size=g3.size+3:=by rw[hp3,Array.size_push,s2]
 have s4:p4.size=g3.size+4:=by rw[hp4,Array.size_push,s3]
 have q1:p4[g3.size]? = some (Xo []):=by rw[hp4,Zr (by omega),hp3,Zr (by omega),lQ,Zr (by omega),qA];exact Zb
 have q2:p4[g3.size+1]? = some (Xo []):=by rw[hp4,Zr (by omega),hp3,Zr (by omega),lQ,←s1];exact Zb
 have q3:p4[g3.size+2]? = some (Xo []):=by rw[hp4,Zr (by omega),hp3,←s2];exact Zb
 have q4:p4[g3.size+3]? = some (.cells (A7 r ra).toArray 169):=by rw[hp4,←s3];exact Zb
 have kp:Kp (XF i) o2 g3 o2 p4:=by rw[hp4,hp3,lQ,qA];exact ((((Kp.refl k2.ZW _).push _).push _).push _).push _
 have ka:=kp.TY (b:=g3.size) (t:=.prom i) (Nat.le_refl _) (by omega) (.inr (.inl rfl))
 have kb':=ka.TY (b:=g3.size+1) (t:=.prop i) (by omega) (by omega) (.inr (.inr (.inl rfl)))
 have kc:=kb'.TY (b:=g3.size+2) (t:=.Xt i) (by omega) (by omega) (.inr (.inr (.inr (.inl rfl))))
 have k5:=kc.TY (b:=g3.size+3) (t:=.Zi i) (by omega) (by omega) (.inl rfl)
 obtain⟨o5,ho5⟩:=Zy (Jz (Jz (Jz (Jz o2 g3.size (.prom i)) (g3.size+1) (.prop i)) (g3.size+2) (.Xt i)) (g3.size+3) (.Zi i))
 rw[←ho5]at k5
 clear ka kb' kc kp
 have t1:o5 g3.size=some (.prom i):=by rw[ho5,Y7 (by omega),Y7 (by omega),Y7 (by omega)];exact Y1
 have t2:o5 (g3.size+1)=some (.prop i):=by rw[ho5,Y7 (by omega),Y7 (by omega)];exact Y1
 have t3:o5 (g3.size+2)=some (.Xt i):=by rw[ho5,Y7 (by omega)];exact Y1
 have t4:o5 (g3.size+3)=some (.Zi i):=by rw[ho5];exact Y1
 have R5:YL o5 i p4 ra r:=by
  rw[Nq,hr0]
  rw[Nq,hr0]at q4
  exact⟨⟨t4,q4⟩,⟨t1,q1⟩,.nil,⟨t2,q2⟩,⟨t3,q3⟩,.nil,by simp⟩
 have en:∀t:Tg,(t=.known i∨t=.log i∨t=.queue i∨t=.waiting i∨t=.inbox i∨t=.Xf i∨t=.node i)→¬XF i t:=by
  intro t ht hr
  rcases ht with rfl|rfl|rfl|rfl|rfl|rfl|rfl<;>rcases hr with e|e|e|e|⟨s,e⟩<;>cases e
 have pn:Up o5 p4 wb i nb (some ra) a.ZA (Xf n.ZA):=vu (vx.ZA.Zc k5 (en _ (by simp)))
 have pt5:ZU o5 p4 wb i nb { a with Zi:=some ra } { n with Zi:=some r,ZA:=Xf n.ZA }:=
  ⟨vx.data.Zc k5,vx.YQ.Zc k5,R5,vx.known.Zc k5 (en _ (by simp)),vx.log.Zc k5 (en _ (by simp)),vx.queue.Zc k5 (en _ (by simp)),vx.waiting.Zc k5 (en _ (by simp)),vx.inbox.Zc k5 (en _ (by simp)),pn,vx.store⟩
 have B5:QP o5 (.node i) p4 nb (Xg n a):=QP.Zc (o:=o2) ⟨JR,N3.ZF.2⟩ k5 (en _ (by simp))
 obtain⟨g6,w6,N6,k6⟩:=ZU.write pt5 k5.ZW B5 ((YT B5.2 N.pt.store.len).Zi (some ra))
 have Pa:=Za B5.2
 have ee:p4=(((g3.push (.map #[] 0)).push (.map #[] 0)).push (.map #[] 0)).push (.cells #[.int .i64 (Xz n).r,.int .i64 n.me,.map (some g3.size),.bool false,.map (some (g3.size+1)),.map (some (g3.size+2))] 169):=by
  rw[hp4,hp3,lQ,qA,Nq,hr0];rfl
 have w6':Jx p4 ⟨nb,9,none⟩ (.pointer (some ⟨g3.size+3,0,none⟩))=some g6:=by rw[←w6,Nq];rfl
 have ee':=ee.symm
 rw[hr0]at N6
 simp -implicitDefEqProofs only[go_sem,↓reduceIte,f1,f4,P3u,r4a,c,c',r4,ee',w6',Pa]
 refine⟨o5,_,((ZE k3).trans (k2.mono fun t q=>?_)).trans ((k5.mono fun t q=>Nm q).trans (k6.mono fun t q=>by rw[q];rfl)),N6⟩
 rcases q with rfl|rfl|rfl<;>rfl
end Go.Proofs.YtpomedigibbeeaaGreatDoor
