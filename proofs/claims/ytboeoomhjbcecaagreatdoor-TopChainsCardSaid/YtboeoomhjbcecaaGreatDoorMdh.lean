/- What a leader does of its own. -/
import Derived.Test.YtboeoomhjbcecaaGreatDoorMoy
namespace Go.Proofs.YtboeoomhjbcecaaGreatDoor
open Go Go.V
set_option linter.unusedSimpArgs false
set_option linter.unusedVariables false
set_option maxRecDepth 100000
theorem Qw {α:Type} (f:Nat→List α) (m:Nat):(List.range (m+1)).flatMap f=(List.range m).flatMap f++f m:=by
 rw[List.range_succ,List.flatMap_append];simp
theorem Wv {α:Type} (f:Nat→List α) (k m:Nat) (h:∀i,(f i).length≤k):((List.range m).flatMap f).length≤m*k:=by
 induction m with
 | zero=>simp
 | succ m ih=>rw[Qw,List.length_append,Nat.add_mul];have:=h m;omega
theorem jI {n n':Nd} (hk:n.known=n'.known) (r:Jw) (x:Cm):∀k s,QT n r x k s=QT n' r x k s:=by
 intro k
 induction k with
 | zero=>intro s;rfl
 | succ k ih=>intro s;unfold QT;rw[hk,ih]
theorem Ed {n n':Nd} (hk:n.known=n'.known) (hl:n.log=n'.log) (r:Jw) (x:Cm):free n r x=free n' r x:=by
 unfold free;rw[hl,jI hk]
theorem rF {n n':Nd} (hk:n.known=n'.known) (hl:n.log=n'.log) (r:Jw) (x:Cm):Wr n r x=Wr n' r x:=by
 unfold Wr;rw[Ed hk hl]
theorem bM {n n':Nd} (hk:n.known=n'.known) (hl:n.log=n'.log):∀(l:List Cm) (r:Jw),JJ n r l=JJ n' r l:=by
 intro l
 induction l with
 | nil=>intro r;rfl
 | cons x l ih=>intro r;show JJ n (Wr n r x) l=JJ n' (Wr n' r x) l;rw[rF hk hl,ih]
theorem jJ {n n':Nd} (hk:n.known=n'.known) (LL:List (List Vt)):XQ n LL=XQ n' LL:=by
 funext pr s;unfold XQ;rw[hk]
theorem jK {n n':Nd} (hk:n.known=n'.known) (hl:n.log=n'.log) (r:Jw):TJ n r=TJ n' r:=by
 unfold TJ;rw[hl,jJ hk]
theorem xP {n n':Nd} (hk:n.known=n'.known) (hm:n.me=n'.me) (r:Jw):WK n r=WK n' r:=by
 funext s;unfold WK Pj;rw[hk,hm]
theorem rG {n n':Nd} (hk:n.known=n'.known) (hm:n.me=n'.me) (r:Jw):OK n r=OK n' r:=by
 unfold OK;rw[xP hk hm]
set_option maxHeartbeats 4000000 in
theorem xQ (T:World) (h:Hp) (o:Ow) (wb i nb:Nat) (Ya:Nat→Nat) (a:NA) (n:Nd) (ra:RA) (r:Jw) (YL:WA) (fl:List Y7) (bad:Nat→Int) (told:List Ri) (d:UF o h)
  (N:ZM o h wb i nb { a with Zi:=some ra } { n with Zi:=some r }) (W:ZI o h wb Ya YL fl bad told) (tb:BE o h) (Yr:fl.length≤900000000000) (qt:n.own.l.length≤1000000) (kX:n.data.length≤1000000)
  (hp:∀x∈r.prom,x.2.length≤1000000) (hs:∀x∈r.prom,∀v∈x.2,v.slot≤1000000) (LV:r.prom.length≤1000000000000) (hl:n.log.length≤1000000000000) (hq:n.queue.length≤1000000000000) :
  Zc Tryz.prog T 72 #[Zp wb,Zp nb,Zp ra.rb] h fun v' h'=>∃o' a' Xz,Kp (XJ i) o h o' h'∧ZM o' h' wb i nb a' (QJ { n with Zi:=some r } r).n∧ZI o' h' wb Ya Xz (fl++(QJ { n with Zi:=some r } r).ls) bad told:=by
 refine Zc.Zj (args:=[_,_,_]) Tryz.func72 rfl rfl rfl rfl ?_;obtain⟨h1,YN⟩:=Zy ((h.push (.cells [Zp nb].toArray 74)).push (.cells [Zp ra.rb].toArray 82):Hp);have k1:Kp QL o h o h1:=by rw[YN];exact ((Kp.refl d _).push _).push _
 have x4:ZR o h1 h.size (.cells [Zp nb].toArray 74):=⟨d _ (Nat.le_refl _),by rw[YN];exact jB _ _ _⟩
 have x5:ZR o h1 (h.size+1) (.cells [Zp ra.rb].toArray 82):=⟨d _ (by omega),by rw[YN];exact lu _ _ _⟩
 have e0:=YN.symm;unfold Zp at e0 ⊢;have N1:=N.still k1;have W1:=W.still k1;have R1:YP o i h1 ra r:=N1.pt.Zi;obtain⟨q0,q2,q3,q4,q5⟩:=R1.rr;have P1:=ZA N1.ZG.2 N1.pt.store.len;have l4:=Za x4.2;have l5:=Za x5.2;have BG:=Za R1.ZG.2;have JU:=Za N1.ZG.2;have r4:hc h1 ⟨h.size,0,none⟩=some (Zp nb):=Zh x4.2;have r5:hc h1 ⟨h.size+1,0,none⟩=some (Zp ra.rb):=Zh x5.2;unfold Zp at r4 r5;have xR:rd h1 ⟨nb,4,none⟩ 2=some (Jn n.own.p):=P1.Cw;simp -implicitDefEqProofs only[go_sem,↓reduceIte,e0];refine VS.mono (N:=fun F' g'=>Zg h1.size h1 g'∧F' 0=.pointer (some ⟨wb,0,none⟩)∧F' 4=.pointer (some ⟨h.size,0,none⟩)∧F' 5=.pointer (some ⟨h.size+1,0,none⟩)∧F' 35=.bool (decide (below n.own.p r.b))) ?_ ?_ (fun _ _ _ h=>h) (fun _ _ h=>h)
 ·refine VS.z (h1.size) [9] (.q 0 (.p 1 (.p 2 (.q 3 (.q 4 (.p 5 (.p 6 (.p 7 (.q 8 (.w 9 .nil)))))))))) mixed (by kernel_rfl) ?_;simp -implicitDefEqProofs only[go_sem,↓reduceIte,r4,r5,q0,xR,l4,l5,BG,JU];refine (OQ T h1 r.b n.own.p).use ?_;rintro _ g ⟨rfl,b⟩;simp -implicitDefEqProofs only[go_sem,↓reduceIte,b]
 rintro F1 g1 ⟨b1,f0,f4,f5,f35⟩;have kb:=ZE k1.ZX b1
 replace N1:=N1.still kb
 replace W1:=W1.still kb
 replace k1:=k1.trans kb
 replace x4:=x4.Zd kb
 replace x5:=x5.Zd kb
 have tb1:=tb.Zd k1;clear R1 q0 q2 q3 q4 q5 P1 xR l4 l5 BG JU r4 r5 e0;have R1:YP o i g1 ra r:=N1.pt.Zi;obtain⟨q0,q2,q3,q4,q5⟩:=R1.rr;have P1:=ZA N1.ZG.2 N1.pt.store.len;have l4:=Za x4.2;have l5:=Za x5.2;have BG:=Za R1.ZG.2;have JU:=Za N1.ZG.2;have r4:hc g1 ⟨h.size,0,none⟩=some (Zp nb):=Zh x4.2;have r5:hc g1 ⟨h.size+1,0,none⟩=some (Zp ra.rb):=Zh x5.2;unfold Zp at r4 r5;by_cases c1:below n.own.p r.b
 ·have rH:=P1.own;obtain⟨pv,cv,lD⟩:=N1.pt.YM.isSlice;have lD:a.YM=.slice pv n.own.l.length cv:=lD;have rH:rd g1 ⟨nb,4,none⟩ 3=some [.int .i64 n.own.p.r,.int .i64 n.own.p.n,.slice pv n.own.l.length cv]:=by rw[←lD];exact rH
  have N1v:Wz o g1 (.slice pv n.own.l.length cv) n.own.l:=by rw[←lD];exact N1.pt.YM
  unfold Jn at q0;have call:∀G,Zg g1.size g1 G→Zc Tryz.prog T 74 #[.agg #[.int .i64 n.own.p.r,.int .i64 n.own.p.n,.slice pv n.own.l.length cv],.agg #[.int .i64 r.b.r,.int .i64 r.b.n]] G fun v' h'=>DK G.size h' v' n.own.p n.own.l r.b∧Zg G.size G h':=fun G hG=>
   TC T G n.own.p _ n.own.l r.b (N1v.ts.Z3 hG) (by omega)
  obtain⟨E,hE⟩:=Zy (Ys n.own.p n.own.l r.b);have wA:∀(G:Hp) (k:Nat) (r m:Int) (p:Option Addr) (L c:Nat),G[k]? = some (.cells [.int .i64 0,.int .i64 0,.slice none 0 0].toArray 81)→wr G ⟨k,0,none⟩ [.int .i64 r,.int .i64 m,.slice p L c]=some (G.setIfInBounds k (.cells [.int .i64 r,.int .i64 m,.slice p L c].toArray 81)):=fun G k r m p L c hx=>by
   rw[ZU hx 0 _];rfl
  have wB:∀(G:Hp) (k:Nat) (p:Option Addr) (L c:Nat),G[k]? = some (.cells [.slice none 0 0].toArray 79)→JK G ⟨k,0,none⟩ (.slice p L c)=some (G.setIfInBounds k (.cells [.slice p L c].toArray 79)):=fun G k p L c hx=>by
   rw[YD hx 0 _];rfl
  simp -implicitDefEqProofs only[go_sem,↓reduceIte,f35,c1];refine VS.mono (N:=fun F' g'=>Zg g1.size g1 g'∧F' 4=.pointer (some ⟨h.size,0,none⟩)∧F' 5=.pointer (some ⟨h.size+1,0,none⟩)∧fh g1.size g' (F' 6) (F' 7) n.own.p n.own.l r.b) ?_ ?_ (fun _ _ _ h=>h) (fun _ _ h=>h)
  ·refine VS.z (g1.size) [8,15,16] (.q 0 (.p 1 (.p 2 (.q 3 (.q 4 (.p 5 (.p 6 (.q 7 (.or 8 (.p 9 (.p 10 (.p 11 (.p 12 (.or 13 (.s 14 (.w 15 (.w 16 (.p 17 .nil)))) (.s 14 (.s 13 (.w 15 (.w 16 (.p 17 .nil)))))))))) (.or 13 (.or 8 (.p 9 (.p 10 (.p 11 (.p 12 (.s 14 (.w 15 (.w 16 (.p 17 .nil)))))))) (.s 14 (.w 8 (.p 9 (.p 10 (.p 11 (.p 12 (.w 15 (.w 16 (.p 17 .nil)))))))))) (.s 14 (.or 8 (.p 9 (.p 10 (.p 11 (.p 12 (.s 13 (.w 15 (.w 16 (.p 17 .nil)))))))) (.s 13 (.w 8 (.p 9 (.p 10 (.p 11 (.p 12 (.w 15 (.w 16 (.p 17 .nil))))))))))))))))))))) mixed (by kernel_rfl) ?_;simp -implicitDefEqProofs only[go_sem,↓reduceIte,f4,f5,r4,r5,rH,q0,JU,BG,l4,l5];unfold fh Zp YR
   repeat' (first|with_reducible exact Zg.refl _ _|with_reducible exact Zg.push (by omega) _|with_reducible refine And.intro ?_ ?_)
   all_goals first
    | (refine (call g1 (Zg.refl _ _)).use ?_
       rintro _ g5 ⟨⟨w1,w2,rfl,o1,o2⟩,b5⟩;obtain⟨p1,c1,rfl,_⟩:=o1.open;obtain⟨p2,c2,rfl,_⟩:=o2.open;rw[←hE]at *;have s5:=b5.size;unfold YR;simp -implicitDefEqProofs only[go_sem,↓reduceIte,b5];refine⟨⟨f4,f5,_,_,_,_,rfl,rfl,s5,by omega,jB _ _ _,lu _ _ _,(o1.push _).push _,(o2.push _).push _⟩,⟨f4,f5,_,_,_,_,rfl,rfl,by omega,s5,lu _ _ _,jB _ _ _,(o1.push _).push _,(o2.push _).push _⟩⟩)
    | (refine (call (g1.push (.cells _ 81)) (Zg.push (Nat.le_refl _) _)).use ?_
       rintro _ g5 ⟨⟨w1,w2,rfl,o1,o2⟩,b5⟩;obtain⟨p1,c1,rfl,_⟩:=o1.open;obtain⟨p2,c2,rfl,_⟩:=o2.open;rw[←hE]at *;have s5:=b5.size;rw[Array.size_push]at s5;have B5:Zg g1.size g1 g5:=(Zg.push (Nat.le_refl _) _).trans (b5.mono (by simp));have xA:=b5.get (k:=g1.size) (by simp) Zb;have TV:=wA _ _ (if E=0 then r.b else ⟨0,0⟩).r (if E=0 then r.b else ⟨0,0⟩).n p1 (if E=0 then n.own.l else []).length c1 xA;have zA:=Za xA;unfold YR;simp -implicitDefEqProofs only[go_sem,↓reduceIte,B5,TV,zA];exact⟨f4,f5,_,_,_,_,rfl,rfl,Nat.le_refl _,by omega,by rw[Zu (by simpa using zA)];exact Zx xA,gs2 _ _ _ _,((o1.ZQ (by simp) _).push _).mono (by simp),((o2.ZQ (by simp) _).push _).mono (by simp)⟩)
    | (refine (call (g1.push (.cells _ 79)) (Zg.push (Nat.le_refl _) _)).use ?_
       rintro _ g5 ⟨⟨w1,w2,rfl,o1,o2⟩,b5⟩;obtain⟨p1,c1,rfl,_⟩:=o1.open;obtain⟨p2,c2,rfl,_⟩:=o2.open;rw[←hE]at *;have s5:=b5.size;rw[Array.size_push]at s5;have B5:Zg g1.size g1 g5:=(Zg.push (Nat.le_refl _) _).trans (b5.mono (by simp));have xB:=b5.get (k:=g1.size) (by simp) Zb;have Il:=wB _ _ p2 (if E=0 then n.own.l else []).length c2 xB;have zB:=Za xB;unfold YR;simp -implicitDefEqProofs only[go_sem,↓reduceIte,B5,Il,zB];exact⟨f4,f5,_,_,_,_,rfl,rfl,by omega,Nat.le_refl _,gs2 _ _ _ _,by rw[Zu (by simpa using zB)];exact Zx xB,((o1.ZQ (by simp) _).push _).mono (by simp),((o2.ZQ (by simp) _).push _).mono (by simp)⟩)
    | (refine (call ((g1.push (.cells _ 81)).push (.cells _ 79)) ((Zg.push (Nat.le_refl _) _).Yg (by simp) _)).use ?_
       rintro _ g5 ⟨⟨w1,w2,rfl,o1,o2⟩,b5⟩;obtain⟨p1,c1,rfl,_⟩:=o1.open;obtain⟨p2,c2,rfl,_⟩:=o2.open;rw[←hE]at *;have s5:=b5.size;rw[Array.size_push,Array.size_push]at s5;have B5:Zg g1.size g1 g5:=((Zg.push (Nat.le_refl _) _).Yg (by simp) _).trans (b5.mono (by simp;omega));have xA:=b5.get (k:=g1.size) (by simp;omega) (jB _ _ _);have xB:=b5.get (k:=g1.size+1) (by simp) (lu _ _ _);have TV:=wA _ _ (if E=0 then r.b else ⟨0,0⟩).r (if E=0 then r.b else ⟨0,0⟩).n p1 (if E=0 then n.own.l else []).length c1 xA;have zA:=Za xA;have NL:=fun o:Obj=>(Yk (o:=o) (show g1.size≠g1.size+1 by omega)).trans xB;have Il:=fun o:Obj=>wB _ _ p2 (if E=0 then n.own.l else []).length c2 (NL o);have zB:g1.size+1<g5.size:=Za xB;unfold YR;simp -implicitDefEqProofs only[go_sem,↓reduceIte,B5,TV,zA,Il,zB];exact⟨f4,f5,_,_,_,_,rfl,rfl,by omega,by omega,(Yk (by omega)).trans (Zx xA),Zx (NL _),((o1.ZQ (by simp;omega) _).ZQ (by simp) _).mono (by simp;omega),((o2.ZQ (by simp;omega) _).ZQ (by simp) _).mono (by simp;omega)⟩)
    | (refine (call ((g1.push (.cells _ 79)).push (.cells _ 81)) ((Zg.push (Nat.le_refl _) _).Yg (by simp) _)).use ?_
       rintro _ g5 ⟨⟨w1,w2,rfl,o1,o2⟩,b5⟩;obtain⟨p1,c1,rfl,_⟩:=o1.open;obtain⟨p2,c2,rfl,_⟩:=o2.open;rw[←hE]at *;have s5:=b5.size;rw[Array.size_push,Array.size_push]at s5;have B5:Zg g1.size g1 g5:=((Zg.push (Nat.le_refl _) _).Yg (by simp) _).trans (b5.mono (by simp;omega));have xB:=b5.get (k:=g1.size) (by simp;omega) (jB _ _ _);have xA:=b5.get (k:=g1.size+1) (by simp) (lu _ _ _);have TV:=wA _ _ (if E=0 then r.b else ⟨0,0⟩).r (if E=0 then r.b else ⟨0,0⟩).n p1 (if E=0 then n.own.l else []).length c1 xA;have zA:=Za xA;have NL:=fun o:Obj=>(Yk (o:=o) (show g1.size+1≠g1.size by omega)).trans xB;have Il:=fun o:Obj=>wB _ _ p2 (if E=0 then n.own.l else []).length c2 (NL o);have zB:g1.size<g5.size:=Za xB;unfold YR;simp -implicitDefEqProofs only[go_sem,↓reduceIte,B5,TV,zA,Il,zB];exact⟨f4,f5,_,_,_,_,rfl,rfl,by omega,by omega,(Yk (by omega)).trans (Zx xA),Zx (NL _),((o1.ZQ (by simp) _).ZQ (by simp;omega) _).mono (by simp;omega),((o2.ZQ (by simp) _).ZQ (by simp;omega) _).mono (by simp;omega)⟩)
  rintro F2 g2 ⟨b2,f4,f5,ka,kc,w1,w2,fA,fC,ge1,ge2,yA,yC,o1,o2⟩;rw[←hE]at yA o1 o2;obtain⟨A,hA⟩:∃A:QI,A=if E=0 then ⟨r.b,n.own.l⟩ else X2:=⟨_,rfl⟩
  obtain⟨V,hV⟩:∃V:List Vt,V=if E=0 then n.own.l else []:=⟨_,rfl⟩
  have hAp:(if E=0 then r.b else ⟨0,0⟩)=A.p:=by rw[hA];split<;>rfl
  have hAl:(if E=0 then n.own.l else [])=A.l:=by rw[hA];split<;>rfl
  have hVl:(if E=0 then n.own.l else [])=V:=hV.symm;rw[hAp]at yA;rw[hAl]at o1;rw[hVl]at o2;have Rj:=ZE k1.ZX b2;have N2:=N1.still Rj;have W2:=W1.still Rj;have K2:=k1.trans Rj;have z4:=x4.Zd Rj;have z5:=x5.Zd Rj;have AU:=tb1.Zd Rj;have R2:YP o i g2 ra r:=N2.pt.Zi;obtain⟨u0,_,_,_,_⟩:=R2.rr;unfold Jn at u0;have iv7:Wz o g2 w2 V:=Im.Ue o2.own (fun b hb=>k1.ZX b hb);have iv6:Wz o g2 w1 A.l:=Im.Ue o1.own (fun b hb=>k1.ZX b hb);have z6:ZR o g2 ka _:=⟨k1.ZX ka ge1,yA⟩
  have z7:ZR o g2 kc _:=⟨k1.ZX kc ge2,yC⟩
  have P2:=ZA N2.ZG.2 N2.pt.store.len;have m4:=Za z4.2;have m5:=Za z5.2;have mr:=Za R2.ZG.2;have JZ:=Za N2.ZG.2;have s4:hc g2 ⟨h.size,0,none⟩=some (Zp nb):=Zh z4.2;have s5:hc g2 ⟨h.size+1,0,none⟩=some (Zp ra.rb):=Zh z5.2;unfold Zp at s4 s5 fA fC;have qW:=P2.tape;obtain⟨pd,cd,OS⟩:=N2.pt.data.1.isSlice;have OS:a.data=.slice pd n.data.length cd:=OS;have qW:rd g2 ⟨nb,2,none⟩ 2=some [.slice pd n.data.length cd,.int .i64 n.Xe]:=by rw[←OS];exact qW
  have N2d:To o g2 (.slice pd n.data.length cd) n.data:=by rw[←OS];exact N2.pt.data
  obtain⟨E2,jC⟩:=Zy (Qc n.data n.Xe r.b);have call2:∀G,Zg g2.size g2 G→Zc Tryz.prog T 90 #[.agg #[.slice pd n.data.length cd,.int .i64 n.Xe],.agg #[.int .i64 r.b.r,.int .i64 r.b.n]] G fun v' h'=>TF G.size h' v' n.data n.Xe E2 (Yn (X1 r.b))∧Zg G.size G h':=fun G hG=>by
   rw[jC];exact Mz T G _ n.Xe n.data r.b (N2d.bs.Z3 hG) (by omega) (AU.tk.X0 hG)
  have wT:∀(G:Hp) (k:Nat) (m:Int) (p:Option Addr) (L c:Nat),G[k]? = some (.cells [.slice none 0 0,.int .i64 0].toArray 76)→wr G ⟨k,0,none⟩ [.slice p L c,.int .i64 m]=some (G.setIfInBounds k (.cells [.slice p L c,.int .i64 m].toArray 76)):=fun G k m p L c hx=>by
   rw[ZU hx 0 _];rfl
  refine VS.mono (N:=fun F' g'=>Zg g2.size g2 g'∧F' 4=.pointer (some ⟨h.size,0,none⟩)∧F' 5=.pointer (some ⟨h.size+1,0,none⟩)∧F' 6=.pointer (some ⟨ka,0,none⟩)∧F' 7=.pointer (some ⟨kc,0,none⟩)∧F' 10=.int .i64 E2∧GD g2.size g' (F' 9) n.data n.Xe E2 (Yn (X1 r.b))) ?_ ?_ (fun _ _ _ h=>h) (fun _ _ h=>h)
  ·refine VS.z (g2.size) [8,13] (.q 0 (.p 1 (.p 2 (.q 3 (.q 4 (.p 5 (.p 6 (.q 7 (.or 8 (.p 9 (.p 10 (.p 11 (.s 12 (.w 13 (.p 14 .nil)))))) (.s 12 (.w 8 (.p 9 (.p 10 (.p 11 (.w 13 (.p 14 .nil)))))))))))))))) mixed (by kernel_rfl) ?_;simp -implicitDefEqProofs only[go_sem,↓reduceIte,f4,f5,fA,fC,s4,s5,qW,u0,m4,m5,mr,JZ];unfold GD
   repeat' (first|with_reducible exact Zg.refl _ _|with_reducible exact Zg.push (by omega) _|with_reducible refine And.intro ?_ ?_)
   all_goals first
    | (refine (call2 g2 (Zg.refl _ _)).use ?_
       rintro _ g5 ⟨⟨w,rfl,o1⟩,b5⟩;obtain⟨p1,c1,rfl,_⟩:=o1.bs.open;have s5:=b5.size;simp -implicitDefEqProofs only[go_sem,↓reduceIte,b5];exact⟨f4,f5,fA,fC,_,_,rfl,s5,Zb,o1.push _⟩)
    | (refine (call2 (g2.push (.cells _ 76)) (Zg.push (Nat.le_refl _) _)).use ?_
       rintro _ g5 ⟨⟨w,rfl,o1⟩,b5⟩;obtain⟨p1,c1,rfl,_⟩:=o1.bs.open;have B5:Zg g2.size g2 g5:=(Zg.push (Nat.le_refl _) _).trans (b5.mono (by simp));have xA:=b5.get (k:=g2.size) (by simp) Zb;have TV:=wT _ _ (if E2=0 then n.Xe else 0) p1 (if E2=0 then n.data++Yn (X1 r.b) else []).length c1 xA;have zA:=Za xA;simp -implicitDefEqProofs only[go_sem,↓reduceIte,B5,TV,zA];exact⟨f4,f5,fA,fC,_,_,rfl,Nat.le_refl _,Zx xA,(o1.ZQ (by simp) _).mono (by simp)⟩)
  rintro F3 g3 ⟨b3,f4,f5,f6,f7,f10,kt,wt,fT,ge3,yT,oT⟩;have WB:=ZE K2.ZX b3;have N4:=N2.still WB;have W4:=W2.still WB;have K4:Kp QL o h o g3:=K2.Z3 b3;by_cases e2:E2=0
  case neg=>
   have eP:QJ { n with Zi:=some r } r=⟨{ n with Zi:=some r },[],[]⟩:=by unfold QJ;rw[if_pos c1,if_pos (by rw[←jC];exact e2)]
   rw[eP,List.append_nil];simp -implicitDefEqProofs only[go_sem,↓reduceIte,f10,e2];exact⟨o,_,YL,ZF K4,N4,W4⟩
  rw[if_pos e2]at yT oT;have u4:=z4.Zd WB;have u5:=z5.Zd WB;have u6:=z6.Zd WB;have u7:=z7.Zd WB;have iu6:=iv6.Zd WB;have iu7:=iv7.Zd WB;have iT:To o g3 wt (n.data++Yn (X1 r.b)):=⟨Im.Ue oT.own (fun b hb=>K2.ZX b hb),oT.byte⟩
  have eP:QJ { n with Zi:=some r } r=⟨{ n with Zi:=some r,data:=n.data++Yn (X1 r.b),ZB:=some (.own A V true) },[],[]⟩:=by
   unfold QJ;rw[if_pos c1,if_neg (by rw[←jC];simpa using e2),hA,hV,hE]
  rw[eP,List.append_nil];obtain⟨pt,ct,rfl,_⟩:=oT.bs.open;have v4:hc g3 ⟨h.size,0,none⟩=some (Zp nb):=Zh u4.2;have vT:rd g3 ⟨kt,0,none⟩ 2=some [.slice pt (n.data++Yn (X1 r.b)).length ct,.int .i64 n.Xe]:=Zq yT rfl;have Ld:=Za N4.ZG.2;obtain⟨g4,w4,N5,k5⟩:=ZV.write (a:={ a with Zi:=some ra,data:=.slice pt (n.data++Yn (X1 r.b)).length ct }) (n:={ n with Zi:=some r,data:=n.data++Yn (X1 r.b) }) { N4.pt with data:=iT } K4.ZX N4.ZG ((YY N4.ZG.2 N4.pt.store.len).tape (.slice pt (n.data++Yn (X1 r.b)).length ct) n.Xe rfl);have v4':hc g4 ⟨h.size,0,none⟩=some (Zp nb):=Zh (u4.Zd k5).2;have Pq:=Za N5.ZG.2;have pn:UE o g4 wb i nb (some ra) (WM 98 [ka,h.size,kc,h.size+1]) (some (.own A V true)):=
   ⟨ka,h.size,kc,h.size+1,w2,ra.rb,rfl,⟨_,u6.Zd k5,iu6.Zd k5⟩,u4.Zd k5,u7.Zd k5,iu7.Zd k5,u5.Zd k5,by rw[if_pos rfl];exact⟨ra,rfl,rfl⟩⟩
  obtain⟨g6,w6,N6,k6⟩:=ZV.write (a:={ a with Zi:=some ra,data:=.slice pt (n.data++Yn (X1 r.b)).length ct,ZB:=WM 98 [ka,h.size,kc,h.size+1] }) (n:={ n with Zi:=some r,data:=n.data++Yn (X1 r.b),ZB:=some (.own A V true) }) { N5.pt with ZB:=pn } k5.ZX N5.ZG ((YY N5.ZG.2 N5.pt.store.len).ZB (WM 98 [ka,h.size,kc,h.size+1]) rfl);unfold WM at w6;simp only[List.map]at w6;unfold Zp at v4 v4' w6;simp -implicitDefEqProofs only[go_sem,↓reduceIte,f10,e2,f4,f5,f6,f7,fT,v4,vT,w4,Ld,v4',w6,Pq];have K6:Kp (XJ i) o h o g6:=((ZF K4).trans (k5.mono fun t q=>.inr (.inr (.inr (by rw[q];rfl))))).trans (k6.mono fun t q=>.inr (.inr (.inr (by rw[q];rfl))));exact⟨o,_,YL,K6,N6,(W4.Zd k5 (by rintro t rfl;simp[Tg.of])).Zd k6 (by rintro t rfl;simp[Tg.of])⟩
 by_cases c2:5<2*r.prom.length
 case neg=>
  have eP:QJ { n with Zi:=some r } r=⟨{ n with Zi:=some r },NH n r,[]⟩:=by unfold QJ;rw[if_neg c1,if_pos c2];rfl
  rw[eP];have lm:=fun (K:Value→Hp→Prop) (cs:Array Bool) (ty:TypeId)=>Tv (T:=T) (K:=K) (ty:=ty) (cs:=cs) MH R1.prom.2;rw[R1.Sz.length]at lm;simp -implicitDefEqProofs only[go_sem,↓reduceIte,f0,f4,f5,f35,c1,r4,r5,q2,lm];refine (LA T g1 r.prom.length LV).use ?_;rintro _ _ ⟨rfl,rfl⟩;simp -implicitDefEqProofs only[go_sem,↓reduceIte,c2,f0,f4,f5];obtain⟨pf,hpf⟩:∃pf:Nat→List Y7,pf=fun (m:Nat)=>if Yu r.prom (m:Int)=none then [⟨0,n.me,m,r.b,Tn,[]⟩] else []:=⟨_,rfl⟩
  have Zhf:NH n r=(List.range 5).flatMap pf:=by rw[hpf];rfl
  have Zqk:∀m,(pf m).length≤1:=fun m=>by rw[hpf];simp only;split<;>simp
  rw[Zhf];clear r4 r5 q0 q2 q3 q4 q5 l4 l5 BG JU P1 R1 lm Zhf;refine VS.ZW (fun F g=>F 0=.pointer (some ⟨wb,0,none⟩)∧F 4=.pointer (some ⟨h.size,0,none⟩)∧F 5=.pointer (some ⟨h.size+1,0,none⟩)∧∃(m:Nat) (o':Ow) (Xz:WA),m≤5∧F 78=.int .i64 m∧Kp eW o h o' g∧ZM o' g wb i nb { a with Zi:=some ra } { n with Zi:=some r }∧ZI o' g wb Ya Xz (fl++(List.range m).flatMap pf) bad told∧ZR o' g h.size (.cells [Zp nb].toArray 74)∧ZR o' g (h.size+1) (.cells [Zp ra.rb].toArray 82))
   (fun F _=>5-(vi (F 78)).toNat) rfl ⟨f0,f4,f5,0,o,YL,by omega,rfl,ZF k1,N1,by simpa using W1,x4,x5⟩ ?_
  rintro F2 g2 ⟨f0,f4,f5,m,o2,WA2,hm,f78,K2,N2,W2,x4,x5⟩;by_cases ZD:m<5
  ·have ZP:(m:Int)<5:=by omega
   have R2:YP o2 i g2 ra r:=N2.pt.Zi;obtain⟨q0,q2,q3,q4,q5⟩:=R2.rr;have P2:=ZA N2.ZG.2 N2.pt.store.len;have l4:=Za x4.2;have l5:=Za x5.2;have BG:=Za R2.ZG.2;have JZ:=Za N2.ZG.2;have r4:hc g2 ⟨h.size,0,none⟩=some (Zp nb):=Zh x4.2;have r5:hc g2 ⟨h.size+1,0,none⟩=some (Zp ra.rb):=Zh x5.2;unfold Zp at r4 r5;unfold Jn at q0;have lk:=fun (K:Value→Hp→Prop)=>Yy (K:=K) (n:=(m:Int)) (c:=true) MH qI R2.prom.2;have hpm:pf m=if Yu r.prom (m:Int)=none then [⟨0,n.me,m,r.b,Tn,[]⟩] else []:=by rw[hpf]
   rcases R2.Sz.Yu (m:Int) with⟨z1,z2⟩|⟨w,vs,z1,z2,iv⟩
   ·rw[if_pos z2]at hpm;simp only[z1,Option.getD_none,Option.isSome_none,↓reduceIte]at lk;simp -implicitDefEqProofs only[go_sem,↓reduceIte,f0,f4,f5,f78,ZP,r5,q2,lk];refine VS.z (g2.size) [8] (.p 0 (.q 1 (.p 2 (.q 3 (.p 4 (.p 5 (.q 6 (.p 7 (.w 8 .nil))))))))) mixed (by kernel_rfl) ?_;simp -implicitDefEqProofs only[go_sem,↓reduceIte,f0,f4,f5,f78,r4,r5,q0,l4,l5,BG];have rl:(fl++(List.range m).flatMap pf).length≤1000000000000:=by
     have:=Wv pf 1 m Zqk;rw[List.length_append];omega
    refine (U0 T g2 o2 wb nb Ya n.me WA2 _ bad told (m:Int) ⟨0,0,0,r.b,Tn,[]⟩ (.slice none 0 0) K2.ZX W2 P2.me JZ (Im.nil _ _ _ _) rl).use ?_;rintro v' g3 ⟨o3,ua,k3,_,W3⟩;simp -implicitDefEqProofs only[go_sem,↓reduceIte,f78];unfold Xp;refine⟨⟨f0,f4,f5,m+1,o3,ua,ZD,rfl,K2.trans k3,N2.Zd k3 (by rintro t (rfl|rfl)<;>simp[Tg.of]),by rw[Qw,hpm,←List.append_assoc];exact W3,x4.Zd k3,x5.Zd k3⟩,?_⟩;simp only[vi,Zm,↓reduceIte,f78];omega
   ·rw[if_neg (by rw[z2];simp)]at hpm;obtain⟨pw,cw,rfl⟩:=iv.isSlice;simp only[z1,Option.getD_some,Option.isSome_some,↓reduceIte]at lk;simp -implicitDefEqProofs only[go_sem,↓reduceIte,f0,f4,f5,f78,ZP,r5,q2,lk];unfold Xp;refine⟨⟨f0,f4,f5,m+1,o2,WA2,ZD,rfl,K2,N2,by rw[Qw,hpm,List.append_nil];exact W2,x4,x5⟩,?_⟩;simp only[vi,Zm,↓reduceIte,f78];omega
  ·have YK:¬(m:Int)<5:=by omega
   obtain rfl:m=5:=by omega
   simp -implicitDefEqProofs only[go_sem,↓reduceIte,f78,YK];exact⟨o2,_,WA2,K2.mono (fun t q=>by rcases q with rfl|rfl<;>simp[XJ]),N2,W2⟩
 have lm:=fun (K:Value→Hp→Prop) (cs:Array Bool) (ty:TypeId)=>Tv (T:=T) (K:=K) (ty:=ty) (cs:=cs) MH R1.prom.2;rw[R1.Sz.length]at lm;obtain⟨r1,kV⟩:=Zy (if r.begun=true then r else TJ n r);have eP:QJ { n with Zi:=some r } r=⟨{ n with Zi:=some (JJ n r1 n.queue) },OK n (JJ n r1 n.queue),[]⟩:=by
  unfold QJ;rw[if_neg c1,if_neg (by simpa using c2)];have e1:UD { n with Zi:=some r } r=JJ n r1 n.queue:=by
   unfold UD;rw[kV,jK (n:={ n with Zi:=some r }) (n':=n) rfl rfl,bM (n:={ n with Zi:=some r }) (n':=n) rfl rfl]
  rw[e1,rG (n:={ n with Zi:=some r }) (n':=n) rfl rfl]
 rw[eP];simp -implicitDefEqProofs only[go_sem,↓reduceIte,f0,f4,f5,f35,c1,r4,r5,q2,lm];refine (LA T g1 r.prom.length LV).use ?_;rintro _ g' ⟨rfl,IM⟩;rw[IM]
 cases cb:r.begun
 all_goals
 first
 | (rw[cb,if_neg (by simp)]at kV
    rw[cb]at q3;simp -implicitDefEqProofs only[go_sem,↓reduceIte,c2,f0,f4,f5,r4,r5,q3];refine (rE T g1 o wb i nb a n ra r k1.ZX N1 hp hs hl).use ?_;rintro v' g2 ⟨ra1,bC,kx,N3⟩;rw[←kV]at N3;have kx':Kp (XJ i) o g1 o g2:=kx.mono fun t q=>.inr (.inr (.inr (NJ q)));have W3:=W1.Zd kx (by intro t q;rw[NJ q];simp);have y4:=x4.Zd kx;have y5:=x5.Zd kx;have K3:Kp (XJ i) o h o g2:=(ZF k1).trans kx')
 | (rw[cb,if_pos rfl]at kV
    rw[cb]at q3;simp -implicitDefEqProofs only[go_sem,↓reduceIte,c2,f0,f4,f5,r4,r5,q3];obtain⟨g2,QX⟩:=Zy (g1);obtain⟨ra1,jA⟩:=Zy (ra);have bC:ra1.rb=ra.rb:=by rw[jA]
    have N3:ZM o g2 wb i nb { a with Zi:=some ra1 } { n with Zi:=some r1 }:=by rw[jA,kV,QX];exact N1
    have W3:ZI o g2 wb Ya YL fl bad told:=by rw[QX];exact W1
    have y4:ZR o g2 h.size (.cells [Zp nb].toArray 74):=by rw[QX];exact x4
    have y5:ZR o g2 (h.size+1) (.cells [Zp ra.rb].toArray 82):=by rw[QX];exact x5
    have K3:Kp (XJ i) o h o g2:=by rw[QX];exact ZF k1
    rw[←QX])
 all_goals
  clear r4 r5 q0 q2 q3 q4 q5 l4 l5 BG JU P1 R1 lm;have P3:=ZA N3.ZG.2 N3.pt.store.len;obtain⟨pq,cq,rI,_⟩:=YG.isSlice N3.pt.queue;have rI:a.queue=.slice pq n.queue.length cq:=rI;have P3q:hc g2 ⟨nb,52,none⟩=some (.slice pq n.queue.length cq):=by rw[←rI];exact P3.queue
  have r4:hc g2 ⟨h.size,0,none⟩=some (Zp nb):=Zh y4.2;have r5:hc g2 ⟨h.size+1,0,none⟩=some (Zp ra.rb):=Zh y5.2;unfold Zp at r4 r5;simp -implicitDefEqProofs only[go_sem,↓reduceIte,f0,f4,f5,r4,r5,P3q];clear r4 r5 P3q P3;refine VS.ZW (fun F g=>F 0=.pointer (some ⟨wb,0,none⟩)∧F 4=.pointer (some ⟨h.size,0,none⟩)∧F 5=.pointer (some ⟨h.size+1,0,none⟩)∧F 113=.slice pq n.queue.length cq∧F 114=.int .i64 n.queue.length∧∃(j:Nat) (ra':RA),j≤n.queue.length∧F 115=.int .i64 j∧Kp (XJ i) o h o g∧ra'.rb=ra.rb∧ZM o g wb i nb { a with Zi:=some ra' } { n with Zi:=some (JJ n r1 (n.queue.take j)) }∧ZI o g wb Ya YL fl bad told∧ZR o g h.size (.cells [Zp nb].toArray 74)∧ZR o g (h.size+1) (.cells [Zp ra.rb].toArray 82))
   (fun F _=>n.queue.length-(vi (F 115)).toNat) rfl ⟨f0,f4,f5,rfl,rfl,0,ra1,by omega,rfl,K3,bC,N3,W3,y4,y5⟩ ?_
  clear f0 f4 f5 y4 y5 K3 N3 W3 bC;rintro F3 g3 ⟨f0,f4,f5,f113,f114,j,ra',hj,f115,K3,bC,N3,W3,y4,y5⟩;obtain⟨rj,hrj⟩:=Zy (JJ n r1 (n.queue.take j));rw[←hrj]at N3;have r4:hc g3 ⟨h.size,0,none⟩=some (Zp nb):=Zh y4.2;have r5:hc g3 ⟨h.size+1,0,none⟩=some (Zp ra.rb):=Zh y5.2;unfold Zp at r4 r5;have l4:=Za y4.2;have l5:=Za y5.2;by_cases ZD:j<n.queue.length
  ·have ZP:(j:Int)<n.queue.length:=by omega
   obtain⟨pz,cz,Fs,aA⟩:=Qo N3.pt.queue.ts;obtain⟨bb,oo,wH,Wk,NN⟩:=aA (by intro e;have:n.queue=[]:=e;rw[this]at ZD;simp at ZD);have Fs:a.queue=.slice pz n.queue.length cz:=Fs;rw[rI]at Fs;simp only[Value.slice.injEq]at Fs;obtain⟨rfl,_,rfl⟩:=Fs;subst wH;have re:rd g3 ⟨bb,oo+j*5,none⟩ 5=some (n.queue[j]).C:=NN j ZD;obtain⟨x,hx⟩:=Zy (n.queue[j]);rw[←hx]at re;have YV:JJ n r1 (n.queue.take (j+1))=Wr n rj x:=by
    rw[Ym _ j ZD,←hx,hrj];unfold JJ;rw[List.foldl_append];rfl
   obtain⟨g4,OR⟩:=Zy (g3.push (.cells x.C.toArray 47):Hp);have k4:Kp QL o g3 o g4:=by rw[OR];exact ZY K3.ZX _
   have x4':ZR o g4 g3.size (.cells x.C.toArray 47):=⟨K3.ZX _ (Nat.le_refl _),by rw[OR];exact Zb⟩
   have e4:=OR.symm;have N4:=N3.still k4;have R4:YP o i g4 ra' rj:=N4.pt.Zi;have z4:=y4.Zd k4;have z5:=y5.Zd k4;have s4:hc g4 ⟨h.size,0,none⟩=some (Zp nb):=Zh z4.2;have s5:hc g4 ⟨h.size+1,0,none⟩=some (Zp ra'.rb):=by rw[bC];exact Zh z5.2
   have sx:rd g4 ⟨g3.size,0,none⟩ 5=some x.C:=Zq x4'.2 rfl;have cf:=xN T g4 o wb i nb { a with Zi:=some ra' } { n with Zi:=some rj } ra' rj x k4.ZX N4 R4 hl;rw[show UQ { n with Zi:=some rj } rj x=UQ n rj x from by unfold UQ;rw[Ed (n:={ n with Zi:=some rj }) (n':=n) rfl rfl],Ed (n:={ n with Zi:=some rj }) (n':=n) rfl rfl]at cf;unfold Vj Zp at cf;unfold Zp at s4 s5;simp -implicitDefEqProofs only[go_sem,↓reduceIte,f0,f4,f5,f113,f114,f115,ZP,re,e4,s4,s5,sx];refine cf.use ?_;rintro _ g5 ⟨rfl,b5⟩;have k5:=ZE k4.ZX b5;have K5:Kp (XJ i) o h o g5:=(K3.trans (ZF k4)).trans (ZF k5);have N5:=N4.still k5;have R5:YP o i g5 ra' rj:=N5.pt.Zi;have W5:=(W3.still k4).still k5;have u4:=z4.Zd k5;have u5:=z5.Zd k5;have ux:=x4'.Zd k5
   cases hf:free n rj x with
   | none=>
    have e1:Wr n rj x=rj:=by unfold Wr;rw[hf]
    simp -implicitDefEqProofs only[go_sem,↓reduceIte,Option.isSome_none,f115];unfold Xp;refine⟨⟨f0,f4,f5,f113,f114,j+1,ra',ZD,rfl,K5,bC,by rw[YV,e1];exact N5,W5,u4,u5⟩,?_⟩;simp only[vi,Zm,↓reduceIte,f115];omega
   | some sl=>
    have e1:Wr n rj x = { rj with prop:=ins rj.prop (sl:Int) x }:=by unfold Wr;rw[hf]
    have e2:UQ n rj x=sl:=by unfold UQ;rw[hf]
    rw[e2];simp -implicitDefEqProofs only[go_sem,↓reduceIte,Option.isSome_some];have t5:hc g5 ⟨h.size+1,0,none⟩=some (Zp ra'.rb):=by rw[bC];exact Zh u5.2
    unfold Zp at t5;have tx:rd g5 ⟨g3.size,0,none⟩ 5=some x.C:=Zq ux.2 rfl;obtain⟨_,_,_,t4,_⟩:=R5.rr;have m5:=Za u5.2;have mr:=Za R5.ZG.2;have mx:=Za ux.2;refine VS.z (g5.size) [6] (.q 0 (.p 1 (.p 2 (.q 3 (.p 4 (.q 5 (.w 6 .nil))))))) mixed (by kernel_rfl) ?_;simp -implicitDefEqProofs only[go_sem,↓reduceIte,f5,t5,t4,tx,m5,mr,mx];rw[XV Tb R5.prop.2];obtain⟨k6,R6⟩:=R5.fj K5.ZX (k:=(sl:Int)) (x:=x);have k6':Kp (XN i) o g5 o _:=k6.mono fun t q=>.inr (.inr (.inl q));have k6a:Kp (XJ i) o g5 o _:=k6.mono fun t q=>.inr (.inr (.inr (by rw[q];rfl)));simp -implicitDefEqProofs only[go_sem,↓reduceIte,f115];unfold Xp;refine⟨⟨f0,f4,f5,f113,f114,j+1,ra',ZD,rfl,K5.trans k6a,bC,?_,W5.Zd k6 (by rintro t rfl;simp[Tg.of]),u4.Zd k6,u5.Zd k6⟩,?_⟩
    ·rw[YV,e1];exact⟨N5.ZG.Zd k6 (by intro e;cases e),ZV.QF N5.pt k6' rfl rfl R6⟩
    ·simp only[vi,Zm,↓reduceIte,f115];omega
  ·have YK:¬(j:Int)<n.queue.length:=by omega
   obtain rfl:j=n.queue.length:=by omega
   rw[List.take_length]at hrj;simp -implicitDefEqProofs only[go_sem,↓reduceIte,f114,f115,YK];rw[←hrj];obtain⟨r2,hr2⟩:=Zy (rj);rw[←hr2]at N3 ⊢;have Zhh:∀s x m,(Pj n r2 s x m).length≤1:=fun s x m=>by unfold Pj;split<;>simp
   have Zhi:∀s,(WK n r2 s).length≤5:=fun s=>by
    unfold WK;split
    ·split
     ·exact Wv _ 1 5 (Zhh s _)
     ·simp
    ·simp
   clear r4 r5 l4 l5;refine VS.ZW (fun F g=>F 0=.pointer (some ⟨wb,0,none⟩)∧F 4=.pointer (some ⟨h.size,0,none⟩)∧F 5=.pointer (some ⟨h.size+1,0,none⟩)∧∃(s:Nat) (o':Ow) (Xz:WA),s≤40∧F 134=.int .i64 s∧Kp (XJ i) o h o' g∧ZM o' g wb i nb { a with Zi:=some ra' } { n with Zi:=some r2 }∧ZI o' g wb Ya Xz (fl++(List.range s).flatMap (WK n r2)) bad told∧ZR o' g h.size (.cells [Zp nb].toArray 74)∧ZR o' g (h.size+1) (.cells [Zp ra.rb].toArray 82))
    (fun F _=>40-(vi (F 134)).toNat) rfl ⟨f0,f4,f5,0,o,YL,by omega,rfl,K3,N3,by simpa using W3,y4,y5⟩ ?_
   clear f0 f4 f5 y4 y5 K3 N3 W3;rintro F4 g4 ⟨f0,f4,f5,s,o4,fm,hs4,f134,K4,N4,W4,y4,y5⟩;by_cases il:s<40
   case neg=>
    have Zbv:¬(s:Int)<40:=by omega
    obtain rfl:s=40:=by omega
    simp -implicitDefEqProofs only[go_sem,↓reduceIte,f134,Zbv];exact⟨o4,_,fm,K4,N4,W4⟩
   have H9:(s:Int)<40:=by omega
   have R4:YP o4 i g4 ra' r2:=N4.pt.Zi;obtain⟨_,_,_,t4,t5⟩:=R4.rr;have P4:=ZA N4.ZG.2 N4.pt.store.len;have r4:hc g4 ⟨h.size,0,none⟩=some (Zp nb):=Zh y4.2;have r5:hc g4 ⟨h.size+1,0,none⟩=some (Zp ra'.rb):=by rw[bC];exact Zh y5.2
   unfold Zp at r4 r5;have l4:=Za y4.2;have l5:=Za y5.2;have n4:¬h.size=g4.size:=by omega
   have n5:¬h.size+1=g4.size:=by omega
   have nnb:¬nb=g4.size:=by have:=Za N4.ZG.2;omega
   have GG:=fun (K:Value→Hp→Prop)=>Yy (K:=K) (n:=(s:Int)) (c:=true) Tb OM R4.prop.2;rw[Xr]at GG;have VD:=fun (K:Value→Hp→Prop) (z:Obj)=>Yy (h:=g4.push z) (K:=K) (n:=(s:Int)) (c:=true) Tb OM ((Zu (Za N4.pt.known.2)).trans N4.pt.known.2);simp only[Xr,show ({ n with Zi:=some r2 }:Nd).known=n.known from rfl]at VD;have xS:∀x y:Obj,Kp QL o4 g4 o4 ((g4.push x).push y):=fun x y=>(ZY K4.ZX _).push _;have skip:∀(x y:Obj),WK n r2 s=[]→ZM o4 ((g4.push x).push y) wb i nb { a with Zi:=some ra' } { n with Zi:=some r2 }∧ZI o4 ((g4.push x).push y) wb Ya fm (fl++(List.range (s+1)).flatMap (WK n r2)) bad told∧ZR o4 ((g4.push x).push y) h.size (.cells [Zp nb].toArray 74)∧ZR o4 ((g4.push x).push y) (h.size+1) (.cells [Zp ra.rb].toArray 82):=fun x y hz=>
    ⟨N4.still (xS x y),by rw[Qw,hz,List.append_nil];exact W4.still (xS x y),y4.Zd (xS x y),y5.Zd (xS x y)⟩
   cases c3:Yu r2.prop (s:Int) with
   | none=>
    have hz:WK n r2 s=[]:=by unfold WK;rw[c3]
    simp only[c3,Option.map_none,Option.getD_none,Option.isSome_none,↓reduceIte]at GG
    cases c4:Yu n.known (s:Int) with
    | none=>
     simp only[c4,Option.map_none,Option.getD_none,Option.isSome_none,↓reduceIte]at VD;simp -implicitDefEqProofs only[go_sem,↓reduceIte,f0,f4,f5,f134,H9,r5,t4,r4,n4,n5,nnb,GG,VD,P4.known];unfold Xp;refine⟨⟨f0,f4,f5,s+1,o4,fm,il,rfl,K4.trans (ZF (xS _ _)),skip _ _ hz⟩,?_⟩;simp only[vi,Zm,↓reduceIte,f134];omega
    | some y=>
     simp only[c4,Option.map_some,Option.getD_some,Option.isSome_some,↓reduceIte]at VD;simp -implicitDefEqProofs only[go_sem,↓reduceIte,f0,f4,f5,f134,H9,r5,t4,r4,n4,n5,nnb,GG,VD,P4.known,Vj];unfold Xp;refine⟨⟨f0,f4,f5,s+1,o4,fm,il,rfl,K4.trans (ZF (xS _ _)),skip _ _ hz⟩,?_⟩;simp only[vi,Zm,↓reduceIte,f134];omega
   | some x=>
    simp only[c3,Option.map_some,Option.getD_some,Option.isSome_some,↓reduceIte]at GG
    cases c4:Yu n.known (s:Int) with
    | some y=>
     have hz:WK n r2 s=[]:=by unfold WK;rw[c3];simp only;rw[if_neg (by rw[c4];simp)]
     simp only[c4,Option.map_some,Option.getD_some,Option.isSome_some,↓reduceIte]at VD;simp -implicitDefEqProofs only[go_sem,↓reduceIte,f0,f4,f5,f134,H9,r5,t4,r4,n4,n5,nnb,GG,VD,P4.known,Vj];unfold Xp;refine⟨⟨f0,f4,f5,s+1,o4,fm,il,rfl,K4.trans (ZF (xS _ _)),skip _ _ hz⟩,?_⟩;simp only[vi,Zm,↓reduceIte,f134];omega
    | none=>
     have hz:WK n r2 s=(List.range 5).flatMap (Pj n r2 s x):=by unfold WK;rw[c3];simp only;rw[if_pos c4]
     simp only[c4,Option.map_none,Option.getD_none,Option.isSome_none,↓reduceIte]at VD;simp -implicitDefEqProofs only[go_sem,↓reduceIte,f0,f4,f5,f134,H9,r5,t4,r4,n4,n5,nnb,GG,VD,P4.known,Vj];obtain⟨fs,hfs⟩:=Zy (fl++(List.range s).flatMap (WK n r2));have ZCl:fs.length≤900000001000:=by
      have:=Wv (WK n r2) 5 s Zhi;rw[hfs,List.length_append];omega
     have hnx:fl++(List.range (s+1)).flatMap (WK n r2)=fs++(List.range 5).flatMap (Pj n r2 s x):=by rw[Qw,hz,←List.append_assoc,←hfs]
     rw[←hfs]at W4;have kz:=xS (.cells x.C.toArray 47) (.cells BD.C.toArray 47);have xb:ZR o4 ((g4.push (.cells x.C.toArray 47)).push (.cells BD.C.toArray 47)) g4.size (.cells x.C.toArray 47):=⟨K4.ZX _ (Nat.le_refl _),jB _ _ _⟩
     refine VS.ZW (fun F g=>F 0=.pointer (some ⟨wb,0,none⟩)∧F 4=.pointer (some ⟨h.size,0,none⟩)∧F 5=.pointer (some ⟨h.size+1,0,none⟩)∧F 134=.int .i64 s∧F 18=.int .i64 s∧F 19=.pointer (some ⟨g4.size,0,none⟩)∧∃(m:Nat) (o':Ow) (Xz:WA),m≤5∧F 160=.int .i64 m∧Kp (XJ i) o h o' g∧ZM o' g wb i nb { a with Zi:=some ra' } { n with Zi:=some r2 }∧ZI o' g wb Ya Xz (fs++(List.range m).flatMap (Pj n r2 s x)) bad told∧ZR o' g h.size (.cells [Zp nb].toArray 74)∧ZR o' g (h.size+1) (.cells [Zp ra.rb].toArray 82)∧ZR o' g g4.size (.cells x.C.toArray 47))
      (fun F _=>5-(vi (F 160)).toNat) rfl ⟨f0,f4,f5,f134,rfl,rfl,0,o4,fm,by omega,rfl,K4.trans (ZF kz),N4.still kz,by simpa using W4.still kz,y4.Zd kz,y5.Zd kz,xb⟩ ?_
     clear f0 f4 f5 f134 y4 y5 r4 r5 t4 t5 P4 GG VD skip xS kz xb l4 l5 n4 n5 nnb R4;rintro F5 g5 ⟨f0,f4,f5,f134,f18,f19,m,o5,WA5,hm,f160,K5,N5,W5,y4,y5,xb⟩;by_cases eI:m<5
     case neg=>
      have hgm:¬(m:Int)<5:=by omega
      obtain rfl:m=5:=by omega
      simp -implicitDefEqProofs only[go_sem,↓reduceIte,f160,hgm,f134];unfold Xp;refine⟨⟨f0,f4,f5,s+1,o5,WA5,il,rfl,K5,N5,by rw[hnx];exact W5,y4,y5⟩,?_⟩;simp only[vi,Zm,↓reduceIte,f134];omega
     have Zhk:(m:Int)<5:=by omega
     have R5:YP o5 i g5 ra' r2:=N5.pt.Zi;obtain⟨v0,_,_,_,v5⟩:=R5.rr;unfold Jn at v0;have r5:hc g5 ⟨h.size+1,0,none⟩=some (Zp ra'.rb):=by rw[bC];exact Zh y5.2
     unfold Zp at r5;have lkv:=fun (K:Value→Hp→Prop)=>Yy (K:=K) (n:=(s:Int)) (c:=false) Ie Gx R5.Xy.2;rw[Xr]at lkv;simp only[Bool.false_eq_true,if_false]at lkv;obtain⟨g6,Rk⟩:=Zy (g5.push (.cells [].toArray 186):Hp);have e6:=Rk.symm;have k6:Kp QL o5 g5 o5 g6:=by rw[Rk];exact ZY K5.ZX _
     have w6:wr g6 ⟨g5.size,0,none⟩ []=some g6:=by
      have hx:g6[g5.size]? = some (.cells [].toArray 186):=by rw[Rk];exact Zb
      rw[ZU hx 0 [],if_pos ⟨by simp,rfl⟩]
      congr 1
      exact Ox hx
     have N6:=N5.still k6;have W6:=W5.still k6;have z4:=y4.Zd k6;have z5:=y5.Zd k6;have zx:=xb.Zd k6;have K6:Kp (XJ i) o h o5 g6:=K5.trans (ZF k6);have P6:=ZA N6.ZG.2 N6.pt.store.len;have R6:YP o5 i g6 ra' r2:=N6.pt.Zi;obtain⟨u0,_,_,_,_⟩:=R6.rr;unfold Jn at u0;have s4:hc g6 ⟨h.size,0,none⟩=some (Zp nb):=Zh z4.2;have s5:hc g6 ⟨h.size+1,0,none⟩=some (Zp ra'.rb):=by rw[bC];exact Zh z5.2
     unfold Zp at s4 s5;have sx:rd g6 ⟨g4.size,0,none⟩ 5=some [.int .i64 x.k,.int .i64 x.c,.int .i64 x.s,.int .i64 x.n,.int .i64 x.v]:=Zq zx.2 rfl;have m4:=Za z4.2;have m5:=Za z5.2;have mx:=Za zx.2;have mr:=Za R6.ZG.2;have rK:=Za N6.ZG.2;obtain⟨S,hS⟩:=Zy ((Yu r2.Xy (s:Int)).getD []);have Qb:Pj n r2 s x m=if Yu S (m:Int)=none then [⟨2,n.me,m,Jp,T5 s r2.b x,[]⟩] else []:=by unfold Pj;rw[hS]
     obtain⟨mv,hmv,lki⟩:∃mv,(Option.map tX (Yu ra'.sv (s:Int))).getD (.map none)=mv∧∀K:Value→Hp→Prop,Mg Tryz.prog 185 mv (.int .i64 (m:Int)) true K g5=K (.tuple #[.agg #[],.bool (Yu S (m:Int)).isSome]) g5:=by
      rcases R5.Tc.Yu (s:Int) with⟨z1,z2⟩|⟨sb,S',z1,z2,zI⟩
      ·refine⟨.map none,by rw[z1];rfl,fun K=>?_⟩;rw[Fp Gw zZ,hS,z2];rfl
      ·refine⟨.map (some sb),by rw[z1];rfl,fun K=>?_⟩;have:=Yy (K:=K) (n:=(m:Int)) (c:=true) Gw zZ zI.2;have hSS:S=S':=by rw[hS,z2];rfl
       rw[this];unfold Lc;rw[Xr,←hSS]
       cases Yu S (m:Int)<;>rfl
     rw[hmv]at lkv
     cases cS:Yu S (m:Int) with
     | some uu=>
      rw[if_neg (by rw[cS];simp)]at Qb;simp only[cS,Option.isSome_some]at lki;simp -implicitDefEqProofs only[go_sem,↓reduceIte,f0,f4,f5,f18,f19,f160,Zhk,r5,v5,lkv,lki,e6,w6];unfold Xp;refine⟨⟨f0,f4,f5,f134,f18,f19,m+1,o5,WA5,eI,rfl,K6,N6,by rw[Qw,Qb,List.append_nil];exact W6,z4,z5,zx⟩,?_⟩;simp only[vi,Zm,↓reduceIte,f160];omega
     | none=>
      rw[if_pos cS]at Qb;simp only[cS,Option.isSome_none]at lki;simp -implicitDefEqProofs only[go_sem,↓reduceIte,f0,f4,f5,f18,f19,f160,Zhk,r5,v5,lkv,lki,e6,w6];refine VS.z (g6.size) [11] (.p 0 (.q 1 (.p 2 (.p 3 (.q 4 (.p 5 (.p 6 (.q 7 (.q 8 (.p 9 (.p 10 (.w 11 .nil)))))))))))) mixed (by kernel_rfl) ?_;simp -implicitDefEqProofs only[go_sem,↓reduceIte,f0,f4,f5,f18,f19,f160,s4,s5,u0,sx,m4,m5,mx,mr];have rl:(fs++(List.range m).flatMap (Pj n r2 s x)).length≤1000000000000:=by
       have:=Wv (Pj n r2 s x) 1 m (Zhh s x);rw[List.length_append];omega
      refine (U0 T g6 o5 wb nb Ya n.me WA5 _ bad told (m:Int) ⟨2,0,0,Jp,T5 s r2.b x,[]⟩ (.slice none 0 0) K6.ZX W6 P6.me rK (Im.nil _ _ _ _) rl).use ?_;rintro v' g7 ⟨o7,WA7,k7,_,W7⟩;simp -implicitDefEqProofs only[go_sem,↓reduceIte,f160];unfold Xp;refine⟨⟨f0,f4,f5,f134,f18,f19,m+1,o7,WA7,eI,rfl,K6.trans (k7.mono fun t q=>by rcases q with rfl|rfl<;>simp[XJ]),N6.Zd k7 (by rintro t (rfl|rfl)<;>simp[Tg.of]),by rw[Qw,Qb,←List.append_assoc];exact W7,z4.Zd k7,z5.Zd k7,zx.Zd k7⟩,?_⟩;simp only[vi,Zm,↓reduceIte,f160];omega
theorem UE.fn {o:Ow} {h:Hp} {wb i nb:Nat} {ra:Option RA} {v:Value} {p:Option Cv} (s:UE o h wb i nb ra v p):(p=none∧v=.nilFunc)∨(p.isSome=true∧∃f l,v=.func (.func f) #[] l):=by
 match p,s with
 | none,s=>exact .inl ⟨rfl,s⟩
 | some (.Lb _ _ _ _),⟨_,_,_,_,e,_⟩=>exact .inr ⟨rfl,_,_,e⟩
 | some (.MG _ _ _),⟨_,_,_,_,e,_⟩=>exact .inr ⟨rfl,_,_,e⟩
 | some (.own _ _ _),⟨_,_,_,_,_,_,e,_⟩=>exact .inr ⟨rfl,_,_,e⟩
theorem jL (n:Nd) (r:Jw):(QJ n r).n.Xo=n.Xo∧(QJ n r).n.log=n.log∧(QJ n r).n.me=n.me∧(QJ n r).n.heard=n.heard∧(QJ n r).n.own=n.own∧(QJ n r).ts=[]:=by
 unfold QJ;split
 ·split<;>exact⟨rfl,rfl,rfl,rfl,rfl,rfl⟩
 ·split<;>exact⟨rfl,rfl,rfl,rfl,rfl,rfl⟩
theorem bN (n:Nd) (r:Jw):(NH n r).length≤5:=by
 have:=Wv (fun (m:Nat)=>if Yu r.prom (m:Int)=none then [(⟨0,n.me,m,r.b,Tn,[]⟩:Y7)] else []) 1 5 (fun m=>by split<;>simp);exact this
theorem jM (n:Nd) (r:Jw):(OK n r).length≤200:=by
 have h1:∀s x m,(Pj n r s x m).length≤1:=fun s x m=>by unfold Pj;split<;>simp
 have h2:∀s,(WK n r s).length≤5:=fun s=>by
  unfold WK;split
  ·split
   ·exact Wv _ 1 5 (h1 s _)
   ·simp
  ·simp
 exact Wv _ 5 40 h2
theorem xV (n:Nd) (r:Jw):(QJ n r).ls.length≤200:=by
 unfold QJ;split
 ·split<;>simp
 ·split
  ·have:=bN n r;simp only;omega
  ·exact jM n _
theorem bO (n:Nd):(still n).Xo=n.Xo∧(still n).log=n.log∧(still n).me=n.me∧(still n).heard=n.heard∧(still n).own=n.own∧(still n).queue=n.queue∧(still n).ZB=n.ZB∧(still n).data=n.data∧(still n).Xe=n.Xe:=by
 unfold still;split
 ·split<;>exact⟨rfl,rfl,rfl,rfl,rfl,rfl,rfl,rfl,rfl⟩
 ·exact⟨rfl,rfl,rfl,rfl,rfl,rfl,rfl,rfl,rfl⟩
theorem CM (n:Nd):(still n).Zi=none∨(still n).Zi=n.Zi:=by
 unfold still;split
 ·split
  ·exact .inl rfl
  ·exact .inr rfl
 ·exact .inr rfl
theorem Ps (n:Nd):(YC n).n.Xo=n.Xo∧(YC n).n.log=n.log∧(YC n).n.me=n.me∧(YC n).n.heard=n.heard∧(YC n).n.own=n.own∧(YC n).ts=[]:=by
 unfold YC;split
 ·exact jL _ _
 ·split<;>exact⟨rfl,rfl,rfl,rfl,rfl,rfl⟩
theorem CN (n:Nd):(YC n).ls.length≤200+n.queue.length:=by
 unfold YC;split
 ·next r _=>have:=xV n r;omega
 ·split
  ·simp[Ta]
  ·simp
set_option maxHeartbeats 4000000 in
theorem xW (T:World) (h:Hp) (o:Ow) (wb i nb:Nat) (Ya:Nat→Nat) (a:NA) (n:Nd) (YL:WA) (fl:List Y7) (bad:Nat→Int) (told:List Ri) (d:UF o h)
  (N:ZM o h wb i nb a n) (W:ZI o h wb Ya YL fl bad told) (tb:BE o h) (hp0:n.ZB=none) (Yr:fl.length≤800000000000) (qt:n.own.l.length≤1000000) (kX:n.data.length≤1000000)
  (hr:∀r,n.Zi=some r→(∀x∈r.prom,x.2.length≤1000000)∧(∀x∈r.prom,∀v∈x.2,v.slot≤1000000)∧r.prom.length≤1000000000000) (hl:n.log.length≤100000000000) (hq:n.queue.length≤10000000000) (ht:0≤n.Xo∧n.Xo<5) :
  Zc Tryz.prog T 50 #[Zp wb,Zp nb] h fun v' h'=>∃o' a' Xz,Kp (XJ i) o h o' h'∧ZM o' h' wb i nb a' (Ws n).n∧ZI o' h' wb Ya Xz (fl++(Ws n).ls) bad told:=by
 refine Zc.Lk (args:=#[_,_]) Tryz.func50 rfl rfl rfl ?_;obtain⟨Zah,Zct,sme,Zcu,jN,Ee,rL,Zai,Zqo⟩:=bO n;refine VS.seq (VS.mono (N:=fun F' g'=>F' 0=.pointer (some ⟨wb,0,none⟩)∧F' 1=.pointer (some ⟨nb,0,none⟩)∧∃a1,Kp (XJ i) o h o g'∧ZM o g' wb i nb a1 (still n)∧ZI o g' wb Ya YL fl bad told) ?_ ?_ (fun _ _ _ h=>h) (fun _ _ h=>h))
 ·refine Jl _ _ _ _ _ _ rfl ?_;unfold Zp;have P:=ZA N.ZG.2 N.pt.store.len;have WC:=Za N.ZG.2;have Pr:=P.Zi;have Po:=P.Cw
  cases NM:a.Zi with
  | none=>
   rw[NM]at Pr;have hn:n.Zi=none:=by
    have:=N.pt.Zi;rw[NM]at this
    cases hx:n.Zi with
    | none=>rfl
    | some r=>rw[hx]at this;exact this.elim
   have es:still n=n:=by unfold still;rw[hn]
   rw[es];unfold Pk at Pr;simp -implicitDefEqProofs only[go_sem,↓reduceIte,Pr];refine VS.mono (N:=fun F' g'=>Zg h.size h g'∧F' 0=.pointer (some ⟨wb,0,none⟩)∧F' 1=.pointer (some ⟨nb,0,none⟩)∧F' 26=.bool false) ?_ ?_ (fun _ _ _ h=>h) (fun _ _ h=>h)
   ·refine VS.z (h.size) [12] (.p 0 (.p 1 (.p 2 (.p 3 (.p 4 (.p 5 (.p 6 (.q 7 (.p 8 (.p 9 (.p 10 (.q 11 (.w 12 (.p 13 .nil)))))))))))))) mixed (by kernel_rfl) ?_;simp -implicitDefEqProofs only[go_sem,↓reduceIte,Pr,Po,WC]
    try exact Zg.refl _ _
   rintro F1 g1 ⟨b1,f0,f1,f26⟩;have kb:=ZE d b1;simp -implicitDefEqProofs only[go_sem,↓reduceIte,f26];exact⟨f0,f1,a,ZF kb,N.still kb,W.still kb⟩
  | some ra=>
   obtain⟨r,hn⟩:∃r,n.Zi=some r:=by
    have:=N.pt.Zi;rw[NM]at this
    cases hx:n.Zi with
    | none=>rw[hx]at this;exact this.elim
    | some r=>exact⟨r,rfl⟩
   rw[NM]at Pr;unfold Pk Zp at Pr;have R:YP o i h ra r:=by have:=N.pt.Zi;rw[NM,hn]at this;exact this
   obtain⟨q0,_,_,_,_⟩:=R.rr;have BG:=Za R.ZG.2;simp -implicitDefEqProofs only[go_sem,↓reduceIte,Pr];refine VS.mono (N:=fun F' g'=>Zg h.size h g'∧F' 0=.pointer (some ⟨wb,0,none⟩)∧F' 1=.pointer (some ⟨nb,0,none⟩)∧F' 26=.bool (decide (below r.b n.own.p))) ?_ ?_ (fun _ _ _ h=>h) (fun _ _ h=>h)
   ·refine VS.z (h.size) [12] (.p 0 (.p 1 (.p 2 (.p 3 (.p 4 (.p 5 (.p 6 (.q 7 (.p 8 (.p 9 (.p 10 (.q 11 (.w 12 (.p 13 .nil)))))))))))))) mixed (by kernel_rfl) ?_;simp -implicitDefEqProofs only[go_sem,↓reduceIte,Pr,Po,q0,WC,BG];refine (OQ T h n.own.p r.b).use ?_;rintro _ g ⟨rfl,b⟩;simp -implicitDefEqProofs only[go_sem,↓reduceIte,b]
   rintro F1 g1 ⟨b1,f0,f1,f26⟩;have kb:=ZE d b1;have N1:=N.still kb;have W1:=W.still kb;by_cases c:below r.b n.own.p
   ·have es:still n = { n with Zi:=none }:=by unfold still;rw[hn];simp only;rw[if_pos c]
    rw[es];have hpn:a.ZB=.nilFunc:=by
     have:=N.pt.ZB;rw[hp0]at this;exact this
    have pn:UE o g1 wb i nb none a.ZB n.ZB:=by rw[hp0];exact hpn
    obtain⟨g2,w2,N2,k2⟩:=ZV.write (a:={ a with Zi:=none }) (n:={ n with Zi:=none }) { N1.pt with Zi:=trivial,ZB:=pn } kb.ZX N1.ZG ((YY N1.ZG.2 N1.pt.store.len).Zi none);have JU:=Za N1.ZG.2;unfold Pk at w2;simp -implicitDefEqProofs only[go_sem,↓reduceIte,f0,f1,f26,c,w2,JU];exact⟨_,(ZF kb).trans (k2.mono fun t q=>.inr (.inr (.inr (by rw[q];rfl)))),N2,W1.Zd k2 (by rintro t rfl;simp[Tg.of])⟩
   ·have es:still n=n:=by unfold still;rw[hn];simp only;rw[if_neg c]
    rw[es];simp -implicitDefEqProofs only[go_sem,↓reduceIte,f26,c];exact⟨f0,f1,a,ZF kb,N1,W1⟩
 rintro F1 g1 ⟨f0,f1,a1,K1,N1,W1⟩;obtain⟨s,hs⟩:=Zy (still n);rw[←hs]at N1 Zah Zct sme Zcu jN Ee rL Zai Zqo;have srg:s.Zi=none∨s.Zi=n.Zi:=by rw[hs];exact CM n
 obtain⟨Zaj,Zhm,eme,Zcv,Zqp,ets⟩:=Ps s;have els:=CN s;unfold Ws;rw[←hs];clear hs;refine VS.seq (VS.mono (N:=fun F' g'=>F' 0=.pointer (some ⟨wb,0,none⟩)∧F' 1=.pointer (some ⟨nb,0,none⟩)∧∃kb a1,F' 5=.pointer (some ⟨kb,0,none⟩)∧ZR o g' kb (.cells [.int .i64 n.own.p.r,.int .i64 n.own.p.n].toArray 78)∧Kp (XJ i) o h o g'∧ZM o g' wb i nb a1 s∧ZI o g' wb Ya YL fl bad told) ?_ ?_ (fun _ _ _ h=>h) (fun _ _ h=>h))
 ·refine Jl _ _ _ _ _ _ rfl ?_;have P1:=ZA N1.ZG.2 N1.pt.store.len;have P1o:=P1.Cw;rw[jN]at P1o;have WC:=Za N1.ZG.2;obtain⟨g2,QX⟩:=Zy (g1.push (.cells [.int .i64 n.own.p.r,.int .i64 n.own.p.n].toArray 78):Hp);have k2:Kp QL o g1 o g2:=by rw[QX];exact ZY K1.ZX _
  have x5:ZR o g2 g1.size (.cells [.int .i64 n.own.p.r,.int .i64 n.own.p.n].toArray 78):=⟨K1.ZX _ (Nat.le_refl _),by rw[QX];exact Zb⟩
  have e2:=QX.symm;simp -implicitDefEqProofs only[go_sem,↓reduceIte,f0,f1,P1o,WC,e2];exact⟨_,a1,rfl,x5,K1.trans (ZF k2),N1.still k2,W1.still k2⟩
 clear f0 f1 K1 N1 W1;rintro F2 g2 ⟨f0,f1,kb,a2,f5,x5,K2,N2,W2⟩;have AU:=tb.Zd K2;refine VS.seq (VS.mono (N:=fun F' g'=>F' 0=.pointer (some ⟨wb,0,none⟩)∧F' 1=.pointer (some ⟨nb,0,none⟩)∧(YC s).n.ZB=none∧∃o' a1 Xz,Kp (XJ i) o h o' g'∧ZM o' g' wb i nb a1 (YC s).n∧ZI o' g' wb Ya Xz (fl++(YC s).ls) bad told) ?_ ?_ (fun _ _ _ h=>h) (fun _ _ h=>h))
 ·refine Jl _ _ _ _ _ _ rfl ?_;have P2:=ZA N2.ZG.2 N2.pt.store.len;have P2r:=P2.Zi;have jO:=P2.me;have WC:=Za N2.ZG.2;have l5:=Za x5.2
  cases NM:a2.Zi with
  | some ra=>
   obtain⟨r,hn⟩:∃r,s.Zi=some r:=by
    have:=N2.pt.Zi;rw[NM]at this
    cases hx:s.Zi with
    | none=>rw[hx]at this;exact this.elim
    | some r=>exact⟨r,rfl⟩
   have hnr:n.Zi=some r:=by
    rcases srg with e|e
    ·rw[e]at hn;cases hn
    ·rw[←e,hn]
   have e1:YC s=QJ s r:=by unfold YC;rw[hn]
   have ea:a2 = { a2 with Zi:=some ra }:=by rw[←NM]
   have es:s = { s with Zi:=some r }:=by rw[←hn]
   obtain⟨kV,hr2,hr3⟩:=hr r hnr;rw[NM]at P2r;unfold Pk Zp at P2r;have cr:=xQ T g2 o wb i nb Ya a2 s ra r YL fl bad told K2.ZX (by rw[←ea,←es];exact N2) W2 AU (by omega) (by rw[jN];exact qt) (by rw[Zai];exact kX) kV hr2 hr3 (by rw[Zct];omega) (by rw[Ee];omega);rw[←es,←e1]at cr;unfold Zp at cr;simp -implicitDefEqProofs only[go_sem,↓reduceIte,f0,f1,P2r];refine cr.use ?_;rintro v' g3 ⟨o3,a3,ua,k3,N3,W3⟩;have P3:=(ZA N3.ZG.2 N3.pt.store.len).ZB;rcases N3.pt.ZB.fn with⟨c1,c2⟩|⟨c1,f,l,c2⟩
   ·rw[c2]at P3;simp -implicitDefEqProofs only[go_sem,↓reduceIte,f0,f1,P3];exact⟨c1,o3,a3,ua,K2.trans k3,N3,W3⟩
   ·rw[c2]at P3;simp -implicitDefEqProofs only[go_sem,↓reduceIte,f0,f1,P3];rw[if_pos c1];exact⟨o3,a3,ua,K2.trans k3,N3,W3⟩
  | none=>
   have hn:s.Zi=none:=by
    have:=N2.pt.Zi;rw[NM]at this
    cases hx:s.Zi with
    | none=>rfl
    | some r=>rw[hx]at this;exact this.elim
   rw[NM]at P2r;unfold Pk at P2r;have r5a:hc g2 ⟨kb,0,none⟩=some (.int .i64 n.own.p.r):=Zh x5.2;have r5b:hc g2 ⟨kb,1,none⟩=some (.int .i64 n.own.p.n):=Zh x5.2;rw[sme]at jO;by_cases c:0<n.own.p.r∧n.own.p.n≠n.me
   case neg=>
    have e1:YC s=⟨s,[],[]⟩:=by unfold YC;rw[hn];simp only;rw[jN,sme,if_neg c]
    rw[e1];have OS:s.ZB=none:=by rw[rL];exact hp0
    simp -implicitDefEqProofs only[go_sem,↓reduceIte,f0,f1,P2r];refine VS.mono (N:=fun F' g'=>Zg g2.size g2 g'∧F' 0=.pointer (some ⟨wb,0,none⟩)∧F' 1=.pointer (some ⟨nb,0,none⟩)∧F' 53=.bool false) ?_ ?_ (fun _ _ _ h=>h) (fun _ _ h=>h)
    ·refine VS.z (g2.size) [] (.p 0 (.q 1 (.p 2 (.p 3 (.p 4 (.q 5 (.p 6 (.p 7 (.p 8 (.q 9 (.p 10 (.p 11 (.p 12 .nil))))))))))))) mixed (by kernel_rfl) ?_;by_cases c1:0<n.own.p.r
     ·have c2:n.own.p.n=n.me:=by
       rcases Decidable.em (n.own.p.n=n.me) with e|e
       ·exact e
       ·exact (c ⟨c1,e⟩).elim
      simp -implicitDefEqProofs only[go_sem,↓reduceIte,f0,f1,f5,r5a,r5b,jO,l5,WC,c1,c2]
      try exact Zg.refl _ _
     ·simp -implicitDefEqProofs only[go_sem,↓reduceIte,f0,f1,f5,r5a,r5b,jO,l5,WC,c1]
      try exact Zg.refl _ _
    rintro F3 g3 ⟨b3,f0,f1,f53⟩;have WB:=ZE K2.ZX b3;simp -implicitDefEqProofs only[go_sem,↓reduceIte,f53];exact⟨f0,f1,OS,o,a2,YL,K2.trans (ZF WB),N2.still WB,by rw[List.append_nil];exact W2.still WB⟩
   have e1:YC s=⟨s,Ta s,[]⟩:=by unfold YC;rw[hn];simp only;rw[jN,sme,if_pos c]
   rw[e1];have OS:s.ZB=none:=by rw[rL];exact hp0
   obtain⟨c1,c2⟩:=c;simp -implicitDefEqProofs only[go_sem,↓reduceIte,f0,f1,P2r];refine VS.mono (N:=fun F' g'=>Zg g2.size g2 g'∧F' 0=.pointer (some ⟨wb,0,none⟩)∧F' 1=.pointer (some ⟨nb,0,none⟩)∧F' 5=.pointer (some ⟨kb,0,none⟩)∧F' 53=.bool true) ?_ ?_ (fun _ _ _ h=>h) (fun _ _ h=>h)
   ·refine VS.z (g2.size) [] (.p 0 (.q 1 (.p 2 (.p 3 (.p 4 (.q 5 (.p 6 (.p 7 (.p 8 (.q 9 (.p 10 (.p 11 (.p 12 .nil))))))))))))) mixed (by kernel_rfl) ?_;simp -implicitDefEqProofs only[go_sem,↓reduceIte,f0,f1,f5,r5a,r5b,jO,l5,WC,c1,c2]
    try exact Zg.refl _ _
   clear f0 f1 f5;rintro F3 g3 ⟨b3,f0,f1,f5,f53⟩;have WB:=ZE K2.ZX b3;have N3:=N2.still WB;have W3:=W2.still WB;have K3:=K2.trans (ZF (S:=XJ i) WB);have y5:=x5.Zd WB;obtain⟨pq,cq,rI,_⟩:=YG.isSlice N3.pt.queue;have rI:a2.queue=.slice pq s.queue.length cq:=rI;have P3q:=(ZA N3.ZG.2 N3.pt.store.len).queue;rw[rI]at P3q;simp -implicitDefEqProofs only[go_sem,↓reduceIte,f0,f1,f53,P3q];have hql:s.queue.length≤10000000000:=by rw[Ee];exact hq
   refine VS.ZW (fun F g=>F 0=.pointer (some ⟨wb,0,none⟩)∧F 1=.pointer (some ⟨nb,0,none⟩)∧F 5=.pointer (some ⟨kb,0,none⟩)∧F 69=.slice pq s.queue.length cq∧F 70=.int .i64 s.queue.length∧∃(j:Nat) (o':Ow) (Xz:WA),j≤s.queue.length∧F 71=.int .i64 j∧Kp (XJ i) o h o' g∧ZM o' g wb i nb a2 s∧ZI o' g wb Ya Xz (fl++(Ta s).take j) bad told∧ZR o' g kb (.cells [.int .i64 n.own.p.r,.int .i64 n.own.p.n].toArray 78))
    (fun F _=>s.queue.length-(vi (F 71)).toNat) rfl ⟨f0,f1,f5,rfl,rfl,0,o,YL,by omega,rfl,K3,N3,by simpa using W3,y5⟩ ?_
   clear f0 f1 f5 f53 P3q N3 W3 K3 y5 WB b3 x5 K2 N2 W2;rintro F4 g4 ⟨f0,f1,f5,f69,f70,j,o4,fm,hj,f71,K4,N4,W4,y5⟩;have wC:(Ta s).length=s.queue.length:=by unfold Ta;simp
   by_cases ZD:j<s.queue.length
   ·have ZP:(j:Int)<s.queue.length:=by omega
    obtain⟨pz,cz,Fs,aA⟩:=Qo N4.pt.queue.ts;obtain⟨bb,oo,wH,Wk,NN⟩:=aA (by intro e;have:s.queue=[]:=e;rw[this]at ZD;simp at ZD);have Fs:a2.queue=.slice pz s.queue.length cz:=Fs;rw[rI]at Fs;simp only[Value.slice.injEq]at Fs;obtain⟨rfl,_,rfl⟩:=Fs;subst wH;have re:rd g4 ⟨bb,oo+j*5,none⟩ 5=some (s.queue[j]).C:=NN j ZD;obtain⟨x,hx⟩:=Zy (s.queue[j]);rw[←hx]at re;have YV:(Ta s).take (j+1)=(Ta s).take j++[⟨4,s.me,n.own.p.n,Jp,T5 0 Jp x,[]⟩]:=by
     rw[Ym _ j (by rw[wC];exact ZD)]
     congr 2
     unfold Ta;rw[List.getElem_map,←hx,jN]
    obtain⟨g5,rM⟩:=Zy (g4.push (.cells x.C.toArray 47):Hp);have k5:Kp QL o4 g4 o4 g5:=by rw[rM];exact ZY K4.ZX _
    have x7:ZR o4 g5 g4.size (.cells x.C.toArray 47):=⟨K4.ZX _ (Nat.le_refl _),by rw[rM];exact Zb⟩
    have e5:=rM.symm;have N5:=N4.still k5;have W5:=W4.still k5;have z5:=y5.Zd k5;have s5:hc g5 ⟨kb,1,none⟩=some (.int .i64 n.own.p.n):=Zh z5.2;have sx:rd g5 ⟨g4.size,0,none⟩ 5=some [.int .i64 x.k,.int .i64 x.c,.int .i64 x.s,.int .i64 x.n,.int .i64 x.v]:=Zq x7.2 rfl;have re:rd g4 ⟨bb,oo+j*5,none⟩ 5=some [.int .i64 x.k,.int .i64 x.c,.int .i64 x.s,.int .i64 x.n,.int .i64 x.v]:=re;have e5:g4.push (.cells [.int .i64 x.k,.int .i64 x.c,.int .i64 x.s,.int .i64 x.n,.int .i64 x.v].toArray 47)=g5:=e5;have P5:=ZA N5.ZG.2 N5.pt.store.len;have Pq:=Za N5.ZG.2;simp -implicitDefEqProofs only[go_sem,↓reduceIte,f0,f1,f5,f69,f70,f71,ZP,re,e5,s5,sx];have rl:(fl++(Ta s).take j).length≤1000000000000:=by
     rw[List.length_append,List.length_take];omega
    refine (U0 T g5 o4 wb nb Ya s.me fm _ bad told n.own.p.n ⟨4,0,0,Jp,T5 0 Jp x,[]⟩ (.slice none 0 0) k5.ZX W5 P5.me Pq (Im.nil _ _ _ _) rl).use ?_;rintro v' g6 ⟨o6,WA6,k6,_,W6⟩;simp -implicitDefEqProofs only[go_sem,↓reduceIte,f71];unfold Xp;refine⟨⟨f0,f1,f5,f69,f70,j+1,o6,WA6,ZD,rfl,(K4.trans (ZF k5)).trans (k6.mono fun t q=>by rcases q with rfl|rfl<;>simp[XJ]),N5.Zd k6 (by rintro t (rfl|rfl)<;>simp[Tg.of]),by rw[YV,←List.append_assoc];exact W6,z5.Zd k6⟩,?_⟩;simp only[vi,Zm,↓reduceIte,f71];omega
   ·have YK:¬(j:Int)<s.queue.length:=by omega
    obtain rfl:j=s.queue.length:=by omega
    rw[List.take_of_length_le (by rw[wC];exact Nat.le_refl _)]at W4;simp -implicitDefEqProofs only[go_sem,↓reduceIte,f70,f71,YK];exact⟨f0,f1,OS,o4,a2,fm,K4,N4,W4⟩
 clear f0 f1 f5 x5 K2 N2 W2 AU;rintro F3 g3 ⟨f0,f1,OS,o3,a3,ua,K3,N3,W3⟩;rw[if_neg (by rw[OS];simp)];obtain⟨m,hm⟩:=Zy ((YC s).n);obtain⟨ls,hls⟩:=Zy ((YC s).ls);rw[←hm]at Zaj Zhm eme Zcv Zqp N3 OS;rw[←hls]at W3 els;rw[←hm,←hls];clear hm hls;have hmt:0≤m.Xo∧m.Xo<5:=by rw[Zaj,Zah];exact ht
 have aY:m.log.length≤100000000000:=by rw[Zhm,Zct];exact hl
 have hll:ls.length≤10000000200:=by rw[Ee]at els;omega
 refine VS.seq (VS.mono (N:=fun F' g'=>F' 0=.pointer (some ⟨wb,0,none⟩)∧F' 1=.pointer (some ⟨nb,0,none⟩)∧Kp (XJ i) o h o3 g'∧ZM o3 g' wb i nb a3 (Qu m)∧ZI o3 g' wb Ya ua (fl++ls) bad told) ?_ ?_ (fun _ _ _ h=>h) (fun _ _ h=>h))
 ·refine Jl _ _ _ _ _ _ rfl ?_;have P3:=ZA N3.ZG.2 N3.pt.store.len;have P3t:=P3.Xo;have WC:=Za N3.ZG.2;have et:(m.Xo+1).tmod 5=(m.Xo+1)%5:=Int.tmod_eq_emod_of_nonneg (by omega);obtain⟨g4,w4,N4,k4⟩:=ZV.write (a:=a3) (n:=Qu m) { N3.pt with } K3.ZX N3.ZG ((YY N3.ZG.2 N3.pt.store.len).Xo ((m.Xo+1)%5));simp -implicitDefEqProofs only[go_sem,↓reduceIte,f0,f1,P3t,et,w4,WC];exact⟨K3.trans (k4.mono fun t q=>.inr (.inr (.inr (by rw[q];rfl)))),N4,W3.Zd k4 (by rintro t rfl;simp[Tg.of])⟩
 clear f0 f1 K3 N3 W3;rintro F4 g4 ⟨f0,f1,K4,N4,W4⟩;obtain⟨q,hq0⟩:=Zy (Qu m);have ql:q.log=m.log:=by rw[hq0];rfl
 rw[←hq0]at N4 ⊢;clear hq0;have P4:=ZA N4.ZG.2 N4.pt.store.len;have P4t:=P4.Xo;have Zcx:=P4.me;have P4o:=P4.Cw;have P4l:=P4.log;obtain⟨pl,cl,LV,_⟩:=YG.isSlice N4.pt.log;have LV:a3.log=.slice pl q.log.length cl:=LV;rw[LV]at P4l;have WC:=Za N4.ZG.2;rw[←ql]at aY;refine Jl _ _ _ _ _ _ rfl ?_;simp -implicitDefEqProofs only[go_sem,↓reduceIte];by_cases c:q.Xo≠q.me∧q.log.length<40
 case neg=>
  have e1:VA q=[]:=by unfold VA;rw[if_neg c]
  rw[e1,List.append_nil];refine VS.mono (N:=fun F' g'=>Zg g4.size g4 g'∧F' 109=.bool false) ?_ ?_ (fun _ _ _ h=>h) (fun _ _ h=>h)
  ·refine VS.z (g4.size) [] (.p 0 (.p 1 (.p 2 (.q 3 (.p 4 (.p 5 (.p 6 (.q 7 (.p 8 (.p 9 (.p 10 (.p 11 (.p 12 (.q 13 (.p 14 (.p 15 (.p 16 .nil))))))))))))))))) mixed (by kernel_rfl) ?_;by_cases c1:q.Xo=q.me
   ·simp -implicitDefEqProofs only[go_sem,↓reduceIte,f0,f1,P4t,Zcx,P4l,WC,c1]
    try exact Zg.refl _ _
   ·have c2:¬(q.log.length:Int)<40:=by
     intro e;exact c ⟨c1,by omega⟩
    simp -implicitDefEqProofs only[go_sem,↓reduceIte,f0,f1,P4t,Zcx,P4l,WC,c1,c2]
    try exact Zg.refl _ _
  rintro F5 g5 ⟨b5,f109⟩;have GC:=ZE K4.ZX b5;simp -implicitDefEqProofs only[go_sem,↓reduceIte,f109];exact⟨o3,a3,ua,K4.trans (ZF GC),N4.still GC,W4.still GC⟩
 have e1:VA q=[⟨5,q.me,q.Xo,UO q,T5 q.log.length Jp BD,[]⟩]:=by unfold VA;rw[if_pos c]
 rw[e1];obtain⟨c1,c2⟩:=c;have c2:(q.log.length:Int)<40:=by omega
 refine VS.mono (N:=fun F' g'=>Zg g4.size g4 g'∧F' 0=.pointer (some ⟨wb,0,none⟩)∧F' 1=.pointer (some ⟨nb,0,none⟩)∧F' 109=.bool true) ?_ ?_ (fun _ _ _ h=>h) (fun _ _ h=>h)
 ·refine VS.z (g4.size) [] (.p 0 (.p 1 (.p 2 (.q 3 (.p 4 (.p 5 (.p 6 (.q 7 (.p 8 (.p 9 (.p 10 (.p 11 (.p 12 (.q 13 (.p 14 (.p 15 (.p 16 .nil))))))))))))))))) mixed (by kernel_rfl) ?_;simp -implicitDefEqProofs only[go_sem,↓reduceIte,f0,f1,P4t,Zcx,P4l,WC,c1,c2]
  try exact Zg.refl _ _
 clear f0 f1;rintro F5 g5 ⟨b5,f0,f1,f109⟩;have GC:=ZE K4.ZX b5;have N5:=N4.still GC;have W5:=W4.still GC;have K5:Kp (XJ i) o h o3 g5:=K4.trans (ZF GC);have P5:=ZA N5.ZG.2 N5.pt.store.len;have P5o:=P5.Cw;have Pq:=Za N5.ZG.2;obtain⟨g6,Rk⟩:=Zy (g5.push (.cells [.int .i64 q.own.p.r,.int .i64 q.own.p.n].toArray 78):Hp);have k6:Kp QL o3 g5 o3 g6:=by rw[Rk];exact ZY K5.ZX _
 have x8:ZR o3 g6 g5.size (.cells [.int .i64 q.own.p.r,.int .i64 q.own.p.n].toArray 78):=⟨K5.ZX _ (Nat.le_refl _),by rw[Rk];exact Zb⟩
 have e6:=Rk.symm;have N6:=N5.still k6;have W6:=W5.still k6;have K6:Kp (XJ i) o h o3 g6:=K5.trans (ZF k6);have P6h:=(ZA N6.ZG.2 N6.pt.store.len).heard;have rK:=Za N6.ZG.2;have l8:=Za x8.2;have r8:rd g6 ⟨g5.size,0,none⟩ 2=some [.int .i64 q.own.p.r,.int .i64 q.own.p.n]:=Zq x8.2 rfl;obtain⟨kb,tH⟩:=Zy (g5.size);simp -implicitDefEqProofs only[go_sem,↓reduceIte,f0,f1,f109,P5o,Pq,e6];rw[←tH]at x8 l8 r8 ⊢;refine VS.mono (N:=fun F' g'=>Zg g6.size g6 g'∧F' 0=.pointer (some ⟨wb,0,none⟩)∧F' 1=.pointer (some ⟨nb,0,none⟩)∧F' 8=.pointer (some ⟨kb,0,none⟩)∧F' 120=.bool (decide (below q.own.p q.heard))) ?_ ?_ (fun _ _ _ h=>h) (fun _ _ h=>h)
 ·refine VS.z (g6.size) [5] (.p 0 (.p 1 (.p 2 (.q 3 (.q 4 (.w 5 .nil)))))) mixed (by kernel_rfl) ?_;simp -implicitDefEqProofs only[go_sem,↓reduceIte,f0,f1,P6h,r8,rK,l8];refine (OQ T g6 q.heard q.own.p).use ?_;rintro _ g ⟨rfl,b⟩;simp -implicitDefEqProofs only[go_sem,↓reduceIte,b];exact⟨f0,f1⟩
 clear f0 f1;rintro F7 g7 ⟨b7,f0,f1,f8,f120⟩;have kb7:=ZE K6.ZX b7;have N7:=N6.still kb7;have W7:=W6.still kb7;have K7:Kp (XJ i) o h o3 g7:=K6.trans (ZF kb7);have y8:=x8.Zd kb7;have P7h:=(ZA N7.ZG.2 N7.pt.store.len).heard;have Zcy:=Za N7.ZG.2;have m8:=Za y8.2;by_cases c6:below q.own.p q.heard
 all_goals
 first
 | (have eb:UO q=q.heard:=by unfold UO;rw[if_pos c6]
    obtain⟨g8,La⟩:=Zy (g7.setIfInBounds kb (.cells [.int .i64 q.heard.r,.int .i64 q.heard.n].toArray 78):Hp);have w8:wr g7 ⟨kb,0,none⟩ [.int .i64 q.heard.r,.int .i64 q.heard.n]=some g8:=by rw[ZU y8.2 0 _,La];rfl
    have k8:Kp QL o3 g5 o3 g8:=by rw[La];exact (k6.trans kb7).AT (by omega) _
    have z8:ZR o3 g8 kb (.cells [.int .i64 (UO q).r,.int .i64 (UO q).n].toArray 78):=⟨y8.1,by rw[La,eb];exact Zx y8.2⟩
    simp -implicitDefEqProofs only[go_sem,↓reduceIte,f0,f1,f8,f120,c6,P7h,Zcy,w8])
 | (have eb:UO q=q.own.p:=by unfold UO;rw[if_neg c6]
    obtain⟨g8,La⟩:=Zy (g7:Hp);have k8:Kp QL o3 g5 o3 g8:=by rw[La];exact k6.trans kb7
    have z8:ZR o3 g8 kb (.cells [.int .i64 (UO q).r,.int .i64 (UO q).n].toArray 78):=⟨y8.1,by rw[La,eb];exact y8.2⟩
    simp -implicitDefEqProofs only[go_sem,↓reduceIte,f120,c6];rw[←La])
 all_goals
  have N8:=N5.still k8;have W8:=W5.still k8;have K8:Kp (XJ i) o h o3 g8:=K5.trans (ZF k8);have P8:=ZA N8.ZG.2 N8.pt.store.len;have P8t:=P8.Xo;have P8l:=P8.log;rw[LV]at P8l;have xX:=Za N8.ZG.2;have n8:=Za z8.2;have s8:rd g8 ⟨kb,0,none⟩ 2=some [.int .i64 (UO q).r,.int .i64 (UO q).n]:=Zq z8.2 rfl;refine VS.z (g8.size) [14] (.p 0 (.p 1 (.p 2 (.p 3 (.p 4 (.q 5 (.q 6 (.p 7 (.p 8 (.p 9 (.q 10 (.p 11 (.p 12 (.p 13 (.w 14 .nil))))))))))))))) mixed (by kernel_rfl) ?_;simp -implicitDefEqProofs only[go_sem,↓reduceIte,f0,f1,f8,P8t,P8l,s8,xX,n8];have rl:(fl++ls).length≤1000000000000:=by rw[List.length_append];omega
  refine (U0 T g8 o3 wb nb Ya q.me ua _ bad told q.Xo ⟨5,0,0,UO q,T5 q.log.length Jp BD,[]⟩ (.slice none 0 0) K8.ZX W8 P8.me xX (Im.nil _ _ _ _) rl).use ?_;rintro v' g9 ⟨o9,WA9,k9,_,W9⟩;simp -implicitDefEqProofs only[go_sem,↓reduceIte];exact⟨o9,a3,WA9,K8.trans (k9.mono fun t q=>by rcases q with rfl|rfl<;>simp[XJ]),N8.Zd k9 (by rintro t (rfl|rfl)<;>simp[Tg.of]),by rw[←List.append_assoc];exact W9⟩
structure bP (n:Nd) (l:Y7) (fl told:Nat):Prop where
 kind:0≤l.kind∧l.kind≤7
 room:fl≤1000000000000
 YM:n.own.l.length≤1000000
 data:n.data.length≤1000000
 known:n.known.length≤100000000000
 log:n.log.length≤100000000000
 told:told≤100000000000
 queue:n.queue.length≤1000000000000
 waiting:n.waiting.length≤1000000000000
 Tc:∀r s,n.Zi=some r→((Yu r.Xy s).getD []).length≤1000000
structure rN (n:Nd) (fl:Nat):Prop where
 room:fl≤800000000000
 YM:n.own.l.length≤1000000
 data:n.data.length≤1000000
 rgn:∀r,n.Zi=some r→(∀x∈r.prom,x.2.length≤1000000)∧(∀x∈r.prom,∀v∈x.2,v.slot≤1000000)∧r.prom.length≤1000000000000
 log:n.log.length≤100000000000
 queue:n.queue.length≤10000000000
 Xo:0≤n.Xo∧n.Xo<5
def S6:Nd→List Y7→Nat→Nat→Prop
 | _,[],_,_=>True
 | n,l :: k,f,t=>n.ZB.isSome=true∨(bP { n with inbox:=k } l f t∧S6 (handle { n with inbox:=k } l).n k (f+(handle { n with inbox:=k } l).ls.length) (t+(handle { n with inbox:=k } l).ts.length))
structure bQ (n:Nd) (fl told:Nat):Prop where
 data:n.data.length≤1000000
 room:fl≤1000000000000
 dr:n.ZB=none→S6 n n.inbox fl told
 du:n.ZB=none→(drain n n.inbox).n.ZB=none→rN (drain n n.inbox).n (fl+(drain n n.inbox).ls.length)
theorem Ef (n:Nd) (l:Y7) (k:List Y7):(handle { n with inbox:=k } l).n.inbox=k:=by
 have hL:∀(m:Nat) (x:Nd),(Yz m x).1.inbox=x.inbox:=by
  intro m
  induction m with
  | zero=>intro x;rfl
  | succ m ih=>
   intro x;unfold Yz;split
   ·rfl
   ·simp only;rw[ih];rfl
 have hl:∀(x:Nd) s c,(UC x s c).n.inbox=x.inbox:=fun x s c=>by unfold UC;simp only;rw[hL];rfl
 have hn:∀x:Nd,(notes x l).inbox=x.inbox:=fun x=>by unfold notes;split<;>rfl
 unfold handle;split
 ·unfold YW;split;· rfl
  split;· rfl
  split<;>rfl
 split
 ·unfold YB;split
  ·rfl
  ·split
   ·split<;>rfl
   ·split;· rfl
    split
    ·rw[hl];rfl
    ·rfl
 split
 ·unfold asked;split;· rfl
  split;· rfl
  split<;>rfl
 split
 ·unfold add;simp only;split<;>rfl
 split
 ·unfold Wq;split
  ·simp only;rw[hn]
  ·simp only;rw[hn]
 split
 ·rw[hl]
 ·simp only;rw[hn]
theorem xY {o:Ow} {t:Tg} {h:Hp} {v:Value} {l:Y7} {k:List Y7} (s:Q0 o t h v (l :: k)) :
  ∃w b off c,v=.slice (some ⟨b,off,none⟩) (k.length+1) c∧k.length+1≤c∧rd h ⟨b,off,none⟩ 14=some (Y2 l w)∧Wz o h w l.vs∧Q0 o t h (.slice (if c=1 then some ⟨b,off,none⟩ else some ⟨b,off+14,none⟩) k.length (c-1)) k:=by
 obtain⟨xs,h1,h2,h3⟩:=s
 cases xs with
 | nil=>cases h1
 | cons x xs=>
  obtain⟨l',w⟩:=x;simp only[List.map_cons,List.cons.injEq]at h1;obtain⟨rfl,rfl⟩:=h1;have h2':=h2;rcases h2 with⟨_,e,_⟩|⟨b,off,cap,pre,spare,g1,rfl,g3,g4,g5,g6,g7⟩
  ·cases e
  refine⟨w,b,off,cap,by rw[List.length_map];rfl,by rw[List.length_map];exact g7,?_,h3 (l',w) (by simp),?_⟩
  ·have e1:Zz MI ((l',w) :: xs)=Y2 l' w++Zz MI xs:=by simp[Zz,MI]
   have g5':(Zz MI ((l',w) :: xs)).length=(xs.length+1)*14:=g5;rw[Z8 g3 (by simp only[List.length_append];omega),←g4,List.drop_left,e1,List.append_assoc];rfl
  ·refine⟨xs,rfl,?_,fun x hx=>h3 x (by simp[hx])⟩;have tl:=h2'.tail (k:=1) (by simp);have e1:Zz MI ((l',w) :: xs)=Y2 l' w++Zz MI xs:=by simp[Zz,MI]
   rw[e1]at tl;have e2:(Y2 l' w++Zz MI xs).drop (1*14)=Zz MI xs:=rfl;rw[e2]at tl
   simpa [Y1] using tl
def CO (nb:Nat) (g:Hp):Nat:=match hc g ⟨nb,54,none⟩ with
 | some (.slice _ m _)=>m
 | _=>0
theorem CP {o:Ow} {h:Hp} {wb i nb:Nat} {a:NA} {n:Nd} (N:ZM o h wb i nb a n):CO nb h=n.inbox.length:=by
 obtain⟨xs,h1,h2,_⟩:=N.pt.inbox;obtain⟨p,c,h3,_⟩:=h2.isSlice;have:=(ZA N.ZG.2 N.pt.store.len).inbox;unfold CO;rw[this,h3,←h1,List.length_map]
theorem CQ {i:Nat} (t:Tg) (q:Zcp i t):XJ i t:=by
 rcases q with rfl|rfl|rfl|rfl|rfl
 ·exact .inl rfl
 ·exact .inr (.inl rfl)
 all_goals exact .inr (.inr (.inr rfl))
set_option maxHeartbeats 4000000 in
theorem rO (T:World) (h:Hp) (o:Ow) (wb i nb:Nat) (Ya:Nat→Nat) (a:NA) (n:Nd) (YL:WA) (fl:List Y7) (bad:Nat→Int) (told:List Ri) (d:UF o h)
  (N:ZM o h wb i nb a n) (W:ZI o h wb Ya YL fl bad told) (tb:BE o h) (ok:bQ n fl.length told.length) :
  Zc Tryz.prog T 32 #[Zp wb,Zp nb] h fun v' h'=>∃o' a' Xz,Kp (XJ i) o h o' h'∧ZM o' h' wb i nb a' (step n).n∧ZI o' h' wb Ya Xz (fl++(step n).ls) bad (told++(step n).ts):=by
 refine Zc.Zj (args:=[_,_]) Tryz.func32 rfl rfl rfl rfl ?_;unfold Zp;have P:=ZA N.ZG.2 N.pt.store.len;have WC:=Za N.ZG.2;have Pu:=P.up
 cases hu:n.up with
 | false=>
  have e1:step n=⟨n,[],[]⟩:=by unfold step;rw[hu];rfl
  rw[hu]at Pu;rw[e1,List.append_nil,List.append_nil];simp -implicitDefEqProofs only[go_sem,↓reduceIte,Pu];exact⟨o,a,YL,Kp.refl d _,N,W⟩
 | true=>
 rw[hu]at Pu;have Pp:=P.ZB
 cases hp:n.ZB with
 | some p=>
  have e1:step n=finish (synced n) p:=by unfold step;rw[hu,hp];rfl
  rw[e1];have Pn:=N.pt.ZB;rw[hp]at Pn;obtain⟨f,l,hf⟩:∃f l,a.ZB=.func (.func f) #[] l:=by
   rcases Pn.fn with⟨c,_⟩|⟨_,c⟩
   ·cases c
   ·exact c
  have Pp':=Pp;rw[hf]at Pp';obtain⟨pd,cd,OS⟩:=N.pt.data.1.isSlice;have OS:a.data=.slice pd n.data.length cd:=OS;have Pt:=P.tape;rw[OS]at Pt;have Nd:=N.pt.data;rw[OS]at Nd;simp -implicitDefEqProofs only[go_sem,↓reduceIte,Pu,Pp',Pt];refine (vG T h _ n.Xe n.data Nd.bs (by have:=ok.data;omega)).use ?_;rintro v1 h1 ⟨b1,s1⟩;have kb:=ZE d b1;have N1:=N.still kb;have W1:=W.still kb;obtain⟨p1,c1,rfl,i1⟩:∃p1 c1,v1=.tuple [.agg [.slice p1 (synced n).data.length c1,.int .i64 (synced n).Xe].toArray,.int .i64 (if YS n.data n.Xe then 0 else 5)].toArray∧To o h1 (.slice p1 (synced n).data.length c1) (synced n).data:=by
   unfold ai at s1;by_cases c:YS n.data n.Xe
   ·rw[if_pos (show n.data.length≤100000∧0≤n.Xe∧n.Xe≤n.data.length from c)]at s1;obtain⟨w,rfl,o1⟩:=s1;obtain⟨p1,c1,rfl,_⟩:=o1.bs.open;have e2:(synced n).data=n.data:=by unfold synced;simp only;rw[if_pos c]
    have e3:(synced n).Xe=n.data.length:=by unfold synced;simp only;rw[if_pos c]
    rw[e2,e3,if_pos c];exact⟨p1,c1,rfl,Im.Ue o1.own (fun b hb=>d b hb),o1.byte⟩
   ·rw[if_neg (show ¬(n.data.length≤100000∧0≤n.Xe∧n.Xe≤n.data.length) from c)]at s1;have e2:(synced n).data=[]:=by unfold synced;simp only;rw[if_neg c]
    have e3:(synced n).Xe=0:=by unfold synced;simp only;rw[if_neg c]
    rw[e2,e3,if_neg c];exact⟨none,0,s1,Im.nil _ _ _ _,fun x hx=>by cases hx⟩
  obtain⟨g2,w2,N2,k2⟩:=ZV.write (a:={ a with data:=.slice p1 (synced n).data.length c1 }) (n:={ n with data:=(synced n).data,Xe:=(synced n).Xe }) { N1.pt with data:=i1 } kb.ZX N1.ZG ((YY N1.ZG.2 N1.pt.store.len).tape (.slice p1 (synced n).data.length c1) (synced n).Xe rfl);have JU:=Za N1.ZG.2;have JZ:=Za N2.ZG.2;have bT:hc g2 ⟨nb,55,none⟩=some a.ZB:=(ZA N2.ZG.2 N2.pt.store.len).ZB;have pn:UE o g2 wb i nb a.Zi .nilFunc none:=rfl;obtain⟨g3,w3,N3,k3⟩:=ZV.write (a:={ a with data:=.slice p1 (synced n).data.length c1,ZB:=.nilFunc }) (n:=synced n) { N2.pt with ZB:=pn } k2.ZX N2.ZG ((YY N2.ZG.2 N2.pt.store.len).ZB .nilFunc rfl);have K3:Kp (XJ i) o h o g3:=((ZF kb).trans (k2.mono fun t q=>.inr (.inr (.inr (by rw[q];rfl))))).trans (k3.mono fun t q=>.inr (.inr (.inr (by rw[q];rfl))));have W3:=(W1.Zd k2 (by rintro t rfl;simp[Tg.of])).Zd k3 (by rintro t rfl;simp[Tg.of]);have Pn3:UE o g3 wb i nb a.Zi a.ZB (some p):=((Pn.Zd kb (by rintro⟨⟩)).Zd k2 (by intro e;cases e)).Zd k3 (by intro e;cases e);clear hf Pp';rw[show (finish (synced n) p).ts=[] from by cases p<;>rfl,List.append_nil];have rm:=ok.room;have hns:(synced n).ZB=none:=rfl
  cases p with
  | Lb acc to b vs=>
   obtain⟨b6,b4,b9,u,h1',h2',h3',h4',h5'⟩:=Pn3;have cf:=xx T g3 o wb i nb Ya YL fl bad told _ (synced n) acc to b vs b6 b4 b9 u k3.ZX N3 W3 rm h2' h3' h4' h5';rw[h1']at bT;unfold WM at bT;simp only[List.map]at bT;unfold Zp at bT cf;simp -implicitDefEqProofs only[go_sem,↓reduceIte,w2,JU,bT,w3,JZ];refine cf.use ?_;rintro v' h' ⟨o',a',Xz,k,N',W'⟩;simp -implicitDefEqProofs only[go_sem,↓reduceIte];exact⟨o',a',Xz,K3.trans (k.mono CQ),N',W'⟩
  | MG acc to x=>
   obtain⟨b6,b4,b9,u,h1',h2',h3',h4',h5'⟩:=Pn3;have cf:=xy T g3 o wb i nb Ya YL fl bad told _ (synced n) acc to x b6 b4 b9 u k3.ZX N3 W3 rm h2' h3' h4' h5';rw[h1']at bT;unfold WM at bT;simp only[List.map]at bT;unfold Zp at bT cf;simp -implicitDefEqProofs only[go_sem,↓reduceIte,w2,JU,bT,w3,JZ];refine cf.use ?_;rintro v' h' ⟨o',a',Xz,k,N',W'⟩;simp -implicitDefEqProofs only[go_sem,↓reduceIte];exact⟨o',a',Xz,K3.trans (k.mono CQ),N',W'⟩
  | own acc vs cur=>
   obtain⟨b6,b4,b7,b5,h1',cf⟩:=xz T g3 o wb i nb _ (synced n) acc vs cur a.ZB k3.ZX N3 hns Pn3;rw[h1']at bT;unfold WM at bT;simp only[List.map]at bT;unfold Zp at bT cf;rw[show (finish (synced n) (.own acc vs cur)).ls=[] from rfl,List.append_nil];simp -implicitDefEqProofs only[go_sem,↓reduceIte,w2,JU,bT,w3,JZ];refine cf.use ?_;rintro v' h' ⟨o',a',k,N'⟩;simp -implicitDefEqProofs only[go_sem,↓reduceIte];exact⟨o',a',YL,K3.trans (k.mono fun t q=>by rcases q with rfl|rfl|rfl<;>exact .inr (.inr (.inr rfl))),N',W3.Zd k (fun t q=>by rcases q with rfl|rfl|rfl<;>simp[Tg.of])⟩
 | none=>
  have Pp0:a.ZB=.nilFunc:=by have:=N.pt.ZB;rw[hp]at this;exact this
  have Pp1:=P.ZB;rw[Pp0]at Pp1;simp -implicitDefEqProofs only[go_sem,↓reduceIte,Pu,Pp1];obtain⟨D,hD⟩:=Zy (drain n n.inbox);have dr:=ok.dr hp;have du:=ok.du hp;have e1:step n=if D.n.ZB.isSome=true then D else ⟨(Ws D.n).n,D.ls++(Ws D.n).ls,D.ts++(Ws D.n).ts⟩:=by unfold step;rw[hu,hp,hD];rfl
  rw[←hD]at du;rw[e1];refine VS.ZW (fun F g=>F 0=.pointer (some ⟨wb,0,none⟩)∧F 1=.pointer (some ⟨nb,0,none⟩)∧∃(o':Ow) (a':NA) (Xz:WA) (m:Nd) (ls:List Y7) (ts:List Ri),Kp (XJ i) o h o' g∧ZM o' g wb i nb a' m∧ZI o' g wb Ya Xz (fl++ls) bad (told++ts)∧D=⟨(drain m m.inbox).n,ls++(drain m m.inbox).ls,ts++(drain m m.inbox).ts⟩∧S6 m m.inbox (fl.length+ls.length) (told.length+ts.length))
   (fun _ g=>CO nb g) rfl ⟨rfl,rfl,o,a,YL,n,[],[],Kp.refl d _,N,by simpa using W,by rw[hD];rfl,by simpa using dr⟩ ?_
  clear Pu Pp Pp0 Pp1 P WC N W d;rintro F1 g1 ⟨f0,f1,o1,a1,ub,m,ls,ts,K1,N1,W1,hDm,dr1⟩;have P1:=ZA N1.ZG.2 N1.pt.store.len;have JU:=Za N1.ZG.2;have P1i:=P1.inbox;have xR:=P1.ZB;have stop:(m.inbox=[]∨m.ZB.isSome=true)→D=⟨m,ls,ts⟩:=by
   intro q;have e2:drain m m.inbox=⟨m,[],[]⟩:=by
    cases uc:m.inbox with
    | nil=>unfold drain;rw[←uc]
    | cons l k=>
     rcases q with q|q
     ·rw[uc]at q;cases q
     ·unfold drain;rw[if_pos q,←uc]
   rw[hDm,e2];simp
  rcases N1.pt.ZB.fn with⟨c1,c2⟩|⟨c1,f,fl',c2⟩
  ·rw[c2]at xR
   cases uc:m.inbox with
   | nil=>
    have eD:=stop (.inl uc);obtain⟨p,c,hi⟩:∃p c,a1.inbox=.slice p 0 c:=by
     have:=N1.pt.inbox;rw[uc]at this;obtain⟨xs,h1,h2,_⟩:=this;obtain⟨p,c,h3,_⟩:=h2.isSlice;rw[List.map_eq_nil_iff]at h1;subst h1;exact⟨p,c,h3⟩
    rw[hi]at P1i;have dok:=du (by rw[eD];exact c1);rw[eD]at dok;rw[eD,if_neg (by rw[c1];simp)];have cd:=xW T g1 o1 wb i nb Ya a1 m ub (fl++ls) bad (told++ts) K1.ZX N1 W1 (tb.Zd K1) c1 (by rw[List.length_append];exact dok.room) dok.YM dok.data dok.rgn dok.log dok.queue dok.Xo;unfold Zp at cd;simp -implicitDefEqProofs only[go_sem,↓reduceIte,f0,f1,P1i,xR];refine cd.use ?_;rintro v' g2 ⟨o2,a2,WA2,k2,N2,W2⟩;simp -implicitDefEqProofs only[go_sem,↓reduceIte];have edt:(Ws m).ts=[]:=by
     unfold Ws;split
     ·exact (Ps _).2.2.2.2.2
     ·rfl
    refine⟨o2,a2,WA2,K1.trans k2,N2,?_⟩;rw[edt,List.append_nil,←List.append_assoc];exact W2
   | cons l k=>
    have NI:=N1.pt.inbox;rw[uc]at NI;obtain⟨w,b,off,c,hi,Us,NN,iv,tl⟩:=xY NI;rw[hi]at P1i;rw[uc]at dr1;have hk:bP { m with inbox:=k } l (fl.length+ls.length) (told.length+ts.length)∧S6 (handle { m with inbox:=k } l).n k (fl.length+ls.length+(handle { m with inbox:=k } l).ls.length) (told.length+ts.length+(handle { m with inbox:=k } l).ts.length):=by
     rcases dr1 with q|q
     ·rw[c1]at q;cases q
     ·exact q
    obtain⟨hk,dr2⟩:=hk;have BF:D=⟨(drain (handle { m with inbox:=k } l).n k).n,(ls++(handle { m with inbox:=k } l).ls)++(drain (handle { m with inbox:=k } l).n k).ls,(ts++(handle { m with inbox:=k } l).ts)++(drain (handle { m with inbox:=k } l).n k).ts⟩:=by
     rw[hDm,uc];have e2:drain m (l :: k)=⟨(drain (handle { m with inbox:=k } l).n k).n,(handle { m with inbox:=k } l).ls++(drain (handle { m with inbox:=k } l).n k).ls,(handle { m with inbox:=k } l).ts++(drain (handle { m with inbox:=k } l).n k).ts⟩:=by
      rw[drain];rw[if_neg (by rw[c1];simp)]
     rw[e2];simp
    have RN:=Ef m l k;clear stop dr1 hDm;obtain⟨pw,cw,rfl⟩:=iv.isSlice;obtain⟨g2,QX⟩:=Zy (g1.push (.cells (Y2 l (.slice pw l.vs.length cw)).toArray 111):Hp);have k2:Kp QL o1 g1 o1 g2:=by rw[QX];exact ZY K1.ZX _
    have x5:ZR o1 g2 g1.size (.cells (Y2 l (.slice pw l.vs.length cw)).toArray 111):=⟨K1.ZX _ (Nat.le_refl _),by rw[QX];exact Zb⟩
    have e2:=QX.symm;have N2:=N1.still k2;have W2:=W1.still k2;have P2i:=(ZA N2.ZG.2 N2.pt.store.len).inbox;rw[hi]at P2i;have JZ:=Za N2.ZG.2;obtain⟨vi',hvi⟩:∃v:Value,v=.slice (if c=1 then some ⟨b,off,none⟩ else some ⟨b,off+14,none⟩) k.length (c-1):=⟨_,rfl⟩
    have tl2:Q0 o1 (.inbox i) g2 vi' k:=by rw[hvi];exact tl.Zd k2 (fun q=>q.elim)
    obtain⟨g3,w3,N3,k3⟩:=ZV.write (a:={ a1 with inbox:=vi' }) (n:={ m with inbox:=k }) { N2.pt with inbox:=tl2 } k2.ZX N2.ZG ((YY N2.ZG.2 N2.pt.store.len).inbox vi' (by rw[hvi];rfl));rw[hvi]at w3;have y5:=x5.Zd k3;have W3:=W2.Zd k3 (by rintro t rfl;simp[Tg.of]);have r5:rd g3 ⟨g1.size,0,none⟩ 14=some (Y2 l (.slice pw l.vs.length cw)):=Zq y5.2 rfl;have K3:Kp (XJ i) o h o1 g3:=(K1.trans (ZF k2)).trans (k3.mono fun t q=>.inr (.inr (.inr (by rw[q];rfl))));have HS:(1:Int)≤c:=by omega
    have ch:=jF T g3 o1 wb i nb Ya _ { m with inbox:=k } ub (fl++ls) bad (told++ts) l (.slice pw l.vs.length cw) k3.ZX N3 W3 ((iv.Zd k2).Zd k3) (tb.Zd K3) hk.kind (by rw[List.length_append];exact hk.room) hk.YM hk.data hk.known hk.log (by rw[List.length_append];exact hk.told) hk.queue hk.waiting hk.Tc;unfold Zp Y2 at ch;unfold Y2 at NN e2 r5;simp -implicitDefEqProofs only[go_sem,↓reduceIte,f0,f1,P1i,xR,NN,e2,P2i,JZ,w3,Us,HS,r5,Nat.add_sub_cancel];refine ch.use ?_;rintro v' g4 ⟨o4,a4,fm,k4,N4,W4⟩;simp -implicitDefEqProofs only[go_sem,↓reduceIte];unfold Xp;have in4:=CP N4;have in1:=CP N1;rw[RN]at in4;rw[uc]at in1;refine⟨⟨f0,f1,o4,a4,fm,(handle { m with inbox:=k } l).n,ls++(handle { m with inbox:=k } l).ls,ts++(handle { m with inbox:=k } l).ts,K3.trans k4,N4,by rw[←List.append_assoc,←List.append_assoc];exact W4,by rw[RN];exact BF,by rw[RN,List.length_append,List.length_append,←Nat.add_assoc,←Nat.add_assoc];exact dr2⟩,?_⟩;show CO nb g4<CO nb g1;rw[in4,in1];simp
  ·rw[c2]at xR;have eD:=stop (.inr c1);rw[eD,if_pos c1];obtain⟨p,c,hi⟩:∃p c,a1.inbox=.slice p m.inbox.length c:=by
    obtain⟨xs,h1,h2,_⟩:=N1.pt.inbox;obtain⟨p,c,h3,_⟩:=h2.isSlice;rw[←h1,List.length_map];exact⟨p,c,h3⟩
   rw[hi]at P1i;by_cases hz:0<m.inbox.length
   ·have EJ:(0:Int)<m.inbox.length:=by omega
    simp -implicitDefEqProofs only[go_sem,↓reduceIte,f0,f1,P1i,xR,EJ];exact⟨o1,a1,ub,K1,N1,W1⟩
   ·have EJ:¬(0:Int)<m.inbox.length:=by omega
    simp -implicitDefEqProofs only[go_sem,↓reduceIte,f0,f1,P1i,xR,EJ];exact⟨o1,a1,ub,K1,N1,W1⟩
def VE (t:Tg):Prop:=True
def Zhp (t:Tg):Prop:=∃i,t.of=some i
theorem Ye {S:Tg→Prop} {o o':Ow} {h h':Hp} (k:Kp S o h o' h'):Kp VE o h o' h':=k.mono fun _ _=>trivial
structure Jr (o:Ow) (h:Hp) (wb:Nat) (Ya:Nat→Nat) (YL:WA) (w:Wd):Prop where
 wd:ZI o h wb Ya YL w.Zn w.bad w.told
 nd:∀i,i<5→∃a,ZM o h wb i (Ya i) a (w.nodes i)
theorem Jr.still {o:Ow} {h h':Hp} {wb:Nat} {Ya:Nat→Nat} {YL:WA} {w:Wd} {o':Ow} (A:Jr o h wb Ya YL w) (k:Kp QL o h o' h'):Jr o' h' wb Ya YL w:=
 ⟨A.wd.still k,fun i hi=>by obtain⟨a,N⟩:=A.nd i hi;exact⟨a,N.still k⟩⟩
theorem Jr.Xo {o o':Ow} {h h':Hp} {wb:Nat} {Ya:Nat→Nat} {YL ub:WA} {w:Wd} {i:Nat} {a:NA} {n:Nd} {fl:List Y7} {bad:Nat→Int} {told:List Ri} (A:Jr o h wb Ya YL w) (k:Kp (XJ i) o h o' h')
  (N:ZM o' h' wb i (Ya i) a n) (W:ZI o' h' wb Ya ub fl bad told):Jr o' h' wb Ya ub { nodes:=fun j=>if j=i then n else w.nodes j,Zn:=fl,bad:=bad,told:=told }:=by
 refine⟨W,fun j hj=>?_⟩;by_cases e:j=i
 ·subst e;exact⟨a,by simpa using N⟩
 ·obtain⟨b,M⟩:=A.nd j hj;refine⟨b,?_⟩;simp only[if_neg e];refine M.Zd k fun t q hq=>?_;rcases q with rfl|rfl|rfl|q
  ·cases hq
  ·cases hq
  ·cases hq
  ·rw[hq]at q;exact e (Option.some.inj q)
theorem Ww {o:Ow} {h:Hp} {wb:Nat} {Ya:Nat→Nat} {YL:WA} {fl:List Y7} {bad:Nat→Int} {told:List Ri} (W:ZI o h wb Ya YL fl bad told) :
  ∃b off c,YL.nodes=.slice (some ⟨b,off,none⟩) 5 c∧5≤c∧b<h.size∧∀i,i<5→hc h ⟨b,off+i,none⟩=some (Zp (Ya i)):=by
 rcases W.nodes with⟨_,e,_⟩|⟨b,off,cap,pre,spare,g1,g2,g3,g4,g5,g6,g7⟩
 ·cases e
 refine⟨b,off,cap,g2,g7,Za g3,fun i hi=>?_⟩;rw[Zh g3,Yj,←g4,List.getElem?_append_right (by omega),Nat.add_sub_cancel_left]
 match i,hi with
 | 0,_=>rfl
 | 1,_=>rfl
 | 2,_=>rfl
 | 3,_=>rfl
 | 4,_=>rfl
theorem jP {T:World} {K:Value→Hp→Prop} {ty:TypeId} {o:Ow} {t:Tg} {h:Hp} {v:Value} {l:List Y7} {x:Y7} {w:Value} {bx:Nat} {cb:Array Bool} (s:Q0 o t h v l) (d:UF o h) (iv:Wz o h w x.vs) (hb:h[bx]? = some (.cells (Y2 x w).toArray 111)) (hr:l.length≤1000000000000)
  (H:∀p c o' h',Q0 o' t h' (.slice p (l.length+1) c) (l++[x])→Kp (fun u=>u=t) o h o' h'→K (.slice p (l.length+1) c) h') :
  T6 Tryz.prog T .append #[71,71] ty cb [v,.slice (some ⟨bx,0,none⟩) 1 1] K h:=by
 have src:Sl 14 h (.slice (some ⟨bx,0,none⟩) 1 1) 1 (Y2 x w):=⟨_,1,rfl,rfl,fun _=>⟨bx,0,rfl,fun i hi=>by
  rw[Zh hb,Yj,Nat.zero_add];exact List.getElem?_eq_getElem hi⟩⟩
 obtain⟨p,c,hw⟩:=iv.isSlice;have Y9:Z6 w=true:=by rw[hw];rfl
 obtain⟨xs,QK,RX,az⟩:=s;have Ex:xs.length=l.length:=by rw[←QK,List.length_map]
 refine Ja (E:=111) (n:=14) (bytes:=128) (k:=1) dE Tryz.underlying71 nW dH rfl zv RX d src (by rw[Y2,List.all_eq_true];intro x hx;simp at hx;rcases hx with rfl|rfl|rfl|rfl|rfl|rfl|rfl|rfl|rfl|rfl|rfl|rfl|rfl|rfl<;>first|rfl|exact Y9) (by omega) (by omega) ?_;intro v' o' h' w' k _;obtain⟨p',c',rfl,_⟩:=w'.isSlice;rw[Ex];refine H p' c' o' h' ⟨xs++[(x,w)],by rw[List.map_append,QK];rfl,?_,fun y hy=>?_⟩ k
 ·rw[Yh,Ur,List.length_append,←Ex];exact w'
 ·rcases List.mem_append.1 hy with hy|hy
  ·exact (az y hy).Zd k
  ·have:y=(x,w):=by simpa using hy
   subst this;exact iv.Zd k
theorem Tf {o:Ow} {t:Tg} {h:Hp} {v:Value} {l:List Y7} (s:Q0 o t h v l):∃p c,v=.slice p l.length c∧l.length≤c:=by
 obtain⟨xs,h1,h2,_⟩:=s;obtain⟨p,c,h3,h4⟩:=h2.isSlice;rw[←h1,List.length_map];exact⟨p,c,h3,h4⟩
set_option maxHeartbeats 4000000 in
theorem Eg (T:World) (h:Hp) (o:Ow) (wb:Nat) (Ya:Nat→Nat) (YL:WA) (w:Wd) (l:Y7) (v:Value) (d:UF o h) (A:Jr o h wb Ya YL w) (iv:Wz o h v l.vs) (hto:0≤l.to∧l.to<5)
  (RN:∀i,i<5→(w.nodes i).inbox.length≤1000000000000) :
  Zc Tryz.prog T 34 #[Zp wb,.agg (Y2 l v).toArray] h fun v' h'=>∃o',Kp Zhp o h o' h'∧Jr o' h' wb Ya YL (UJ w l):=by
 obtain⟨pw,cw,rfl⟩:=iv.isSlice;obtain⟨j,hj⟩:∃j:Nat,(j:Int)=l.to:=⟨l.to.toNat,by omega⟩
 have hj5:j<5:=by omega
 have hjn:l.to.toNat=j:=by omega
 refine Zc.Zj (args:=[_,_]) Tryz.func34 rfl rfl rfl rfl ?_;unfold Zp Y2;obtain⟨h1,YN⟩:=Zy (h.push (.cells (Y2 l (.slice pw l.vs.length cw)).toArray 111):Hp);have k1:Kp QL o h o h1:=by rw[YN];exact ZY d _
 have x3:ZR o h1 h.size (.cells (Y2 l (.slice pw l.vs.length cw)).toArray 111):=⟨d _ (Nat.le_refl _),by rw[YN];exact Zb⟩
 have e0:=YN.symm;unfold Y2 at e0;have A1:=A.still k1;have R1:=Y3 A1.wd.ZG.2;obtain⟨b,off,c,hn,hc5,hb,NN⟩:=Ww A1.wd;have Rn:=R1.nodes;rw[hn]at Rn;have Ec:=Za A1.wd.ZG.2;have r3:hc h1 ⟨h.size,2,none⟩=some (.int .i64 j):=by rw[hj];exact Zh x3.2
 have l3:=Za x3.2;have rj:=NN j hj5;unfold Zp at rj;have ZqD:(j:Int)<5:=by omega
 simp -implicitDefEqProofs only[go_sem,↓reduceIte,e0];refine VS.mono (N:=fun F' g'=>Zg h1.size h1 g'∧F' 3=.pointer (some ⟨h.size,0,none⟩)∧F' 4=.pointer (some ⟨Ya j,0,none⟩)) ?_ ?_ (fun _ _ _ h=>h) (fun _ _ h=>h)
 ·refine VS.z (h1.size) [] (.p 0 (.p 1 (.p 2 (.q 3 (.p 4 (.q 5 (.p 6 (.q 7 (.p 8 .nil))))))))) mixed (by kernel_rfl) ?_;simp -implicitDefEqProofs only[go_sem,↓reduceIte,Rn,r3,Ec,l3,hb,ZqD,rj]
  try exact Zg.refl _ _
 rintro F1 g1 ⟨b1,f3,f4⟩;have kb:=ZE k1.ZX b1;have A2:=A1.still kb;have K2:=k1.trans kb;have y3:=x3.Zd kb;obtain⟨a,N2⟩:=A2.nd j hj5;have P2:=ZA N2.ZG.2 N2.pt.store.len;have fo:=P2.up;have WC:=Za N2.ZG.2;unfold UJ;rw[hjn]
 cases hu:(w.nodes j).up with
 | false=>
  rw[hu]at fo;rw[if_neg (by simp)];simp -implicitDefEqProofs only[go_sem,↓reduceIte,f4,fo];exact⟨o,ZF K2,A2⟩
 | true=>
  rw[hu]at fo;rw[if_pos rfl];obtain⟨pi,ci,hi,_⟩:=Tf N2.pt.inbox;have P2i:=P2.inbox;rw[hi]at P2i;have r3:rd g1 ⟨h.size,0,none⟩ 14=some (Y2 l (.slice pw l.vs.length cw)):=Zq y3.2 rfl;unfold Y2 at r3;have l3:=Za y3.2;simp -implicitDefEqProofs only[go_sem,↓reduceIte,f4,fo];refine VS.z (g1.size) [7,10] (.p 0 (.p 1 (.p 2 (.p 3 (.q 4 (.q 5 (.s 6 (.w 7 (.p 8 (.p 9 (.w 10 .nil))))))))))) mixed (by kernel_rfl) ?_;simp -implicitDefEqProofs only[go_sem,↓reduceIte,f3,f4,P2i,r3,WC,l3];obtain⟨g2,QX⟩:=Zy (g1.push (.cells (Y2 l (.slice pw l.vs.length cw)).toArray 111):Hp);have k2:Kp QL o g1 o g2:=by rw[QX];exact ZY K2.ZX _
  have e2:=QX.symm;unfold Y2 at e2;rw[e2];have N3:=N2.still k2;have A3:=A2.still k2;have K3:=K2.trans k2;have LI:=N3.pt.inbox;rw[hi]at LI;refine jP LI K3.ZX ((iv.Zd K2).Zd k2) (by rw[QX];exact Zb) (RN j hj5) ?_;intro p3 c3 o3 g3 L3 k3;have k3:Kp (fun t=>t=.inbox j) o g2 o3 g3:=k3;have N4:=ZV.jw N3.pt k3 L3;have B4:=N3.ZG.Zd k3 (by intro e;cases e);have W4:=A3.wd.Zd k3 (by rintro t rfl;simp[Tg.of]);obtain⟨g5,w5,N5,k5⟩:=ZV.write N4 k3.ZX B4 ((YY B4.2 N3.pt.store.len).inbox (.slice p3 ((w.nodes j).inbox.length+1) c3) rfl);have Ld:=Za B4.2;simp -implicitDefEqProofs only[go_sem,↓reduceIte,w5,Ld];have W5:=W4.Zd k5 (by rintro t rfl;simp[Tg.of]);have kk:Kp (fun t=>t.of=some j) o g2 o3 g5:=(k3.mono fun t q=>by rw[q];rfl).trans (k5.mono fun t q=>by rw[q];rfl);exact⟨o3,(ZF K3).trans (kk.mono fun t q=>⟨j,q⟩),A3.Xo (kk.mono fun t q=>.inr (.inr (.inr q))) N5 W5⟩
theorem fp {o:Ow} {t:Tg} {h:Hp} {v:Value} {l:List Y7} (s:Q0 o t h v l) (k:Nat) (hk:k<l.length) :
  ∃w b off c,v=.slice (some ⟨b,off,none⟩) l.length c∧l.length≤c∧b<h.size∧rd h ⟨b,off+k*14,none⟩ 14=some (Y2 l[k] w)∧Wz o h w l[k].vs:=by
 obtain⟨xs,rfl,h2,h3⟩:=s;rw[List.length_map]at hk;rcases h2 with⟨_,e,_⟩|⟨b,off,cap,pre,spare,g1,rfl,g3,g4,g5,g6,g7⟩
 ·omega
 refine⟨xs[k].2,b,off,cap,by rw[List.length_map],by rw[List.length_map];exact g7,Za g3,?_,?_⟩
 ·have hlen:∀x,(MI x).length=14:=fun x=>rfl;have hle:k*14+14≤xs.length*14:=by omega
  rw[Z8 g3 (by simp only[List.length_append];omega),←g4,List.drop_append,List.drop_of_length_le (by omega),List.nil_append,Nat.add_sub_cancel_left];rw[List.drop_append_of_le_length (by omega),List.take_append_of_le_length (by rw[List.length_drop];omega)];rw[Te hlen xs k (by omega),List.drop_eq_getElem_cons hk];have e1:Zz MI (xs[k] :: xs.drop (k+1))=Y2 xs[k].1 xs[k].2++Zz MI (xs.drop (k+1)):=by simp[Zz,MI]
  rw[e1,List.getElem_map];rfl
 ·rw[List.getElem_map];exact h3 _ (List.getElem_mem hk)
theorem jQ {o':Ow} {t:Tg} {h':Hp} {xs:List (Y7 × Value)} {v:Value} {k:Nat} (hk:k<xs.length) (h2:YG o' t 111 14 h' v (xs.length-1) ((Zz MI xs).take (k*14)++(Zz MI xs).drop ((k+1)*14))) (h3:∀x∈xs,Wz o' h' x.2 x.1.vs) :
  Q0 o' t h' v ((xs.map (·.1)).eraseIdx k):=by
 have hlen:∀x,(MI x).length=14:=fun x=>rfl;have el:(xs.eraseIdx k).length=xs.length-1:=by rw[List.length_eraseIdx_of_lt hk]
 refine⟨xs.eraseIdx k,?_,?_,fun x hx=>h3 x (List.mem_of_mem_eraseIdx hx)⟩
 ·rw[List.eraseIdx_eq_take_drop_succ,List.eraseIdx_eq_take_drop_succ,List.map_append,List.map_take,List.map_drop]
 ·rw[el];have e1:Zz MI (xs.eraseIdx k)=(Zz MI xs).take (k*14)++(Zz MI xs).drop ((k+1)*14):=by
   rw[U7 hlen xs k (by omega),Te hlen xs (k+1) (by omega),←Yh,List.eraseIdx_eq_take_drop_succ]
  rw[e1];exact h2
theorem ZI.GJ {o o1:Ow} {h h1:Hp} {wb:Nat} {nb:Nat→Nat} {a:WA} {fl fl':List Y7} {bad:Nat→Int} {told:List Ri} {v:Value} (W:ZI o h wb nb a fl bad told) (k:Kp (fun t=>t=.Zn) o h o1 h1)
  (hv:Q0 o1 .Zn h1 v fl') {e:Option Hp} (w:e=some (h1.setIfInBounds wb (.cells (Xi bad { a with Zn:=v }).toArray 73))) :
  ∃g,e=some g∧ZI o1 g wb nb { a with Zn:=v } fl' bad told∧Kp (fun t=>t=.world) o1 h1 o1 g:=by
 have b:=W.ZG.Zd k (by intro e;cases e);have kk:Kp (fun t=>t=.world) o1 h1 o1 (h1.setIfInBounds wb (.cells (Xi bad { a with Zn:=v }).toArray 73)):=(Kp.refl k.ZX (fun t=>t=.world)).set b.1 rfl _;exact⟨_,w,⟨⟨b.1,Zx b.2⟩,(W.nodes.Zd k (by intro e;cases e)).Zd kk (by intro e;cases e),hv.Zd kk (by intro e;cases e),(W.told.Zd k (by intro e;cases e)).Zd kk (by intro e;cases e)⟩,kk⟩
theorem Jr.ya {S:Tg→Prop} {o o':Ow} {h h':Hp} {wb:Nat} {Ya:Nat→Nat} {YL ub:WA} {w:Wd} {fl:List Y7} {bad:Nat→Int} {told:List Ri} (A:Jr o h wb Ya YL w) (k:Kp S o h o' h') (hn:∀t,S t→t.of=none) (W:ZI o' h' wb Ya ub fl bad told) :
  Jr o' h' wb Ya ub { w with Zn:=fl,bad:=bad,told:=told }:=
 ⟨W,fun i hi=>by obtain⟨a,N⟩:=A.nd i hi;exact⟨a,N.Zd k fun t q e=>by rw[hn t q]at e;cases e⟩⟩
theorem yc {o:Ow} {h:Hp}:∀(xs:List (Y7 × Value)),(∀x∈xs,Wz o h x.2 x.1.vs)→(Zz MI xs).all Z6=true:=by
 intro xs
 induction xs with
 | nil=>intro _;rfl
 | cons x xs ih=>
  intro hx;have e1:Zz MI (x :: xs)=MI x++Zz MI xs:=by simp[Zz]
  obtain⟨p,c,hw⟩:=(hx x (by simp)).isSlice;rw[e1,List.all_append,ih (fun y hy=>hx y (by simp[hy])),Bool.and_true];unfold MI;rw[hw];rfl
set_option maxHeartbeats 4000000 in
theorem rP (T:World) (h:Hp) (o:Ow) (wb:Nat) (Ya:Nat→Nat) (YL:WA) (w:Wd) (at':Nat) (comes stays:Bool) (d:UF o h) (A:Jr o h wb Ya YL w) (hto:∀l∈w.Zn,0≤l.to∧l.to<5)
  (wC:w.Zn.length≤1000000000000) (RN:∀i,i<5→(w.nodes i).inbox.length≤1000000000000) :
  Zc Tryz.prog T 33 #[Zp wb,.int .i64 at',.bool comes,.bool stays] h fun v' h'=>∃o' Xz,Kp VE o h o' h'∧Jr o' h' wb Ya Xz (pick w at' comes stays):=by
 refine Zc.Zj (args:=[_,_,_,_]) Tryz.func33 rfl rfl rfl rfl ?_;unfold Zp;have R:=Y3 A.wd.ZG.2;have Rf:=R.Zn;have Ec:=Za A.wd.ZG.2;obtain⟨pf,cf,hf,hfc⟩:=Tf A.wd.Zn;rw[hf]at Rf;by_cases hz:w.Zn.length=0
 ·have hp:pick w at' comes stays=w:=by
   unfold pick;rw[List.getElem?_eq_none (by rw[hz];exact Nat.zero_le _)]
  rw[hp];have EJ:(w.Zn.length:Int)=0:=by omega
  simp -implicitDefEqProofs only[go_sem,↓reduceIte,Rf,EJ];exact⟨o,YL,Kp.refl d _,A⟩
 have EJ:¬(w.Zn.length:Int)=0:=by omega
 obtain⟨k,hk⟩:=Zy (at'%w.Zn.length);have hkl:k<w.Zn.length:=by rw[hk];exact Nat.mod_lt _ (by omega)
 have ek:(at':Int).tmod (w.Zn.length:Int)=(k:Int):=by rw[hk];rfl
 have ZcA:(k:Int)<w.Zn.length:=by omega
 obtain⟨v,b,off,c,hv,hvc,hb,NN,iv⟩:=fp A.wd.Zn k hkl;rw[hf]at hv;simp only[Value.slice.injEq]at hv;obtain⟨rfl,_,rfl⟩:=hv;obtain⟨l,hl⟩:=Zy (w.Zn[k]);rw[←hl]at NN iv;have eI:l∈w.Zn:=by rw[hl];exact List.getElem_mem hkl
 obtain⟨pw,cw,rfl⟩:=iv.isSlice;obtain⟨h1,YN⟩:=Zy (h.push (.cells (Y2 l (.slice pw l.vs.length cw)).toArray 111):Hp);have k1:Kp QL o h o h1:=by rw[YN];exact ZY d _
 have x9:ZR o h1 h.size (.cells (Y2 l (.slice pw l.vs.length cw)).toArray 111):=⟨d _ (Nat.le_refl _),by rw[YN];exact Zb⟩
 have e0:=YN.symm;unfold Y2 at e0 NN;have A1:=A.still k1;have R1:=Y3 A1.wd.ZG.2;have R1f:=R1.Zn;rw[hf]at R1f;have ZcB:=Za A1.wd.ZG.2;have r9:rd h1 ⟨h.size,0,none⟩ 14=some (Y2 l (.slice pw l.vs.length cw)):=Zq x9.2 rfl;unfold Y2 at r9;have eg:w.Zn[at'%w.Zn.length]? = some l:=by rw[←hk,hl];exact List.getElem?_eq_getElem hkl
 have ep:pick w at' comes stays=if comes=true then UJ (if stays=true then w else { w with Zn:=w.Zn.eraseIdx k }) l else (if stays=true then w else { w with Zn:=w.Zn.eraseIdx k }):=by
  unfold pick;rw[eg,hk]
 rw[ep]
 cases stays with
 | true=>
  rw[if_pos rfl]
  cases comes with
  | false=>
   rw[if_neg (by simp)];simp -implicitDefEqProofs only[go_sem,↓reduceIte,Rf,EJ,ek,ZcA,NN,e0];exact⟨o,YL,Ye k1,A1⟩
  | true=>
   rw[if_pos rfl];have cc:=Eg T h1 o wb Ya YL w l (.slice pw l.vs.length cw) k1.ZX A1 (iv.Zd k1) (hto l eI) RN;unfold Zp Y2 at cc;simp -implicitDefEqProofs only[go_sem,↓reduceIte,Rf,EJ,ek,ZcA,NN,e0,r9];refine cc.use ?_;rintro v' g ⟨o',kk,A'⟩;simp -implicitDefEqProofs only[go_sem,↓reduceIte];exact⟨o',YL,(Ye k1).trans (Ye kk),A'⟩
 | false=>
  rw[if_neg (show ¬(false=true) by simp)];obtain⟨xs,QK,RX,az⟩:=A1.wd.Zn;have Ex:xs.length=w.Zn.length:=by rw[←QK,List.length_map]
  have cd:=Cy T h1 o .Zn YL.Zn xs.length k (Zz MI xs) RX k1.ZX (yc xs az) (by omega) (by omega);rw[hf]at cd;have ek2:(k:Int)+1=((k:Int)+1):=rfl;simp -implicitDefEqProofs only[go_sem,↓reduceIte,Rf,EJ,ek,ZcA,NN,e0,R1f];refine cd.use ?_;rintro v2 g2 ⟨L2,k2⟩;have k2:Kp (fun t=>t=.Zn) o h1 o g2:=k2;have L3:Q0 o .Zn g2 v2 (w.Zn.eraseIdx k):=by
   rw[←QK];exact jQ (by omega) L2 (fun x hx=>(az x hx).Zd k2)
  have B2:=A1.wd.ZG.Zd k2 (by intro e;cases e);obtain⟨p2,c2,rfl,_⟩:=Tf L3;obtain⟨g3,w3,W3,k3⟩:=A1.wd.GJ k2 L3 ((Y3 B2.2).Eb (.slice p2 (w.Zn.eraseIdx k).length c2) rfl);have A3:Jr o g3 wb Ya { YL with Zn:=.slice p2 (w.Zn.eraseIdx k).length c2 } { w with Zn:=w.Zn.eraseIdx k }:=
   A1.ya (S:=fun t=>t=.Zn∨t=.world) ((k2.mono fun t q=>.inl q).trans (k3.mono fun t q=>.inr q)) (by rintro t (rfl|rfl)<;>rfl) W3
  have ZcC:=Za B2.2;have y9:=(x9.Zd k2).Zd k3;have r9:rd g3 ⟨h.size,0,none⟩ 14=some (Y2 l (.slice pw l.vs.length cw)):=Zq y9.2 rfl;unfold Y2 at r9;have K3:Kp VE o h o g3:=((Ye k1).trans (Ye k2)).trans (Ye k3)
  cases comes with
  | false=>
   rw[if_neg (show ¬(false=true) by simp)];simp -implicitDefEqProofs only[go_sem,↓reduceIte,w3,ZcC];exact⟨o,_,K3,A3⟩
  | true=>
   rw[if_pos rfl];have cc:=Eg T g3 o wb Ya _ _ l (.slice pw l.vs.length cw) k3.ZX A3 (((iv.Zd k1).Zd k2).Zd k3) (hto l eI) RN;unfold Zp Y2 at cc;simp -implicitDefEqProofs only[go_sem,↓reduceIte,w3,ZcC,r9];refine cc.use ?_;rintro v' g ⟨o',kk,A'⟩;simp -implicitDefEqProofs only[go_sem,↓reduceIte];exact⟨o',_,K3.trans (Ye kk),A'⟩
theorem ye (rc:List Nat) (now:Int):Cu rc now=(Jq rc now).C:=by
 unfold Cu Jq;split<;>rfl
theorem ZcD {h:Hp} {wb:Nat} {bad:Nat→Int} {a:WA} (H:h[wb]? = some (.cells (Xi bad a).toArray 73)) (i:Nat) (hi:i<5) :
  hc h ⟨wb,9+i,none⟩=some (.int .i64 (bad i))∧∀k,JK h ⟨wb,9+i,none⟩ (.int .i64 k)=some (h.setIfInBounds wb (.cells (Xi (fun j=>if j=i then k else bad j) a).toArray 73)):=by
 match i,hi with
 | 0,_=>exact⟨Zh H,fun k=>by rw[YD H,if_pos ⟨by simp[Xi],rfl⟩];rfl⟩
 | 1,_=>exact⟨Zh H,fun k=>by rw[YD H,if_pos ⟨by simp[Xi],rfl⟩];rfl⟩
 | 2,_=>exact⟨Zh H,fun k=>by rw[YD H,if_pos ⟨by simp[Xi],rfl⟩];rfl⟩
 | 3,_=>exact⟨Zh H,fun k=>by rw[YD H,if_pos ⟨by simp[Xi],rfl⟩];rfl⟩
 | 4,_=>exact⟨Zh H,fun k=>by rw[YD H,if_pos ⟨by simp[Xi],rfl⟩];rfl⟩
theorem rQ {i:Nat} (t:Tg) (q:Zcm i t):XJ i t:=by
 rcases q with rfl|rfl<;>exact .inr (.inr (.inr rfl))
theorem add_same (n:Nd) (x:Cm):(add n x).waiting=n.waiting∧(add n x).me=n.me:=by
 unfold add;split<;>exact⟨rfl,rfl⟩
set_option maxHeartbeats 4000000 in
theorem jR (T:World) (h:Hp) (o:Ow) (wb:Nat) (Ya:Nat→Nat) (YL:WA) (w:Wd) (i:Nat) (rc:List Nat) (v:Value) (d:UF o h) (A:Jr o h wb Ya YL w) (hi:i<5) (Hy:(w.nodes i).me=i) (iv:To o h v rc) (QN:Tu v) (tM:rc.length≤140737488355328) (tb:BE o h)
  (hq:(w.nodes i).queue.length≤1000000000000) (hl:(w.nodes i).log.length≤1000000000000) (LJ:(w.nodes i).waiting.length≤1000000000000) (ht:w.told.length≤1000000000000) (hb:0≤w.bad i∧w.bad i≤1000000000000) :
  Zc Tryz.prog T 30 #[Zp wb,Zp (Ya i),v] h fun v' h'=>∃o' Xz,Kp VE o h o' h'∧Jr o' h' wb Ya Xz (TK w i rc):=by
 obtain⟨pv,cv,rfl⟩:=iv.1.isSlice;refine Zc.Zj (args:=[_,_,_]) Tryz.func30 rfl rfl rfl rfl ?_;unfold Zp;obtain⟨a,N⟩:=A.nd i hi;obtain⟨n,hn⟩:=Zy (w.nodes i);unfold TK;rw[←hn]at N Hy hq hl LJ ⊢;have P:=ZA N.ZG.2 N.pt.store.len;have WC:=Za N.ZG.2;have Pu:=P.up
 cases hu:n.up with
 | false=>
  rw[hu]at Pu;rw[if_neg (by simp)];simp -implicitDefEqProofs only[go_sem,↓reduceIte,Pu];exact⟨o,YL,Kp.refl d _,A⟩
 | true=>
 rw[hu]at Pu;rw[if_pos rfl];have Pl:=P.log;obtain⟨pl,cl,LV,_⟩:=YG.isSlice N.pt.log;have LV:a.log=.slice pl n.log.length cl:=LV;rw[LV]at Pl;obtain⟨E,hE⟩:=Zy (Yx rc n.log.length);obtain⟨x,hx⟩:=Zy (Jq rc n.log.length);have co:=qF T h (.slice pv rc.length cv) rc n.log.length iv.bs QN tM tb.tk tb.tn;rw[ye,←hE,←hx]at co;rw[←hE,←hx];simp -implicitDefEqProofs only[go_sem,↓reduceIte,Pu,Pl];refine co.use ?_;rintro _ g ⟨rfl,b⟩;have kb:=ZE d b;obtain⟨g1,O0⟩:=Zy (g.push (.cells x.C.toArray 47):Hp);have e1:=O0.symm;have k1:Kp QL o h o g1:=by rw[O0];exact kb.push _
 have x6:ZR o g1 g.size (.cells x.C.toArray 47):=⟨kb.ZX _ (Nat.le_refl _),by rw[O0];exact Zb⟩
 have A1:=A.still k1;have N1:=N.still k1;have P1:=ZA N1.ZG.2 N1.pt.store.len;have ZcE:=P1.me;rw[Hy]at ZcE;have JU:=Za N1.ZG.2;have ZcB:=Za A1.wd.ZG.2;obtain⟨br,bw⟩:=ZcD A1.wd.ZG.2 i hi;have r6:rd g1 ⟨g.size,0,none⟩ 5=some x.C:=Zq x6.2 rfl;have l6:=Za x6.2;have dV:(i:Int)<5:=by omega
 by_cases hz:E=0
 case neg=>
  rw[if_pos (by simpa using hz)];simp -implicitDefEqProofs only[go_sem,↓reduceIte,e1,hz];refine VS.z (g1.size) [15] (.p 0 (.p 1 (.p 2 (.p 3 (.q 4 (.p 5 (.p 6 (.p 7 (.p 8 (.q 9 (.p 10 (.p 11 (.p 12 (.p 13 (.p 14 (.w 15 .nil)))))))))))))))) mixed (by kernel_rfl) ?_;simp -implicitDefEqProofs only[go_sem,↓reduceIte,ZcE,JU,ZcB,dV,br,bw];have kk:Kp (fun t=>t=.world) o g1 o (g1.setIfInBounds wb (.cells (Xi (fun j=>if j=i then w.bad i+1 else w.bad j) YL).toArray 73)):=(Kp.refl k1.ZX (fun t=>t=.world)).set A1.wd.ZG.1 rfl _;exact⟨o,YL,(Ye k1).trans (Ye kk),A1.ya kk (by rintro t rfl;rfl) ⟨⟨A1.wd.ZG.1,Zx A1.wd.ZG.2⟩,A1.wd.nodes.Zd kk (by intro e;cases e),A1.wd.Zn.Zd kk (by intro e;cases e),A1.wd.told.Zd kk (by intro e;cases e)⟩⟩
 rw[if_neg (by simpa using hz)];have P1l:hc g1 ⟨Ya i,11,none⟩=some a.log:=P1.log;simp -implicitDefEqProofs only[go_sem,↓reduceIte,e1,hz];obtain⟨J,hJ⟩:=Zy (Td n.log x);refine VS.mono (N:=fun F' g'=>Zg g1.size g1 g'∧F' 0=.pointer (some ⟨wb,0,none⟩)∧F' 1=.pointer (some ⟨Ya i,0,none⟩)∧F' 6=.pointer (some ⟨g.size,0,none⟩)∧F' 8=.int .i64 J) ?_ ?_ (fun _ _ _ h=>h) (fun _ _ h=>h)
 ·refine VS.z (g1.size) [5] (.p 0 (.p 1 (.p 2 (.q 3 (.q 4 (.w 5 (.p 6 .nil))))))) mixed (by kernel_rfl) ?_;simp -implicitDefEqProofs only[go_sem,↓reduceIte,P1l,r6,JU,l6];refine (Ih T g1 _ n.log x N1.pt.log.ts (by omega)).use ?_;rintro _ g2 ⟨rfl,b2⟩;simp -implicitDefEqProofs only[go_sem,↓reduceIte,b2,hJ]
 rintro F2 g2 ⟨b2,f0,f1,f6,f8⟩;have Rj:=ZE k1.ZX b2;have A2:=A1.still Rj;have N2:=N1.still Rj;have y6:=x6.Zd Rj;have K2:Kp QL o h o g2:=k1.trans Rj;have P2:=ZA N2.ZG.2 N2.pt.store.len;have jO:=P2.me;rw[Hy]at jO;have JZ:=Za N2.ZG.2;have ZcC:=Za A2.wd.ZG.2;have r62:rd g2 ⟨g.size,0,none⟩ 5=some x.C:=Zq y6.2 rfl;have l62:=Za y6.2;clear r6 l6 JU ZcB br bw P1 ZcE P1l e1;by_cases hm:x∈n.log
 ·have hJ0:0≤J:=by rw[hJ];exact (OP _ _).2 hm
  rw[if_pos hm];have call:=fun G=>fa T G n.store N2.pt.store x;have P2s:rd g2 ⟨Ya i,12,none⟩ 40=some n.store:=P2.store;obtain⟨D,hDe⟩:=Zy (F9 n.store x);obtain⟨E2,jC⟩:=Zy (Uc n.store x);obtain⟨c1,Us⟩:=Zy (Pg n.store x);obtain⟨c2,HS⟩:=Zy (Ia n.store x);have hD:=N2.pt.store.do x
  rw[←hDe]at hD;rw[←hDe,←jC,←Us,←HS]at call;rw[←Us,←HS];have MN:=hD.len;have BF:=hD.one;unfold Vj at call;have IW:=ZH (zs:=Yt) (vs:=D) (by rw[MN];rfl);unfold Yt at IW;simp only[rep,List.cons_append,List.nil_append]at IW;have wA:∀(G:Hp) (k:Nat),G[k]? = some (.cells Yt.toArray 43)→wr G ⟨k,0,none⟩ D=some (G.setIfInBounds k (.cells D.toArray 43)):=fun G k hx=>by
   rw[ZU hx 0 D,ZH (by rw[MN];rfl),if_pos ⟨by rw[MN];simp[Yt,rep],BF⟩]
  have wB:∀(G:Hp) (k:Nat),G[k]? = some (.cells [.int .i64 0,.int .i64 0].toArray 39)→wr G ⟨k,0,none⟩ [.int .i64 c1,.int .i64 c2]=some (G.setIfInBounds k (.cells [.int .i64 c1,.int .i64 c2].toArray 39)):=fun G k hx=>by
   rw[ZU hx 0 _];rfl
  have gl:∀(G:Hp) (X Y:Obj),((G.push X).push Y)[G.size]? = some X:=fun G X Y=>by rw[Zu (by simp),Zb]
  have gs:∀(G:Hp) (k:Nat) (X Y:Obj),((G.setIfInBounds k X).push Y)[G.size]? = some Y:=fun G k X Y=>by
   have:=Zb (h:=G.setIfInBounds k X) (o:=Y);rwa [Array.size_setIfInBounds]at this
  have gl':=gs;have gr:∀(G:Hp) (X Y:Obj),((G.push X).push Y)[G.size+1]? = some Y:=fun G X Y=>by
   have:=Zb (h:=G.push X) (o:=Y);rwa [Array.size_push]at this
  simp -implicitDefEqProofs only[go_sem,↓reduceIte,f8,hJ0];refine VS.mono (N:=fun F' g'=>Zg g2.size g2 g'∧F' 0=.pointer (some ⟨wb,0,none⟩)∧F' 1=.pointer (some ⟨Ya i,0,none⟩)∧F' 6=.pointer (some ⟨g.size,0,none⟩)∧∃B,F' 10=.pointer (some ⟨B,0,none⟩)∧g2.size≤B∧g'[B]? = some (.cells [.int .i64 c1,.int .i64 c2].toArray 39)) ?_ ?_ (fun _ _ _ h=>h) (fun _ _ h=>h)
  ·refine VS.z (g2.size) [5,12,13] (.p 0 (.p 1 (.p 2 (.q 3 (.q 4 (.or 5 (.p 6 (.p 7 (.p 8 (.p 9 (.or 10 (.s 11 (.w 12 (.w 13 (.p 14 .nil)))) (.s 11 (.s 10 (.w 12 (.w 13 (.p 14 .nil)))))))))) (.or 10 (.or 5 (.p 6 (.p 7 (.p 8 (.p 9 (.s 11 (.w 12 (.w 13 (.p 14 .nil)))))))) (.s 11 (.w 5 (.p 6 (.p 7 (.p 8 (.p 9 (.w 12 (.w 13 (.p 14 .nil)))))))))) (.s 11 (.or 5 (.p 6 (.p 7 (.p 8 (.p 9 (.s 10 (.w 12 (.w 13 (.p 14 .nil)))))))) (.s 10 (.w 5 (.p 6 (.p 7 (.p 8 (.p 9 (.w 12 (.w 13 (.p 14 .nil)))))))))))))))))) mixed (by kernel_rfl) ?_;simp -implicitDefEqProofs only[go_sem,↓reduceIte,f0,f1,f6,P2s,JZ,l62,r62]
   repeat' (first|with_reducible exact Zg.refl _ _|with_reducible exact Zg.push (by omega) _|with_reducible refine And.intro ?_ ?_)
   all_goals first
    | (refine (call g2).use ?_
       rintro _ g5 ⟨rfl,b5⟩;have s5:=b5.size;simp -implicitDefEqProofs only[go_sem,↓reduceIte,b5,MN,BF,IW];refine⟨⟨f0,f1,f6,_,rfl,by omega,gr _ _ _⟩,⟨f0,f1,f6,_,rfl,s5,gl _ _ _⟩⟩)
    | (refine (call (g2.push (.cells _ 43))).use ?_
       rintro _ g5 ⟨rfl,b5⟩;have s5:=b5.size;rw[Array.size_push]at s5;have B5:Zg g2.size g2 g5:=(Zg.push (Nat.le_refl _) _).trans (b5.mono (by simp));have xA:=b5.get (k:=g2.size) (by simp) Zb;have TV:=wA _ _ xA;have zA:=Za xA;simp -implicitDefEqProofs only[go_sem,↓reduceIte,B5,MN,BF,TV,zA];exact⟨f0,f1,f6,_,rfl,by omega,gs _ _ _ _⟩)
    | (refine (call (g2.push (.cells _ 39))).use ?_
       rintro _ g5 ⟨rfl,b5⟩;have s5:=b5.size;rw[Array.size_push]at s5;have B5:Zg g2.size g2 g5:=(Zg.push (Nat.le_refl _) _).trans (b5.mono (by simp));have xB:=b5.get (k:=g2.size) (by simp) Zb;have Il:=wB _ _ xB;have zB:=Za xB;have gB:=Zx (o:=.cells [.int .i64 c1,.int .i64 c2].toArray 39) xB;simp -implicitDefEqProofs only[go_sem,↓reduceIte,B5,MN,BF,Il,IW,zB];exact⟨f0,f1,f6,_,rfl,Nat.le_refl _,by rw[Zu (by simpa using zB)];exact gB⟩)
    | (refine (call ((g2.push (.cells _ 43)).push (.cells _ 39))).use ?_
       rintro _ g5 ⟨rfl,b5⟩;have s5:=b5.size;rw[Array.size_push,Array.size_push]at s5;have B5:Zg g2.size g2 g5:=((Zg.push (Nat.le_refl _) _).Yg (by simp) _).trans (b5.mono (by simp;omega));have xA:=b5.get (k:=g2.size) (by simp;omega) (gl _ _ _);have xB:=b5.get (k:=g2.size+1) (by simp) (gr _ _ _);have TV:=wA _ _ xA;have zA:=Za xA;have NL:=(Yk (o:=.cells D.toArray 43) (show g2.size≠g2.size+1 by omega)).trans xB;have Il:=wB _ _ NL;have zB:=Za NL;simp -implicitDefEqProofs only[go_sem,↓reduceIte,B5,MN,BF,TV,zA,Il,zB];exact⟨f0,f1,f6,_,rfl,by omega,Zx NL⟩)
    | (refine (call ((g2.push (.cells _ 39)).push (.cells _ 43))).use ?_
       rintro _ g5 ⟨rfl,b5⟩;have s5:=b5.size;rw[Array.size_push,Array.size_push]at s5;have B5:Zg g2.size g2 g5:=((Zg.push (Nat.le_refl _) _).Yg (by simp) _).trans (b5.mono (by simp;omega));have xB:=b5.get (k:=g2.size) (by simp;omega) (gl _ _ _);have xA:=b5.get (k:=g2.size+1) (by simp) (gr _ _ _);have TV:=wA _ _ xA;have zA:=Za xA;have NL:=(Yk (o:=.cells D.toArray 43) (show g2.size+1≠g2.size by omega)).trans xB;have Il:=wB _ _ NL;have zB:=Za NL;simp -implicitDefEqProofs only[go_sem,↓reduceIte,B5,MN,BF,TV,zA,Il,zB];exact⟨f0,f1,f6,_,rfl,by omega,Zx NL⟩)
  clear f0 f1 f6 f8;rintro F5 g5 ⟨b5,f0,f1,f6,B,f10,hB,yB⟩;have GC:=ZE K2.ZX b5;have A5:=A2.still GC;have N5:=N2.still GC;have z6:=y6.Zd GC;have K5:Kp QL o h o g5:=K2.trans GC;have xB:ZR o g5 B (.cells [.int .i64 c1,.int .i64 c2].toArray 39):=⟨K2.ZX _ hB,yB⟩
  have ZqF:=(ZA N5.ZG.2 N5.pt.store.len).me;have Pq:=Za N5.ZG.2;have U5:=Y3 A5.wd.ZG.2;have bU:=Za A5.wd.ZG.2;have rx1:hc g5 ⟨g.size,1,none⟩=some (.int .i64 x.c):=Zh z6.2;have rx2:hc g5 ⟨g.size,2,none⟩=some (.int .i64 x.s):=Zh z6.2;have rB:rd g5 ⟨B,0,none⟩ 2=some [.int .i64 c1,.int .i64 c2]:=Zq yB rfl;have zx:=Za z6.2;have zB:=Za yB;refine VS.z (g5.size) [17,21] (.p 0 (.p 1 (.p 2 (.p 3 (.p 4 (.q 5 (.p 6 (.p 7 (.p 8 (.q 9 (.p 10 (.q 11 (.p 12 (.q 13 (.q 14 (.p 15 (.s 16 (.w 17 (.p 18 (.p 19 (.p 20 (.w 21 .nil)))))))))))))))))))))) mixed (by kernel_rfl) ?_;simp -implicitDefEqProofs only[go_sem,↓reduceIte,f0,f1,f6,f10,U5.told,ZqF,rx1,rx2,rB,Pq,bU,zx,zB];have k6:=ZY K5.ZX (.cells (Ig ⟨n.me,x.c,x.s,c1,c2⟩).toArray 132);have A6:=A5.still k6;refine MM (l:=w.told) (x:=⟨n.me,x.c,x.s,c1,c2⟩) A6.wd.told k6.ZX Zb ht ?_;intro p7 c7 o7 g7 q7 k7;have b7:=A6.wd.ZG.Zd k7 (by intro e;cases e);obtain⟨g8,w8,W8,k8⟩:=A6.wd.fb k7 q7 ((Y3 b7.2).Zaa (.slice p7 _ c7) rfl);have z7:=Za b7.2;simp -implicitDefEqProofs only[go_sem,↓reduceIte,w8,z7];have A8:=A6.ya (S:=fun t=>t=.told∨t=.world) ((k7.mono fun t q=>.inl q).trans (k8.mono fun t q=>.inr q)) (by rintro t (rfl|rfl)<;>rfl) W8;exact⟨o7,_,(((Ye K5).trans (Ye k6)).trans (Ye k7)).trans (Ye k8),A8⟩
 ·have hJ0:¬0≤J:=by rw[hJ];exact fun e=>hm ((OP _ _).1 e)
  rw[if_neg hm];have ca:=qQ T g2 o wb i (Ya i) a n x K2.ZX N2 hq hl;unfold Zp Vj at ca;simp -implicitDefEqProofs only[go_sem,↓reduceIte,f1,f6,f8,hJ0,r62];refine ca.use ?_;rintro v3 g3 ⟨o3,a3,k3,N3⟩;have k3a:Kp (XJ i) o g2 o3 g3:=k3.mono rQ;obtain⟨aw,am⟩:=add_same n x;obtain⟨m,vZ⟩:=Zy (add n x);rw[←vZ]at N3 aw am ⊢;have W3:=A2.wd.Zd k3 (by rintro t (rfl|rfl)<;>simp[Tg.of]);have z6:=y6.Zd k3;have P3:=ZA N3.ZG.2 N3.pt.store.len;have P3w:hc g3 ⟨Ya i,53,none⟩=some a3.waiting:=P3.waiting;have Pm:=Za N3.ZG.2;have r63:rd g3 ⟨g.size,0,none⟩ 5=some x.C:=Zq z6.2 rfl;have l63:=Za z6.2;have hmw:m.waiting.length≤1000000000000:=by rw[aw];exact LJ
  have K3:Kp VE o h o3 g3:=(Ye K2).trans (Ye k3);simp -implicitDefEqProofs only[go_sem,↓reduceIte];refine VS.mono (N:=fun F' g'=>Zg g3.size g3 g'∧F' 1=.pointer (some ⟨Ya i,0,none⟩)∧F' 6=.pointer (some ⟨g.size,0,none⟩)∧F' 92=.bool (!decide (x∈m.waiting))) ?_ ?_ (fun _ _ _ h=>h) (fun _ _ h=>h)
  ·refine VS.z (g3.size) [5] (.p 0 (.p 1 (.p 2 (.q 3 (.q 4 (.w 5 (.p 6 .nil))))))) mixed (by kernel_rfl) ?_;simp -implicitDefEqProofs only[go_sem,↓reduceIte,f1,f6,P3w,r63,Pm,l63];refine (VB T g3 _ m.waiting x N3.pt.waiting.ts (by omega)).use ?_;rintro _ g4 ⟨rfl,b4⟩;simp -implicitDefEqProofs only[go_sem,↓reduceIte,b4];exact⟨f1,f6⟩
  clear f0 f1 f6;rintro F4 g4 ⟨b4,f1,f6,f92⟩;have kb4:=ZE K3.ZX b4;have N4:=N3.still kb4;have W4:=W3.still kb4;have k4a:Kp (XJ i) o g2 o3 g4:=k3a.trans (ZF kb4);have K4:Kp VE o h o3 g4:=K3.trans (Ye kb4);by_cases yf:x∈m.waiting
  ·have e5:OL m x=m:=by unfold OL;rw[if_pos yf]
   rw[e5];simp -implicitDefEqProofs only[go_sem,↓reduceIte,f92,yf];exact⟨o3,_,K4,A2.Xo k4a N4 W4⟩
  ·have e5:OL m x = { m with waiting:=m.waiting++[x] }:=by unfold OL;rw[if_neg yf]
   rw[e5];have q6:=z6.Zd kb4;have P4w:=(ZA N4.ZG.2 N4.pt.store.len).waiting;obtain⟨pw,cw,hpw,_⟩:=YG.isSlice N4.pt.waiting;have hpw:a3.waiting=.slice pw m.waiting.length cw:=hpw;have P4w:hc g4 ⟨Ya i,53,none⟩=some (.slice pw m.waiting.length cw):=by rw[←hpw];exact P4w
   have Ld:=Za N4.ZG.2;have r64:rd g4 ⟨g.size,0,none⟩ 5=some x.C:=Zq q6.2 rfl;have l64:=Za q6.2;simp -implicitDefEqProofs only[go_sem,↓reduceIte,f92,yf];refine VS.z (g4.size) [7,10] (.p 0 (.p 1 (.p 2 (.p 3 (.q 4 (.q 5 (.s 6 (.w 7 (.p 8 (.p 9 (.w 10 .nil))))))))))) mixed (by kernel_rfl) ?_;simp -implicitDefEqProofs only[go_sem,↓reduceIte,f1,f6,P4w,r64,Ld,l64];have k5:=ZY K4.ZX (.cells x.C.toArray 47);have N5:=N4.still k5;have W5:=W4.still k5;have Q5:=N5.pt.waiting;rw[hpw]at Q5;refine NK (l:=m.waiting) Q5 k5.ZX Zb hmw ?_;intro p6 c6 o6 g6 q7 k6;have b6:=N5.ZG.Zd k6 (by intro e;cases e);obtain⟨g7,w7,N7,k7⟩:=(N5.pt.MK k6 q7).write k6.ZX b6 ((YY b6.2 N5.pt.store.len).waiting (.slice p6 (m.waiting.length+1) c6) rfl);have rK:=Za b6.2;simp -implicitDefEqProofs only[go_sem,↓reduceIte,w7,rK];have kk:Kp (XJ i) o g2 o6 g7:=((k4a.trans (ZF k5)).trans (k6.mono fun t q=>.inr (.inr (.inr (by rw[q];rfl))))).trans (k7.mono fun t q=>.inr (.inr (.inr (by rw[q];rfl))));exact⟨o6,_,(Ye K2).trans (Ye kk),A2.Xo kk N7 ((W5.Zd k6 (by rintro t rfl;simp[Tg.of])).Zd k7 (by rintro t rfl;simp[Tg.of]))⟩
def Ir (i:Nat) (t:Tg):Prop:=t=.node i∨t=.known i
set_option maxHeartbeats 4000000 in
theorem Is (T:World) (h:Hp) (o:Ow) (wb i:Nat) (dv:Value) (bV:List Nat) (Xe:Int) (vv:Value) (WN:QI) (d:UF o h) (iD:To o h dv bV) (iV:Wz o h vv WN.l) :
  Zc Tryz.prog T 29 #[.int .i64 i,.agg #[dv,.int .i64 Xe],.agg #[.int .i64 WN.p.r,.int .i64 WN.p.n,vv]] h fun v' h'=>∃nb o' a',v'=Zp nb∧Zg h.size h h'∧Kp (Ir i) o h o' h'∧ZM o' h' wb i nb a' (blank i true bV Xe WN):=by
 obtain⟨pd,cd,rfl⟩:=iD.1.isSlice;obtain⟨pv,cv,rfl⟩:=iV.isSlice;refine Zc.Zj (args:=[_,_,_]) Tryz.func29 rfl rfl rfl rfl ?_;unfold Zp;obtain⟨h1,YN⟩:=Zy ((h.push (.cells [.slice pd bV.length cd,.int .i64 Xe].toArray 76)).push (.cells [.int .i64 WN.p.r,.int .i64 WN.p.n,.slice pv WN.l.length cv].toArray 81):Hp);have k1:Kp QL o h o h1:=by rw[YN];exact ((Kp.refl d _).push _).push _
 have x4:ZR o h1 h.size (.cells [.slice pd bV.length cd,.int .i64 Xe].toArray 76):=⟨d _ (Nat.le_refl _),by rw[YN];exact jB _ _ _⟩
 have x5:ZR o h1 (h.size+1) (.cells [.int .i64 WN.p.r,.int .i64 WN.p.n,.slice pv WN.l.length cv].toArray 81):=⟨d _ (by omega),by rw[YN];exact lu _ _ _⟩
 have e0:=YN.symm;have r4:rd h1 ⟨h.size,0,none⟩ 2=some [.slice pd bV.length cd,.int .i64 Xe]:=Zq x4.2 rfl;have r5:rd h1 ⟨h.size+1,0,none⟩ 3=some [.int .i64 WN.p.r,.int .i64 WN.p.n,.slice pv WN.l.length cv]:=Zq x5.2 rfl;simp -implicitDefEqProofs only[go_sem,↓reduceIte,e0,r4,r5];obtain⟨A,hA⟩:∃A:NA,A=⟨.slice pd bV.length cd,.slice pv WN.l.length cv,none,h1.size,.slice none 0 0,.slice none 0 0,.slice none 0 0,.slice none 0 0,.nilFunc⟩:=⟨_,rfl⟩
 obtain⟨h2,Uz⟩:=Zy (h1.push (Xs []):Hp);obtain⟨h3,FZ⟩:=Zy (h2.push (Xl (blank i true bV Xe WN) A):Hp);have s2:h2.size=h1.size+1:=by rw[Uz];simp
 have ee:h3=(h1.push (.map #[] 0)).push (Xl (blank i true bV Xe WN) A):=by rw[FZ,Uz];rfl
 rw[hA]at ee;refine⟨h1.size+1,JL (JL o h1.size (.known i)) (h1.size+1) (.node i),A,rfl,?_⟩;have k2:Kp (Ir i) o h1 (JL o h1.size (.known i)) h2:=by rw[Uz];exact ((Kp.refl k1.ZX _).push _).Sg (Nat.le_refl _) (by simp) (.inr rfl)
 have k3:Kp (Ir i) o h1 (JL (JL o h1.size (.known i)) (h1.size+1) (.node i)) h3:=by rw[FZ];exact (k2.push _).Sg (by omega) (by rw[Array.size_push];omega) (.inl rfl)
 have kx:Kp (fun t=>t=.node i) (JL o h1.size (.known i)) h2 (JL (JL o h1.size (.known i)) (h1.size+1) (.node i)) h3:=by rw[FZ];exact ((Kp.refl k2.ZX _).push _).Sg (by omega) (by rw[Array.size_push];omega) rfl
 have m2:QE (JL o h1.size (.known i)) (.known i) h2 h1.size (UK Vj []):=⟨Y5,by rw[Uz];exact Zb⟩
 have iD3:=(iD.Zd k1).Zd k3;have iV3:=(iV.Zd k1).Zd k3;have K3:Kp (Ir i) o h (JL (JL o h1.size (.known i)) (h1.size+1) (.node i)) h3:=(ZF k1).trans k3;have st:ON Yt:=ON.qU (by kernel_rfl);show Zg h.size h ((h1.push (.map #[] 0)).push (Xl (blank i true bV Xe WN) ⟨.slice pd bV.length cd,.slice pv WN.l.length cv,none,h1.size,.slice none 0 0,.slice none 0 0,.slice none 0 0,.slice none 0 0,.nilFunc⟩))∧Kp (Ir i) o h _ ((h1.push (.map #[] 0)).push (Xl (blank i true bV Xe WN) ⟨.slice pd bV.length cd,.slice pv WN.l.length cv,none,h1.size,.slice none 0 0,.slice none 0 0,.slice none 0 0,.slice none 0 0,.nilFunc⟩))∧ZM _ ((h1.push (.map #[] 0)).push (Xl (blank i true bV Xe WN) ⟨.slice pd bV.length cd,.slice pv WN.l.length cv,none,h1.size,.slice none 0 0,.slice none 0 0,.slice none 0 0,.slice none 0 0,.nilFunc⟩)) wb i (h1.size+1) A (blank i true bV Xe WN);rw[←ee];refine⟨by rw[FZ,Uz,YN];exact ((((Zg.refl _ _).add _).add _).add _).add _,K3,⟨Y5,by rw[FZ,←s2];exact Zb⟩,?_⟩;rw[hA];exact⟨iD3,iV3,trivial,m2.Zd kx (by intro e;cases e),YG.nil _ _ _ _ _,YG.nil _ _ _ _ _,YG.nil _ _ _ _ _,⟨[],rfl,YG.nil _ _ _ _ _,fun x hx=>by cases hx⟩,rfl,st⟩
theorem CR {S:Tg→Prop} {o o':Ow} {h h':Hp} (k:Kp S o h o' h') {b:Nat} {t u:Tg} (hb:o' b=some t) (ht:S t) (hu:S u):Kp S o h (JL o' b u) h':=by
 refine⟨k.size,fun c hc hn=>⟨(k.Zd c hc hn).1,?_⟩,fun c hc v hv hs=>?_,fun c hc v hv=>?_,fun c hc=>?_⟩
 ·by_cases e:c=b
  ·subst e;have:=(k.Zd c hc hn).2;rw[hb]at this;exact (hn t this.symm ht).elim
  ·rw[Xc e];exact (k.Zd c hc hn).2
 ·by_cases e:c=b
  ·subst e;exact⟨u,Y5,hu⟩
  ·rw[Xc e];exact k.stay c hc v hv hs
 ·by_cases e:c=b
  ·subst e;rw[Y5]at hv;cases hv;exact hu
  ·rw[Xc e]at hv;exact k.new c hc v hv
 ·by_cases e:c=b
  ·subst e;rw[k.ZX c hc]at hb;cases hb
  ·rw[Xc e];exact k.ZX c hc
def It (i:Nat) (t:Tg):Prop:=t=.Zi i∨t=.prom i∨t=.Xk i
theorem jS {o:Ow} {h:Hp} {wb i nb:Nat} {a:NA} {n:Nd} (d:UF o h) (N:ZM o h wb i nb a n) :
  ∃o',Kp (It i) o h o' h∧ZV o' h wb i nb { a with Zi:=none } { n with Zi:=none,ZB:=Xk n.ZB }∧o' nb=some (.node i):=by
 have key:∀o',Kp (It i) o h o' h→UE o' h wb i nb none a.ZB (Xk n.ZB)→ZV o' h wb i nb { a with Zi:=none } { n with Zi:=none,ZB:=Xk n.ZB }:=fun o' k p=>
  ⟨N.pt.data.Zd k,N.pt.YM.Zd k,trivial,N.pt.known.Zd k (by rintro (e|e|e)<;>cases e),N.pt.log.Zd k (by rintro (e|e|e)<;>cases e),N.pt.queue.Zd k (by rintro (e|e|e)<;>cases e),N.pt.waiting.Zd k (by rintro (e|e|e)<;>cases e),N.pt.inbox.Zd k (by rintro (e|e|e)<;>cases e),p,N.pt.store⟩
 have hp:=N.pt.ZB;have hR:=N.pt.Zi
 cases NM:a.Zi with
 | none=>
  rw[NM]at hp;refine⟨o,Kp.refl d _,key o (Kp.refl d _) ?_,N.ZG.1⟩
  match hn:n.ZB,hp with
  | none,hp=>exact hp
  | some (.Lb _ _ _ _),hp=>exact hp
  | some (.MG _ _ _),hp=>exact hp
  | some (.own _ _ false),hp=>exact hp
  | some (.own _ _ true),⟨b6,b4,b7,b5,w,rb,h1,h2,h3,h4,h5,h6,a',h7,_⟩=>cases h7
 | some ra=>
  rw[NM]at hp hR;obtain⟨r,hr⟩:∃r,n.Zi=some r:=by
   cases hx:n.Zi with
   | none=>rw[hx]at hR;exact hR.elim
   | some r=>exact⟨r,rfl⟩
  rw[hr]at hR;have hR:YP o i h ra r:=hR;have Yv:ra.rb≠ra.pb:=fun e=>by
   have h1:=hR.ZG.1;have h2:=hR.prom.1;rw[e,h2]at h1;cases h1
  have k1:Kp (It i) o h (JL o ra.rb (.Xk i)) h:=CR (Kp.refl d (It i)) hR.ZG.1 (.inl rfl) (.inr (.inr rfl));have tI:JL o ra.rb (.Xk i) ra.pb=some (.prom i):=by rw[Xc (fun e=>Yv e.symm)];exact hR.prom.1
  have k2:Kp (It i) o h (JL (JL o ra.rb (.Xk i)) ra.pb (.Xk i)) h:=CR k1 tI (.inr (.inl rfl)) (.inr (.inr rfl));obtain⟨o2,tT⟩:=Zy (JL (JL o ra.rb (.Xk i)) ra.pb (.Xk i));rw[←tT]at k2;have s1:o2 ra.rb=some (.Xk i):=by rw[tT,Xc Yv];exact Y5
  have s2:o2 ra.pb=some (.Xk i):=by rw[tT];exact Y5
  have so:∀b,b≠ra.rb→b≠ra.pb→o2 b=o b:=fun b e1 e2=>by rw[tT,Xc e2,Xc e1]
  have sst:∀b,o b=some (.Xk i)→o2 b=some (.Xk i):=fun b hb=>by
   by_cases e1:b=ra.rb
   ·rw[e1];exact s1
   ·by_cases e2:b=ra.pb
    ·rw[e2];exact s2
    ·rw[so b e1 e2];exact hb
  have WC:o2 nb=some (.node i):=by
   rw[so nb (fun e=>by have:=N.ZG.1;rw[e,hR.ZG.1]at this;cases this) (fun e=>by have:=N.ZG.1;rw[e,hR.prom.1]at this;cases this)];exact N.ZG.1
  refine⟨o2,k2,key o2 k2 ?_,WC⟩
  match hn:n.ZB,hp with
  | none,hp=>exact hp
  | some (.Lb a to b vs),⟨b6,b4,b9,u,h1,h2,h3,h4,h5⟩=>exact⟨b6,b4,b9,u,h1,h2.Zd k2,h3.Zd k2,h4.Zd k2,h5.Zd k2⟩
  | some (.MG a to x),⟨b6,b4,b9,u,h1,h2,h3,h4,h5⟩=>exact⟨b6,b4,b9,u,h1,h2.Zd k2,h3.Zd k2,h4.Zd k2,h5.Zd k2⟩
  | some (.own a vs cur),⟨b6,b4,b7,b5,w,rb,h1,h2,h3,h4,h5,h6,h7⟩=>
   refine⟨b6,b4,b7,b5,w,rb,h1,h2.Zd k2,h3.Zd k2,h4.Zd k2,h5.Zd k2,h6.Zd k2,?_⟩;rw[if_neg (by simp)]
   cases cur with
   | false=>
    rw[if_neg (by simp)]at h7;obtain⟨cs,pb,pv,g1,g2,g3⟩:=h7;exact⟨cs,pb,pv,⟨sst _ g1.1,g1.2⟩,g2,sst _ g3.1,g3.2⟩
   | true=>
    rw[if_pos rfl]at h7;obtain⟨a',q1,q2⟩:=h7;obtain rfl:=Option.some.inj q1;rw[←q2];exact⟨_,ra.pb,ra.pv,⟨s1,hR.ZG.2⟩,rfl,s2,hR.prom.2⟩
theorem yg {o:Ow} {h:Hp} {wb i nb:Nat} {ra:Option RA} {v:Value} {p:Option Cv} (s:UE o h wb i nb none v (Xk p)):UE o h wb i nb ra v (Xk p):=by
 match p,s with
 | none,s=>exact s
 | some (.Lb _ _ _ _),s=>exact s
 | some (.MG _ _ _),s=>exact s
 | some (.own _ _ _),s=>exact s
set_option maxHeartbeats 4000000 in
theorem yh (T:World) (h:Hp) (o:Ow) (wb i nb:Nat) (a:NA) (n:Nd) (d:UF o h) (N:ZM o h wb i nb a n) (hb:n.own.p.r≤1000000000000∧n.heard.r≤1000000000000 ∧ -1000000000000≤n.own.p.r ∧ -1000000000000≤n.heard.r)
  (hr:∀r,n.Zi=some r→r.b.r≤1000000000000 ∧ -1000000000000≤r.b.r) :
  Zc Tryz.prog T 31 #[Zp wb,Zp nb] h fun v' h'=>∃o' a',Kp (fun t=>t.of=some i) o h o' h'∧ZM o' h' wb i nb a' (lead n):=by
 refine Zc.Lk (args:=#[_,_]) Tryz.func31 rfl rfl rfl ?_;obtain⟨M,hM⟩:=Zy (max n.own.p.r n.heard.r+1);refine VS.seq (VS.mono (N:=fun F' g'=>F' 1=.pointer (some ⟨nb,0,none⟩)∧Zg h.size h g'∧∃kb,h.size≤kb∧F' 4=.pointer (some ⟨kb,0,none⟩)∧g'[kb]? = some (.cells [.int .i64 M,.int .i64 n.me].toArray 78)) ?_ ?_ (fun _ _ _ h=>h) (fun _ _ h=>h))
 ·refine Jl _ _ _ _ _ _ rfl ?_;unfold Zp;have P:=ZA N.ZG.2 N.pt.store.len;have WC:=Za N.ZG.2;simp -implicitDefEqProofs only[go_sem,↓reduceIte];refine VS.z (h.size) [19] (.p 0 (.p 1 (.p 2 (.p 3 (.p 4 (.q 5 (.p 6 (.p 7 (.p 8 (.p 9 (.q 10 (.p 11 (.p 12 (.p 13 (.p 14 (.p 15 (.q 16 (.p 17 (.s 18 (.w 19 .nil)))))))))))))))))))) mixed (by kernel_rfl) ?_;simp -implicitDefEqProofs only[go_sem,↓reduceIte,P.Zpz,P.Zci,P.me,WC];have em:(if n.heard.r>n.own.p.r then n.heard.r else n.own.p.r)+1=M:=by
   rw[hM];split<;>omega
  rw[em];exact⟨_,Nat.le_refl _,rfl,Zb⟩
 rintro F1 g1 ⟨f1,b1,kb,tH,f4,y4⟩;refine VS.seq (VS.mono (N:=fun F' g'=>F' 1=.pointer (some ⟨nb,0,none⟩)∧F' 4=.pointer (some ⟨kb,0,none⟩)∧Zg h.size h g'∧g'[kb]? = some (.cells [.int .i64 (XE n).r,.int .i64 n.me].toArray 78)) ?_ ?_ (fun _ _ _ h=>h) (fun _ _ h=>h))
 ·refine Jl _ _ _ _ _ _ rfl ?_;have k1:=ZE d b1;have N1:=N.still k1;have P1:=ZA N1.ZG.2 N1.pt.store.len;have P1r:=P1.Zi;have JU:=Za N1.ZG.2;have l4:=Za y4;have r4:hc g1 ⟨kb,0,none⟩=some (.int .i64 M):=Zh y4
  cases NM:a.Zi with
  | none=>
   rw[NM]at P1r;unfold Pk at P1r;have hn:n.Zi=none:=by
    have:=N.pt.Zi;rw[NM]at this
    cases hx:n.Zi with
    | none=>rfl
    | some r=>rw[hx]at this;exact this.elim
   have e1:(XE n).r=M:=by unfold XE;rw[hn,hM]
   rw[e1];simp -implicitDefEqProofs only[go_sem,↓reduceIte,f1,P1r];exact⟨f4,b1,y4⟩
  | some ra=>
   rw[NM]at P1r;unfold Pk Zp at P1r;obtain⟨r,hn⟩:∃r,n.Zi=some r:=by
    have:=N.pt.Zi;rw[NM]at this
    cases hx:n.Zi with
    | none=>rw[hx]at this;exact this.elim
    | some r=>exact⟨r,rfl⟩
   have R1:YP o i g1 ra r:=by have:=N1.pt.Zi;rw[NM,hn]at this;exact this
   have BG:=Za R1.ZG.2;have rr0:hc g1 ⟨ra.rb,0,none⟩=some (.int .i64 r.b.r):=Zh R1.ZG.2;have e1:(XE n).r=max M (r.b.r+1):=by unfold XE;rw[hn,hM]
   obtain⟨kV,hr2⟩:=hr r hn;obtain⟨Z,hZ⟩:=Zy ((XE n).r);have hz:(if r.b.r+1>M then r.b.r+1 else M)=Z:=by
    rw[hZ,e1];split<;>omega
   rw[←hZ];have w4:JK g1 ⟨kb,0,none⟩ (.int .i64 Z)=some (g1.setIfInBounds kb (.cells [.int .i64 Z,.int .i64 n.me].toArray 78)):=by rw[YD y4 0 _];rfl
   simp -implicitDefEqProofs only[go_sem,↓reduceIte,f1,P1r];refine VS.z (g1.size) [10] (.p 0 (.q 1 (.p 2 (.p 3 (.p 4 (.p 5 (.q 6 (.p 7 (.p 8 (.p 9 (.w 10 .nil))))))))))) mixed (by kernel_rfl) ?_;simp -implicitDefEqProofs only[go_sem,↓reduceIte,f1,f4,P1r,r4,rr0,BG,l4,hz,w4];exact⟨b1.Zk tH _,Zx y4⟩
 clear f1 f4 y4 b1;rintro F3 g3 ⟨f1,f4,b3,y4⟩;refine Jl _ _ _ _ _ _ rfl ?_;have k3:=ZE d b3;have N3:=N.still k3;have P3:=ZA N3.ZG.2 N3.pt.store.len;have P3u:=P3.up;have Pm:=Za N3.ZG.2;have l4:=Za y4;have r4a:hc g3 ⟨kb,0,none⟩=some (.int .i64 (XE n).r):=Zh y4
 cases hu:n.up with
 | false=>
  rw[hu]at P3u;have e1:lead n=n:=by unfold lead;rw[if_pos (.inl hu)]
  rw[e1];simp -implicitDefEqProofs only[go_sem,↓reduceIte,f1,P3u];exact⟨o,a,ZF k3,N3⟩
 | true=>
 rw[hu]at P3u;by_cases c:65536<(XE n).r
 ·have e1:lead n=n:=by unfold lead;rw[if_pos (.inr c)]
  rw[e1];have c':(XE n).r>65536:=c;simp -implicitDefEqProofs only[go_sem,↓reduceIte,f1,f4,P3u,r4a,c,c'];exact⟨o,a,ZF k3,N3⟩
 have e1:lead n = { n with Zi:=some ⟨XE n,[],false,[],[]⟩,ZB:=Xk n.ZB }:=by
  unfold lead;rw[if_neg];rintro (e|e)
  ·rw[hu]at e;cases e
  ·exact c e
 rw[e1];have c':¬(XE n).r>65536:=c;have r4:rd g3 ⟨kb,0,none⟩ 2=some [.int .i64 (XE n).r,.int .i64 n.me]:=Zq y4 rfl;obtain⟨o2,k2,yi,JZ⟩:=jS k3.ZX N3;obtain⟨ra,NM⟩:∃ra:RA,ra=⟨g3.size+3,g3.size,g3.size+1,g3.size+2,[],[]⟩:=⟨_,rfl⟩
 obtain⟨r,hr0⟩:∃r:Jw,r=⟨XE n,[],false,[],[]⟩:=⟨_,rfl⟩
 obtain⟨p1,tI⟩:=Zy (g3.push (Xs []):Hp);obtain⟨p2,nK⟩:=Zy (p1.push (Xs []):Hp);obtain⟨p3,hp3⟩:=Zy (p2.push (Xs []):Hp);obtain⟨p4,hp4⟩:=Zy (p3.push (.cells (bB r ra).toArray 138):Hp);have s1:p1.size=g3.size+1:=by rw[tI];simp
 have s2:p2.size=g3.size+2:=by rw[nK,Array.size_push,s1]
 have s3:p3.size=g3.size+3:=by rw[hp3,Array.size_push,s2]
 have s4:p4.size=g3.size+4:=by rw[hp4,Array.size_push,s3]
 have q1:p4[g3.size]? = some (Xs []):=by rw[hp4,Zu (by omega),hp3,Zu (by omega),nK,Zu (by omega),tI];exact Zb
 have q2:p4[g3.size+1]? = some (Xs []):=by rw[hp4,Zu (by omega),hp3,Zu (by omega),nK,←s1];exact Zb
 have q3:p4[g3.size+2]? = some (Xs []):=by rw[hp4,Zu (by omega),hp3,←s2];exact Zb
 have q4:p4[g3.size+3]? = some (.cells (bB r ra).toArray 138):=by rw[hp4,←s3];exact Zb
 have kp:Kp (XN i) o2 g3 o2 p4:=by rw[hp4,hp3,nK,tI];exact ((((Kp.refl k2.ZX _).push _).push _).push _).push _
 have ka:=kp.Sg (b:=g3.size) (t:=.prom i) (Nat.le_refl _) (by omega) (.inr (.inl rfl));have kb':=ka.Sg (b:=g3.size+1) (t:=.prop i) (by omega) (by omega) (.inr (.inr (.inl rfl)));have kc:=kb'.Sg (b:=g3.size+2) (t:=.Xy i) (by omega) (by omega) (.inr (.inr (.inr (.inl rfl))));have k5:=kc.Sg (b:=g3.size+3) (t:=.Zi i) (by omega) (by omega) (.inl rfl);obtain⟨o5,ho5⟩:=Zy (JL (JL (JL (JL o2 g3.size (.prom i)) (g3.size+1) (.prop i)) (g3.size+2) (.Xy i)) (g3.size+3) (.Zi i));rw[←ho5]at k5;clear ka kb' kc kp;have t1:o5 g3.size=some (.prom i):=by rw[ho5,Xc (by omega),Xc (by omega),Xc (by omega)];exact Y5
 have t2:o5 (g3.size+1)=some (.prop i):=by rw[ho5,Xc (by omega),Xc (by omega)];exact Y5
 have t3:o5 (g3.size+2)=some (.Xy i):=by rw[ho5,Xc (by omega)];exact Y5
 have t4:o5 (g3.size+3)=some (.Zi i):=by rw[ho5];exact Y5
 have R5:YP o5 i p4 ra r:=by
  rw[NM,hr0];rw[NM,hr0]at q4;exact⟨⟨t4,q4⟩,⟨t1,q1⟩,.nil,⟨t2,q2⟩,⟨t3,q3⟩,.nil,by simp⟩
 have en:∀t:Tg,(t=.known i∨t=.log i∨t=.queue i∨t=.waiting i∨t=.inbox i∨t=.Xk i∨t=.node i)→¬XN i t:=by
  intro t ht hr;rcases ht with rfl|rfl|rfl|rfl|rfl|rfl|rfl<;>rcases hr with e|e|e|e|⟨s,e⟩<;>cases e
 have pn:UE o5 p4 wb i nb (some ra) a.ZB (Xk n.ZB):=yg (yi.ZB.Zd k5 (en _ (by simp)));have pt5:ZV o5 p4 wb i nb { a with Zi:=some ra } { n with Zi:=some r,ZB:=Xk n.ZB }:=
  ⟨yi.data.Zd k5,yi.YM.Zd k5,R5,yi.known.Zd k5 (en _ (by simp)),yi.log.Zd k5 (en _ (by simp)),yi.queue.Zd k5 (en _ (by simp)),yi.waiting.Zd k5 (en _ (by simp)),yi.inbox.Zd k5 (en _ (by simp)),pn,yi.store⟩
 have B5:Q2 o5 (.node i) p4 nb (Xl n a):=Q2.Zd (o:=o2) ⟨JZ,N3.ZG.2⟩ k5 (en _ (by simp));obtain⟨g6,w6,N6,k6⟩:=ZV.write pt5 k5.ZX B5 ((YY B5.2 N.pt.store.len).Zi (some ra));have Pq:=Za B5.2;have ee:p4=(((g3.push (.map #[] 0)).push (.map #[] 0)).push (.map #[] 0)).push (.cells #[.int .i64 (XE n).r,.int .i64 n.me,.map (some g3.size),.bool false,.map (some (g3.size+1)),.map (some (g3.size+2))] 138):=by
  rw[hp4,hp3,nK,tI,NM,hr0];rfl
 have w6':JK p4 ⟨nb,9,none⟩ (.pointer (some ⟨g3.size+3,0,none⟩))=some g6:=by rw[←w6,NM];rfl
 have ee':=ee.symm;rw[hr0]at N6;simp -implicitDefEqProofs only[go_sem,↓reduceIte,f1,f4,P3u,r4a,c,c',r4,ee',w6',Pq];refine⟨o5,_,((ZF k3).trans (k2.mono fun t q=>?_)).trans ((k5.mono fun t q=>NJ q).trans (k6.mono fun t q=>by rw[q];rfl)),N6⟩;rcases q with rfl|rfl|rfl<;>rfl
theorem ZcI {l:List Nat} {a r:QI} {k j:Nat} (h:Rec l a k r j):∀f,l.length+1≤k+f→Ib l f a k=(r,j):=by
 induction h with
 | stop e=>
  intro f hf
  cases f with
  | zero=>rfl
  | succ f=>unfold Ib;rw[e]
 | @go a a' r k k' j e _ ih=>
  intro f hf;have e':=e;unfold Yo at e';split at e'
  ·rename_i q;rw[Option.map_eq_some_iff]at e';obtain⟨x,_,hx⟩:=e';have hk:k'=k+(UB l k+4):=(congrArg Prod.snd hx).symm
   cases f with
   | zero=>omega
   | succ f=>
    unfold Ib;rw[e];exact ih f (by omega)
  ·cases e'
theorem S7 {l:List Nat} {r:QI} {k:Nat} (h:Rec l X2 0 r k):Wt l=(r,k):=ZcI h _ (by omega)
theorem GK {o:Ow} {h:Hp} {wb:Nat} {Ya:Nat→Nat} {YL:WA} {fl:List Y7} {bad:Nat→Int} {told:List Ri} (d:UF o h) (W:ZI o h wb Ya YL fl bad told) (i nb:Nat) (hi:i<5) :
  ∃b off c g,YL.nodes=.slice (some ⟨b,off,none⟩) 5 c∧JK h ⟨b,off+i,none⟩ (Zp nb)=some g∧Kp (fun t=>t=.nodes) o h o g∧ZI o g wb (fun j=>if j=i then nb else Ya j) YL fl bad told:=by
 rcases hw:W.nodes with⟨_,e,_⟩|⟨b,off,cap,pre,spare,g1,g2,g3,g4,g5,g6,g7⟩
 ·cases e
 have hw':JK h ⟨b,off+i,none⟩ (Zp nb)=some (h.setIfInBounds b (.cells (pre++([Zp (Ya 0),Zp (Ya 1),Zp (Ya 2),Zp (Ya 3),Zp (Ya 4)].set i (Zp nb)++spare)).toArray 74)):=by
  rw[YD g3,if_pos ⟨by simp only[List.length_append,List.length_cons];omega,rfl⟩];rw[←g4,List.set_append_right _ _ (by omega),Nat.add_sub_cancel_left,List.set_append_left _ _ (by simpa using hi)]
 have kk:Kp (fun t=>t=.nodes) o h o (h.setIfInBounds b (.cells (pre++([Zp (Ya 0),Zp (Ya 1),Zp (Ya 2),Zp (Ya 3),Zp (Ya 4)].set i (Zp nb)++spare)).toArray 74)):=(Kp.refl d (fun t=>t=.nodes)).set g1 rfl _;refine⟨b,off,cap,_,g2,hw',kk,W.ZG.Zd kk (by intro e;cases e),?_,W.Zn.Zd kk (by intro e;cases e),W.told.Zd kk (by intro e;cases e)⟩;refine .inr ⟨b,off,cap,pre,spare,g1,g2,?_,g4,rfl,g6,g7⟩;rw[Zx g3]
 match i,hi with
 | 0,_=>rfl
 | 1,_=>rfl
 | 2,_=>rfl
 | 3,_=>rfl
 | 4,_=>rfl
def Th (k n a b:Int) (d:Value):List Value:=[.int .i64 k,.int .i64 n,.int .i64 a,.int .i64 b,d]
structure WOk (w:Wd):Prop where
 me:∀i,i<5→(w.nodes i).me=i
 step:∀i,i<5→bQ (w.nodes i) w.Zn.length w.told.length
 queue:∀i,i<5→(w.nodes i).queue.length≤100000000000
 log:∀i,i<5→(w.nodes i).log.length≤100000000000
 waiting:∀i,i<5→(w.nodes i).waiting.length≤100000000000
 inbox:∀i,i<5→(w.nodes i).inbox.length≤100000000000
 data:∀i,i<5→(w.nodes i).data.length≤1000000
 told:w.told.length≤100000000000
 bad:∀i,i<5→0≤w.bad i∧w.bad i≤1000000000000
 ZqH:∀i,i<5→(w.nodes i).own.p.r≤1000000000000∧(w.nodes i).heard.r≤1000000000000 ∧ -1000000000000≤(w.nodes i).own.p.r ∧ -1000000000000≤(w.nodes i).heard.r
 rgn:∀i,i<5→∀r,(w.nodes i).Zi=some r→r.b.r≤1000000000000 ∧ -1000000000000≤r.b.r
 to:∀l∈w.Zn,0≤l.to∧l.to<5
 room:w.Zn.length≤100000000000
theorem Jr.fresh {o o':Ow} {h h':Hp} {wb:Nat} {Ya:Nat→Nat} {YL:WA} {w:Wd} {i nb:Nat} {a:NA} {n:Nd} (A:Jr o h wb Ya YL w) (k:Kp (fun t=>t=.nodes∨t.of=some i) o h o' h')
  (N:ZM o' h' wb i nb a n) (W:ZI o' h' wb (fun j=>if j=i then nb else Ya j) YL w.Zn w.bad w.told):Jr o' h' wb (fun j=>if j=i then nb else Ya j) YL (w.set i n):=by
 refine⟨W,fun j hj=>?_⟩;by_cases e:j=i
 ·subst e;refine⟨a,?_⟩;unfold Wd.set
  simpa using N
 ·obtain⟨b,M⟩:=A.nd j hj;refine⟨b,?_⟩;unfold Wd.set;simp only[if_neg e];refine M.Zd k fun t q hq=>?_;rcases q with rfl|q
  ·cases hq
  ·rw[hq]at q;exact e (Option.some.inj q)
theorem CS (w:Wd) (i:Nat):w.set i (w.nodes i)=w:=by
 unfold Wd.set;have:(fun j=>if j=i then w.nodes i else w.nodes j)=w.nodes:=by
  funext j;split
  ·next e=>rw[e]
  ·rfl
 rw[this]
theorem Iu {o:Ow} {h':Hp} {p:Option Addr} {c:Nat} {L:List Nat} (d:UF o h') (hb:Bs h' (.slice p L.length c) L) (hc:L.length≤c) (hf:∀b,ZO (.slice p L.length c)=some b→o b=none∧b<h'.size):To o h' (.slice p L.length c) L:=
 ⟨⟨hb.sl,⟨p,c,rfl,hc⟩,fun b q=>⟨(hf b q).2,(hf b q).1⟩⟩,hb.byte⟩
theorem CT {o:Ow} {h:Hp} {v:Value} {l:List Nat} {k:Nat} (d:UF o h) (s:To o h v l) (hk:k<h.size) (hv:∀b,ZO v=some b→b≠k) (x:Obj):To o (h.setIfInBounds k x) v l:=by
 have d2:UF (JL o k Tg.nodes) h:=fun b hb=>by rw[Xc (by omega)];exact d b hb
 have s2:To (JL o k Tg.nodes) h v l:=⟨⟨s.1.sl,s.1.fits,fun b hb=>⟨(s.1.free b hb).1,by rw[Xc (hv b hb)];exact (s.1.free b hb).2⟩⟩,s.2⟩
 have k2:Kp (fun t=>t=Tg.nodes) (JL o k Tg.nodes) h (JL o k Tg.nodes) (h.setIfInBounds k x):=(Kp.refl d2 (fun t=>t=Tg.nodes)).set Y5 rfl x;have s3:=s2.Zd k2;exact⟨⟨s3.1.sl,s3.1.fits,fun b hb=>⟨(s3.1.free b hb).1,(s.1.free b hb).2⟩⟩,s3.2⟩
theorem bW (i:Nat) (n:Nd) (k:Int) (L:List Nat) (Z E:Int) (hu:n.up=true) (h:Sq n.data n.Xe k=(L,Z,E)):crashed i n k = { blank i true L Z X2 with up:=false }:=by
 unfold crashed;rw[if_pos hu];unfold Sq at h;by_cases c:YS n.data n.Xe
 ·rw[if_pos (show n.data.length≤100000∧0≤n.Xe∧n.Xe≤n.data.length from c)]at h;by_cases q:k<0
  ·rw[if_pos q]at h
   cases h
   rw[if_neg (fun e=>by have:=e.2;omega)];rfl
  ·rw[if_neg q]at h
   cases h
   rw[if_pos ⟨c,by omega⟩];rfl
 ·rw[if_neg (show ¬(n.data.length≤100000∧0≤n.Xe∧n.Xe≤n.data.length) from c)]at h
  cases h
  rw[if_neg (fun e=>c e.1)];rfl
theorem bX (w:Wd) (l:Y7) (i:Nat):((UJ w l).nodes i).inbox.length≤(w.nodes i).inbox.length+1:=by
 unfold UJ;split
 ·unfold Wd.set;simp only;split
  ·next e=>subst e;simp
  ·omega
 ·omega
theorem CU (i:Nat):∀(ls:List Y7) (w:Wd),((ls.foldl UJ w).nodes i).inbox.length≤(w.nodes i).inbox.length+ls.length:=by
 intro ls
 induction ls with
 | nil=>intro w;simp
 | cons l ls ih=>
  intro w;have h1:=ih (UJ w l);have h2:=bX w l i;simp only[List.foldl_cons,List.length_cons];omega
end Go.Proofs.YtboeoomhjbcecaaGreatDoor
