/- What a leader does of its own. -/
import Derived.Test.YtkfhncfkagcamaaGreatDoorMoy
namespace Go.Proofs.YtkfhncfkagcamaaGreatDoor
open Go Go.V
set_option linter.unusedSimpArgs false
set_option linter.unusedVariables false
set_option maxRecDepth 100000
theorem JY {α:Type} (f:Nat→List α) (m:Nat):(List.range (m+1)).flatMap f=(List.range m).flatMap f++f m:=by
 rw[List.range_succ,List.flatMap_append];simp
theorem UY {α:Type} (f:Nat→List α) (k m:Nat) (h:∀i,(f i).length≤k):((List.range m).flatMap f).length≤m*k:=by
 induction m with
 | zero=>simp
 | succ m ih=>rw[JY,List.length_append,Nat.add_mul];have:=h m;omega
theorem fK {n n':Nd} (hk:n.known=n'.known) (r:Qg) (x:Cm):∀k s,Ui n r x k s=Ui n' r x k s:=by
 intro k
 induction k with
 | zero=>intro s;rfl
 | succ k ih=>intro s;unfold Ui;rw[hk,ih]
theorem GG {n n':Nd} (hk:n.known=n'.known) (hl:n.log=n'.log) (r:Qg) (x:Cm):free n r x=free n' r x:=by
 unfold free;rw[hl,fK hk]
theorem mU {n n':Nd} (hk:n.known=n'.known) (hl:n.log=n'.log) (r:Qg) (x:Cm):Vr n r x=Vr n' r x:=by
 unfold Vr;rw[GG hk hl]
theorem Ai {n n':Nd} (hk:n.known=n'.known) (hl:n.log=n'.log):∀(l:List Cm) (r:Qg),JC n r l=JC n' r l:=by
 intro l
 induction l with
 | nil=>intro r;rfl
 | cons x l ih=>intro r;show JC n (Vr n r x) l=JC n' (Vr n' r x) l;rw[mU hk hl,ih]
theorem fL {n n':Nd} (hk:n.known=n'.known) (LL:List (List Vt)):QI n LL=QI n' LL:=by
 funext pr s;unfold QI;rw[hk]
theorem fM {n n':Nd} (hk:n.known=n'.known) (hl:n.log=n'.log) (r:Qg):TW n r=TW n' r:=by
 unfold TW;rw[hl,fL hk]
theorem sy {n n':Nd} (hk:n.known=n'.known) (hm:n.me=n'.me) (r:Qg):WN n r=WN n' r:=by
 funext s;unfold WN PM;rw[hk,hm]
theorem mV {n n':Nd} (hk:n.known=n'.known) (hm:n.me=n'.me) (r:Qg):LW n r=LW n' r:=by
 unfold LW;rw[sy hk hm]
set_option maxHeartbeats 4000000 in
theorem sz (T:World) (h:Hp) (o:Ow) (wb i nb:Nat) (Z6:Nat→Nat) (a:NA) (n:Nd) (ra:RA) (r:Qg) (YA:WA) (fl:List Y2) (bad:Nat→Int) (told:List TV) (d:Q8 o h)
  (N:ZJ o h wb i nb { a with Zj:=some ra } { n with Zj:=some r }) (W:ZG o h wb Z6 YA fl bad told) (tb:DO o h) (Ym:fl.length≤900000000000) (lW:n.own.l.length≤1000000) (lu:n.data.length≤1000000)
  (hp:∀x∈r.prom,x.2.length≤1000000) (hs:∀x∈r.prom,∀v∈x.2,v.slot≤1000000) (ML:r.prom.length≤1000000000000) (hl:n.log.length≤1000000000000) (hq:n.queue.length≤1000000000000) :
  Zc Tryz.prog T 112 #[Zp wb,Zp nb,Zp ra.rb] h fun v' h'=>∃o' a' Xq,Kp (Xw i) o h o' h'∧ZJ o' h' wb i nb a' (Qw { n with Zj:=some r } r).n∧ZG o' h' wb Z6 Xq (fl++(Qw { n with Zj:=some r } r).ls) bad told:=by
 refine Zc.Zi (args:=[_,_,_]) Tryz.func112 rfl rfl rfl rfl ?_
 obtain⟨h1,Yw⟩:=ZA ((h.push (.cells [Zp nb].toArray 124)).push (.cells [Zp ra.rb].toArray 132):Hp)
 have k1:Kp Qh o h o h1:=by rw[Yw];exact ((Kp.refl d _).push _).push _
 have x4:ZM o h1 h.size (.cells [Zp nb].toArray 124):=⟨d _ (Nat.le_refl _),by rw[Yw];exact fD _ _ _⟩
 have x5:ZM o h1 (h.size+1) (.cells [Zp ra.rb].toArray 132):=⟨d _ (by omega),by rw[Yw];exact gY _ _ _⟩
 have e0:=Yw.symm
 unfold Zp at e0 ⊢
 have N1:=N.still k1
 have W1:=W.still k1
 have R1:YC o i h1 ra r:=N1.pt.Zj
 obtain⟨q0,q2,q3,q4,q5⟩:=R1.rr
 have P1:=Zy N1.ZE.2 N1.pt.store.len
 have l4:=Za x4.2
 have l5:=Za x5.2
 have DQ:=Za R1.ZE.2
 have Jx:=Za N1.ZE.2
 have r4:hc h1 ⟨h.size,0,none⟩=some (Zp nb):=Zh x4.2
 have r5:hc h1 ⟨h.size+1,0,none⟩=some (Zp ra.rb):=Zh x5.2
 unfold Zp at r4 r5
 have sA:rd h1 ⟨nb,4,none⟩ 2=some (X3 n.own.p):=P1.EX
 simp -implicitDefEqProofs only[go_sem,↓reduceIte,e0]
 refine VS.mono (N:=fun F' g'=>Zg h1.size h1 g'∧F' 0=.pointer (some ⟨wb,0,none⟩)∧F' 4=.pointer (some ⟨h.size,0,none⟩)∧F' 5=.pointer (some ⟨h.size+1,0,none⟩)∧F' 35=.bool (decide (below n.own.p r.b))) ?_ ?_ (fun _ _ _ h=>h) (fun _ _ h=>h)
 ·refine VS.z (h1.size) [9] (.q 0 (.p 1 (.p 2 (.q 3 (.q 4 (.p 5 (.p 6 (.p 7 (.q 8 (.w 9 .nil)))))))))) mixed (by kernel_rfl) ?_
  simp -implicitDefEqProofs only[go_sem,↓reduceIte,r4,r5,q0,sA,l4,l5,DQ,Jx]
  refine (PT T h1 r.b n.own.p).use ?_
  rintro _ g ⟨rfl,b⟩
  simp -implicitDefEqProofs only[go_sem,↓reduceIte,b]
 rintro F1 g1 ⟨b1,f0,f4,f5,f35⟩
 have kb:=ZD k1.ZX b1
 replace N1:=N1.still kb
 replace W1:=W1.still kb
 replace k1:=k1.trans kb
 replace x4:=x4.Zd kb
 replace x5:=x5.Zd kb
 have tb1:=tb.Zd k1
 clear R1 q0 q2 q3 q4 q5 P1 sA l4 l5 DQ Jx r4 r5 e0
 have R1:YC o i g1 ra r:=N1.pt.Zj
 obtain⟨q0,q2,q3,q4,q5⟩:=R1.rr
 have P1:=Zy N1.ZE.2 N1.pt.store.len
 have l4:=Za x4.2
 have l5:=Za x5.2
 have DQ:=Za R1.ZE.2
 have Jx:=Za N1.ZE.2
 have r4:hc g1 ⟨h.size,0,none⟩=some (Zp nb):=Zh x4.2
 have r5:hc g1 ⟨h.size+1,0,none⟩=some (Zp ra.rb):=Zh x5.2
 unfold Zp at r4 r5
 by_cases c1:below n.own.p r.b
 ·have mW:=P1.own
  obtain⟨pv,cv,hO⟩:=N1.pt.YG.isSlice
  have hO:a.YG=.slice pv n.own.l.length cv:=hO
  have mW:rd g1 ⟨nb,4,none⟩ 3=some [.int .i64 n.own.p.r,.int .i64 n.own.p.n,.slice pv n.own.l.length cv]:=by rw[←hO];exact mW
  have N1v:U6 o g1 (.slice pv n.own.l.length cv) n.own.l:=by rw[←hO];exact N1.pt.YG
  unfold X3 at q0
  have call:∀G,Zg g1.size g1 G→Zc Tryz.prog T 114 #[.agg #[.int .i64 n.own.p.r,.int .i64 n.own.p.n,.slice pv n.own.l.length cv],.agg #[.int .i64 r.b.r,.int .i64 r.b.n]] G fun v' h'=>Ea G.size h' v' n.own.p n.own.l r.b∧Zg G.size G h':=fun G hG=>
   VN T G n.own.p _ n.own.l r.b (N1v.ts.Z9 hG) (by omega)
  obtain⟨E,hE⟩:=ZA (Yv n.own.p n.own.l r.b)
  have wA:∀(G:Hp) (k:Nat) (r m:Int) (p:Option Addr) (L c:Nat),G[k]? = some (.cells [.int .i64 0,.int .i64 0,.slice none 0 0].toArray 131)→wr G ⟨k,0,none⟩ [.int .i64 r,.int .i64 m,.slice p L c]=some (G.setIfInBounds k (.cells [.int .i64 r,.int .i64 m,.slice p L c].toArray 131)):=fun G k r m p L c hx=>by
   rw[ZR hx 0 _];rfl
  have wB:∀(G:Hp) (k:Nat) (p:Option Addr) (L c:Nat),G[k]? = some (.cells [.slice none 0 0].toArray 129)→Jh G ⟨k,0,none⟩ (.slice p L c)=some (G.setIfInBounds k (.cells [.slice p L c].toArray 129)):=fun G k p L c hx=>by
   rw[Yr hx 0 _];rfl
  simp -implicitDefEqProofs only[go_sem,↓reduceIte,f35,c1]
  refine VS.mono (N:=fun F' g'=>Zg g1.size g1 g'∧F' 4=.pointer (some ⟨h.size,0,none⟩)∧F' 5=.pointer (some ⟨h.size+1,0,none⟩)∧aY g1.size g' (F' 6) (F' 7) n.own.p n.own.l r.b) ?_ ?_ (fun _ _ _ h=>h) (fun _ _ h=>h)
  ·refine VS.z (g1.size) [8,15,16] (.q 0 (.p 1 (.p 2 (.q 3 (.q 4 (.p 5 (.p 6 (.q 7 (.or 8 (.p 9 (.p 10 (.p 11 (.p 12 (.or 13 (.s 14 (.w 15 (.w 16 (.p 17 .nil)))) (.s 14 (.s 13 (.w 15 (.w 16 (.p 17 .nil)))))))))) (.or 13 (.or 8 (.p 9 (.p 10 (.p 11 (.p 12 (.s 14 (.w 15 (.w 16 (.p 17 .nil)))))))) (.s 14 (.w 8 (.p 9 (.p 10 (.p 11 (.p 12 (.w 15 (.w 16 (.p 17 .nil)))))))))) (.s 14 (.or 8 (.p 9 (.p 10 (.p 11 (.p 12 (.s 13 (.w 15 (.w 16 (.p 17 .nil)))))))) (.s 13 (.w 8 (.p 9 (.p 10 (.p 11 (.p 12 (.w 15 (.w 16 (.p 17 .nil))))))))))))))))))))) mixed (by kernel_rfl) ?_
   simp -implicitDefEqProofs only[go_sem,↓reduceIte,f4,f5,r4,r5,mW,q0,Jx,DQ,l4,l5]
   unfold aY Zp YD
   repeat' (first|with_reducible exact Zg.refl _ _|with_reducible exact Zg.push (by omega) _|with_reducible refine And.intro ?_ ?_)
   all_goals first
    | (refine (call g1 (Zg.refl _ _)).use ?_
       rintro _ g5 ⟨⟨w1,w2,rfl,o1,o2⟩,b5⟩
       obtain⟨p1,c1,rfl,_⟩:=o1.open
       obtain⟨p2,c2,rfl,_⟩:=o2.open
       rw[←hE]at *
       have s5:=b5.size
       unfold YD
       simp -implicitDefEqProofs only[go_sem,↓reduceIte,b5]
       refine⟨⟨f4,f5,_,_,_,_,rfl,rfl,s5,by omega,fD _ _ _,gY _ _ _,(o1.push _).push _,(o2.push _).push _⟩,⟨f4,f5,_,_,_,_,rfl,rfl,by omega,s5,gY _ _ _,fD _ _ _,(o1.push _).push _,(o2.push _).push _⟩⟩)
    | (refine (call (g1.push (.cells _ 131)) (Zg.push (Nat.le_refl _) _)).use ?_
       rintro _ g5 ⟨⟨w1,w2,rfl,o1,o2⟩,b5⟩
       obtain⟨p1,c1,rfl,_⟩:=o1.open
       obtain⟨p2,c2,rfl,_⟩:=o2.open
       rw[←hE]at *
       have s5:=b5.size
       rw[Array.size_push]at s5
       have B5:Zg g1.size g1 g5:=(Zg.push (Nat.le_refl _) _).trans (b5.mono (by simp))
       have xA:=b5.get (k:=g1.size) (by simp) Zb
       have Tb:=wA _ _ (if E=0 then r.b else ⟨0,0⟩).r (if E=0 then r.b else ⟨0,0⟩).n p1 (if E=0 then n.own.l else []).length c1 xA
       have zA:=Za xA
       unfold YD
       simp -implicitDefEqProofs only[go_sem,↓reduceIte,B5,Tb,zA]
       exact⟨f4,f5,_,_,_,_,rfl,rfl,Nat.le_refl _,by omega,by rw[Zs (by simpa using zA)];exact Zv xA,gs2 _ _ _ _,((o1.ZT (by simp) _).push _).mono (by simp),((o2.ZT (by simp) _).push _).mono (by simp)⟩)
    | (refine (call (g1.push (.cells _ 129)) (Zg.push (Nat.le_refl _) _)).use ?_
       rintro _ g5 ⟨⟨w1,w2,rfl,o1,o2⟩,b5⟩
       obtain⟨p1,c1,rfl,_⟩:=o1.open
       obtain⟨p2,c2,rfl,_⟩:=o2.open
       rw[←hE]at *
       have s5:=b5.size
       rw[Array.size_push]at s5
       have B5:Zg g1.size g1 g5:=(Zg.push (Nat.le_refl _) _).trans (b5.mono (by simp))
       have xB:=b5.get (k:=g1.size) (by simp) Zb
       have L9:=wB _ _ p2 (if E=0 then n.own.l else []).length c2 xB
       have zB:=Za xB
       unfold YD
       simp -implicitDefEqProofs only[go_sem,↓reduceIte,B5,L9,zB]
       exact⟨f4,f5,_,_,_,_,rfl,rfl,by omega,Nat.le_refl _,gs2 _ _ _ _,by rw[Zs (by simpa using zB)];exact Zv xB,((o1.ZT (by simp) _).push _).mono (by simp),((o2.ZT (by simp) _).push _).mono (by simp)⟩)
    | (refine (call ((g1.push (.cells _ 131)).push (.cells _ 129)) ((Zg.push (Nat.le_refl _) _).Yh (by simp) _)).use ?_
       rintro _ g5 ⟨⟨w1,w2,rfl,o1,o2⟩,b5⟩
       obtain⟨p1,c1,rfl,_⟩:=o1.open
       obtain⟨p2,c2,rfl,_⟩:=o2.open
       rw[←hE]at *
       have s5:=b5.size
       rw[Array.size_push,Array.size_push]at s5
       have B5:Zg g1.size g1 g5:=((Zg.push (Nat.le_refl _) _).Yh (by simp) _).trans (b5.mono (by simp;omega))
       have xA:=b5.get (k:=g1.size) (by simp;omega) (fD _ _ _)
       have xB:=b5.get (k:=g1.size+1) (by simp) (gY _ _ _)
       have Tb:=wA _ _ (if E=0 then r.b else ⟨0,0⟩).r (if E=0 then r.b else ⟨0,0⟩).n p1 (if E=0 then n.own.l else []).length c1 xA
       have zA:=Za xA
       have OJ:=fun o:Obj=>(Yi (o:=o) (show g1.size≠g1.size+1 by omega)).trans xB
       have L9:=fun o:Obj=>wB _ _ p2 (if E=0 then n.own.l else []).length c2 (OJ o)
       have zB:g1.size+1<g5.size:=Za xB
       unfold YD
       simp -implicitDefEqProofs only[go_sem,↓reduceIte,B5,Tb,zA,L9,zB]
       exact⟨f4,f5,_,_,_,_,rfl,rfl,by omega,by omega,(Yi (by omega)).trans (Zv xA),Zv (OJ _),((o1.ZT (by simp;omega) _).ZT (by simp) _).mono (by simp;omega),((o2.ZT (by simp;omega) _).ZT (by simp) _).mono (by simp;omega)⟩)
    | (refine (call ((g1.push (.cells _ 129)).push (.cells _ 131)) ((Zg.push (Nat.le_refl _) _).Yh (by simp) _)).use ?_
       rintro _ g5 ⟨⟨w1,w2,rfl,o1,o2⟩,b5⟩
       obtain⟨p1,c1,rfl,_⟩:=o1.open
       obtain⟨p2,c2,rfl,_⟩:=o2.open
       rw[←hE]at *
       have s5:=b5.size
       rw[Array.size_push,Array.size_push]at s5
       have B5:Zg g1.size g1 g5:=((Zg.push (Nat.le_refl _) _).Yh (by simp) _).trans (b5.mono (by simp;omega))
       have xB:=b5.get (k:=g1.size) (by simp;omega) (fD _ _ _)
       have xA:=b5.get (k:=g1.size+1) (by simp) (gY _ _ _)
       have Tb:=wA _ _ (if E=0 then r.b else ⟨0,0⟩).r (if E=0 then r.b else ⟨0,0⟩).n p1 (if E=0 then n.own.l else []).length c1 xA
       have zA:=Za xA
       have OJ:=fun o:Obj=>(Yi (o:=o) (show g1.size+1≠g1.size by omega)).trans xB
       have L9:=fun o:Obj=>wB _ _ p2 (if E=0 then n.own.l else []).length c2 (OJ o)
       have zB:g1.size<g5.size:=Za xB
       unfold YD
       simp -implicitDefEqProofs only[go_sem,↓reduceIte,B5,Tb,zA,L9,zB]
       exact⟨f4,f5,_,_,_,_,rfl,rfl,by omega,by omega,(Yi (by omega)).trans (Zv xA),Zv (OJ _),((o1.ZT (by simp) _).ZT (by simp;omega) _).mono (by simp;omega),((o2.ZT (by simp) _).ZT (by simp;omega) _).mono (by simp;omega)⟩)
  rintro F2 g2 ⟨b2,f4,f5,ka,kc,w1,w2,fA,fC,ge1,ge2,yA,yC,o1,o2⟩
  rw[←hE]at yA o1 o2
  obtain⟨A,hA⟩:∃A:Ww,A=if E=0 then ⟨r.b,n.own.l⟩ else Jk:=⟨_,rfl⟩
  obtain⟨V,hV⟩:∃V:List Vt,V=if E=0 then n.own.l else []:=⟨_,rfl⟩
  have hAp:(if E=0 then r.b else ⟨0,0⟩)=A.p:=by rw[hA];split<;>rfl
  have hAl:(if E=0 then n.own.l else [])=A.l:=by rw[hA];split<;>rfl
  have hVl:(if E=0 then n.own.l else [])=V:=hV.symm
  rw[hAp]at yA
  rw[hAl]at o1
  rw[hVl]at o2
  have SF:=ZD k1.ZX b2
  have N2:=N1.still SF
  have W2:=W1.still SF
  have K2:=k1.trans SF
  have z4:=x4.Zd SF
  have z5:=x5.Zd SF
  have CT:=tb1.Zd SF
  have R2:YC o i g2 ra r:=N2.pt.Zj
  obtain⟨u0,_,_,_,_⟩:=R2.rr
  unfold X3 at u0
  have iv7:U6 o g2 w2 V:=Im.QJ o2.own (fun b hb=>k1.ZX b hb)
  have iv6:U6 o g2 w1 A.l:=Im.QJ o1.own (fun b hb=>k1.ZX b hb)
  have z6:ZM o g2 ka _:=⟨k1.ZX ka ge1,yA⟩
  have z7:ZM o g2 kc _:=⟨k1.ZX kc ge2,yC⟩
  have P2:=Zy N2.ZE.2 N2.pt.store.len
  have m4:=Za z4.2
  have m5:=Za z5.2
  have mr:=Za R2.ZE.2
  have JD:=Za N2.ZE.2
  have s4:hc g2 ⟨h.size,0,none⟩=some (Zp nb):=Zh z4.2
  have s5:hc g2 ⟨h.size+1,0,none⟩=some (Zp ra.rb):=Zh z5.2
  unfold Zp at s4 s5 fA fC
  have mL:=P2.tape
  obtain⟨pd,cd,Ob⟩:=N2.pt.data.1.isSlice
  have Ob:a.data=.slice pd n.data.length cd:=Ob
  have mL:rd g2 ⟨nb,2,none⟩ 2=some [.slice pd n.data.length cd,.int .i64 n.Xe]:=by rw[←Ob];exact mL
  have N2d:Vz o g2 (.slice pd n.data.length cd) n.data:=by rw[←Ob];exact N2.pt.data
  obtain⟨E2,fE⟩:=ZA (Qp n.data n.Xe r.b)
  have call2:∀G,Zg g2.size g2 G→Zc Tryz.prog T 123 #[.agg #[.slice pd n.data.length cd,.int .i64 n.Xe],.agg #[.int .i64 r.b.r,.int .i64 r.b.n]] G fun v' h'=>VQ G.size h' v' n.data n.Xe E2 (Y5 (Qq r.b))∧Zg G.size G h':=fun G hG=>by
   rw[fE]
   exact Nv T G _ n.Xe n.data r.b (N2d.bs.Z9 hG) (by omega) (CT.tk.Ji hG)
  have wT:∀(G:Hp) (k:Nat) (m:Int) (p:Option Addr) (L c:Nat),G[k]? = some (.cells [.slice none 0 0,.int .i64 0].toArray 126)→wr G ⟨k,0,none⟩ [.slice p L c,.int .i64 m]=some (G.setIfInBounds k (.cells [.slice p L c,.int .i64 m].toArray 126)):=fun G k m p L c hx=>by
   rw[ZR hx 0 _];rfl
  refine VS.mono (N:=fun F' g'=>Zg g2.size g2 g'∧F' 4=.pointer (some ⟨h.size,0,none⟩)∧F' 5=.pointer (some ⟨h.size+1,0,none⟩)∧F' 6=.pointer (some ⟨ka,0,none⟩)∧F' 7=.pointer (some ⟨kc,0,none⟩)∧F' 10=.int .i64 E2∧I6 g2.size g' (F' 9) n.data n.Xe E2 (Y5 (Qq r.b))) ?_ ?_ (fun _ _ _ h=>h) (fun _ _ h=>h)
  ·refine VS.z (g2.size) [8,13] (.q 0 (.p 1 (.p 2 (.q 3 (.q 4 (.p 5 (.p 6 (.q 7 (.or 8 (.p 9 (.p 10 (.p 11 (.s 12 (.w 13 (.p 14 .nil)))))) (.s 12 (.w 8 (.p 9 (.p 10 (.p 11 (.w 13 (.p 14 .nil)))))))))))))))) mixed (by kernel_rfl) ?_
   simp -implicitDefEqProofs only[go_sem,↓reduceIte,f4,f5,fA,fC,s4,s5,mL,u0,m4,m5,mr,JD]
   unfold I6
   repeat' (first|with_reducible exact Zg.refl _ _|with_reducible exact Zg.push (by omega) _|with_reducible refine And.intro ?_ ?_)
   all_goals first
    | (refine (call2 g2 (Zg.refl _ _)).use ?_
       rintro _ g5 ⟨⟨w,rfl,o1⟩,b5⟩
       obtain⟨p1,c1,rfl,_⟩:=o1.bs.open
       have s5:=b5.size
       simp -implicitDefEqProofs only[go_sem,↓reduceIte,b5]
       exact⟨f4,f5,fA,fC,_,_,rfl,s5,Zb,o1.push _⟩)
    | (refine (call2 (g2.push (.cells _ 126)) (Zg.push (Nat.le_refl _) _)).use ?_
       rintro _ g5 ⟨⟨w,rfl,o1⟩,b5⟩
       obtain⟨p1,c1,rfl,_⟩:=o1.bs.open
       have B5:Zg g2.size g2 g5:=(Zg.push (Nat.le_refl _) _).trans (b5.mono (by simp))
       have xA:=b5.get (k:=g2.size) (by simp) Zb
       have Tb:=wT _ _ (if E2=0 then n.Xe else 0) p1 (if E2=0 then n.data++Y5 (Qq r.b) else []).length c1 xA
       have zA:=Za xA
       simp -implicitDefEqProofs only[go_sem,↓reduceIte,B5,Tb,zA]
       exact⟨f4,f5,fA,fC,_,_,rfl,Nat.le_refl _,Zv xA,(o1.ZT (by simp) _).mono (by simp)⟩)
  rintro F3 g3 ⟨b3,f4,f5,f6,f7,f10,kt,wt,fT,ge3,yT,oT⟩
  have U7:=ZD K2.ZX b3
  have N4:=N2.still U7
  have W4:=W2.still U7
  have K4:Kp Qh o h o g3:=K2.Z9 b3
  by_cases e2:E2=0
  case neg=>
   have eP:Qw { n with Zj:=some r } r=⟨{ n with Zj:=some r },[],[]⟩:=by unfold Qw;rw[if_pos c1,if_pos (by rw[←fE];exact e2)]
   rw[eP,List.append_nil]
   simp -implicitDefEqProofs only[go_sem,↓reduceIte,f10,e2]
   exact⟨o,_,YA,ZF K4,N4,W4⟩
  rw[if_pos e2]at yT oT
  have u4:=z4.Zd U7
  have u5:=z5.Zd U7
  have u6:=z6.Zd U7
  have u7:=z7.Zd U7
  have iu6:=iv6.Zd U7
  have iu7:=iv7.Zd U7
  have iT:Vz o g3 wt (n.data++Y5 (Qq r.b)):=⟨Im.QJ oT.own (fun b hb=>K2.ZX b hb),oT.byte⟩
  have eP:Qw { n with Zj:=some r } r=⟨{ n with Zj:=some r,data:=n.data++Y5 (Qq r.b),ZS:=some (.own A V true) },[],[]⟩:=by
   unfold Qw
   rw[if_pos c1,if_neg (by rw[←fE];simpa using e2),hA,hV,hE]
  rw[eP,List.append_nil]
  obtain⟨pt,ct,rfl,_⟩:=oT.bs.open
  have v4:hc g3 ⟨h.size,0,none⟩=some (Zp nb):=Zh u4.2
  have vT:rd g3 ⟨kt,0,none⟩ 2=some [.slice pt (n.data++Y5 (Qq r.b)).length ct,.int .i64 n.Xe]:=Zq yT rfl
  have Mb:=Za N4.ZE.2
  obtain⟨g4,w4,N5,k5⟩:=ZV.write (a:={ a with Zj:=some ra,data:=.slice pt (n.data++Y5 (Qq r.b)).length ct }) (n:={ n with Zj:=some r,data:=n.data++Y5 (Qq r.b) }) { N4.pt with data:=iT } K4.ZX N4.ZE ((YK N4.ZE.2 N4.pt.store.len).tape (.slice pt (n.data++Y5 (Qq r.b)).length ct) n.Xe rfl)
  have v4':hc g4 ⟨h.size,0,none⟩=some (Zp nb):=Zh (u4.Zd k5).2
  have Ru:=Za N5.ZE.2
  have pn:Q7 o g4 wb i nb (some ra) (Wb 131 [ka,h.size,kc,h.size+1]) (some (.own A V true)):=
   ⟨ka,h.size,kc,h.size+1,w2,ra.rb,rfl,⟨_,u6.Zd k5,iu6.Zd k5⟩,u4.Zd k5,u7.Zd k5,iu7.Zd k5,u5.Zd k5,by rw[if_pos rfl];exact⟨ra,rfl,rfl⟩⟩
  obtain⟨g6,w6,N6,k6⟩:=ZV.write (a:={ a with Zj:=some ra,data:=.slice pt (n.data++Y5 (Qq r.b)).length ct,ZS:=Wb 131 [ka,h.size,kc,h.size+1] }) (n:={ n with Zj:=some r,data:=n.data++Y5 (Qq r.b),ZS:=some (.own A V true) }) { N5.pt with ZS:=pn } k5.ZX N5.ZE ((YK N5.ZE.2 N5.pt.store.len).ZS (Wb 131 [ka,h.size,kc,h.size+1]) rfl)
  unfold Wb at w6
  simp only[List.map]at w6
  unfold Zp at v4 v4' w6
  simp -implicitDefEqProofs only[go_sem,↓reduceIte,f10,e2,f4,f5,f6,f7,fT,v4,vT,w4,Mb,v4',w6,Ru]
  have K6:Kp (Xw i) o h o g6:=((ZF K4).trans (k5.mono fun t q=>.inr (.inr (.inr (by rw[q];rfl))))).trans (k6.mono fun t q=>.inr (.inr (.inr (by rw[q];rfl))))
  exact⟨o,_,YA,K6,N6,(W4.Zd k5 (by rintro t rfl;simp[Tg.of])).Zd k6 (by rintro t rfl;simp[Tg.of])⟩
 by_cases c2:5<2*r.prom.length
 case neg=>
  have eP:Qw { n with Zj:=some r } r=⟨{ n with Zj:=some r },LV n r,[]⟩:=by unfold Qw;rw[if_neg c1,if_pos c2];rfl
  rw[eP]
  have lm:=fun (K:Value→Hp→Prop) (cs:Array Bool) (ty:TypeId)=>VG (T:=T) (K:=K) (ty:=ty) (cs:=cs) NB R1.prom.2
  rw[R1.TZ.length]at lm
  simp -implicitDefEqProofs only[go_sem,↓reduceIte,f0,f4,f5,f35,c1,r4,r5,q2,lm]
  refine (My T g1 r.prom.length ML).use ?_
  rintro _ _ ⟨rfl,rfl⟩
  simp -implicitDefEqProofs only[go_sem,↓reduceIte,c2,f0,f4,f5]
  obtain⟨pf,hpf⟩:∃pf:Nat→List Y2,pf=fun (m:Nat)=>if Xc r.prom (m:Int)=none then [⟨0,n.me,m,r.b,TQ,[]⟩] else []:=⟨_,rfl⟩
  have Zei:LV n r=(List.range 5).flatMap pf:=by rw[hpf];rfl
  have ZmV:∀m,(pf m).length≤1:=fun m=>by rw[hpf];simp only;split<;>simp
  rw[Zei]
  clear r4 r5 q0 q2 q3 q4 q5 l4 l5 DQ Jx P1 R1 lm Zei
  refine VS.ZW (fun F g=>F 0=.pointer (some ⟨wb,0,none⟩)∧F 4=.pointer (some ⟨h.size,0,none⟩)∧F 5=.pointer (some ⟨h.size+1,0,none⟩)∧∃(m:Nat) (o':Ow) (Xq:WA),m≤5∧F 78=.int .i64 m∧Kp aQ o h o' g∧ZJ o' g wb i nb { a with Zj:=some ra } { n with Zj:=some r }∧ZG o' g wb Z6 Xq (fl++(List.range m).flatMap pf) bad told∧ZM o' g h.size (.cells [Zp nb].toArray 124)∧ZM o' g (h.size+1) (.cells [Zp ra.rb].toArray 132))
   (fun F _=>5-(vi (F 78)).toNat) rfl ⟨f0,f4,f5,0,o,YA,by omega,rfl,ZF k1,N1,by simpa using W1,x4,x5⟩ ?_
  rintro F2 g2 ⟨f0,f4,f5,m,o2,WA2,hm,f78,K2,N2,W2,x4,x5⟩
  by_cases ZC:m<5
  ·have ZL:(m:Int)<5:=by omega
   have R2:YC o2 i g2 ra r:=N2.pt.Zj
   obtain⟨q0,q2,q3,q4,q5⟩:=R2.rr
   have P2:=Zy N2.ZE.2 N2.pt.store.len
   have l4:=Za x4.2
   have l5:=Za x5.2
   have DQ:=Za R2.ZE.2
   have JD:=Za N2.ZE.2
   have r4:hc g2 ⟨h.size,0,none⟩=some (Zp nb):=Zh x4.2
   have r5:hc g2 ⟨h.size+1,0,none⟩=some (Zp ra.rb):=Zh x5.2
   unfold Zp at r4 r5
   unfold X3 at q0
   have lk:=fun (K:Value→Hp→Prop)=>Yo (K:=K) (n:=(m:Int)) (c:=true) NB mA R2.prom.2
   have hpm:pf m=if Xc r.prom (m:Int)=none then [⟨0,n.me,m,r.b,TQ,[]⟩] else []:=by rw[hpf]
   rcases R2.TZ.Xc (m:Int) with⟨z1,z2⟩|⟨w,vs,z1,z2,iv⟩
   ·rw[if_pos z2]at hpm
    simp only[z1,Option.getD_none,Option.isSome_none,↓reduceIte]at lk
    simp -implicitDefEqProofs only[go_sem,↓reduceIte,f0,f4,f5,f78,ZL,r5,q2,lk]
    refine VS.z (g2.size) [8] (.p 0 (.q 1 (.p 2 (.q 3 (.p 4 (.p 5 (.q 6 (.p 7 (.w 8 .nil))))))))) mixed (by kernel_rfl) ?_
    simp -implicitDefEqProofs only[go_sem,↓reduceIte,f0,f4,f5,f78,r4,r5,q0,l4,l5,DQ]
    have rl:(fl++(List.range m).flatMap pf).length≤1000000000000:=by
     have:=UY pf 1 m ZmV
     rw[List.length_append];omega
    refine (Uy T g2 o2 wb nb Z6 n.me WA2 _ bad told (m:Int) ⟨0,0,0,r.b,TQ,[]⟩ (.slice none 0 0) K2.ZX W2 P2.me JD (Im.nil _ _ _ _) rl).use ?_
    rintro v' g3 ⟨o3,oH,k3,_,W3⟩
    simp -implicitDefEqProofs only[go_sem,↓reduceIte,f78]
    unfold Y9
    refine⟨⟨f0,f4,f5,m+1,o3,oH,ZC,rfl,K2.trans k3,N2.Zd k3 (by rintro t (rfl|rfl)<;>simp[Tg.of]),by rw[JY,hpm,←List.append_assoc];exact W3,x4.Zd k3,x5.Zd k3⟩,?_⟩
    simp only[vi,Zl,↓reduceIte,f78];omega
   ·rw[if_neg (by rw[z2];simp)]at hpm
    obtain⟨pw,cw,rfl⟩:=iv.isSlice
    simp only[z1,Option.getD_some,Option.isSome_some,↓reduceIte]at lk
    simp -implicitDefEqProofs only[go_sem,↓reduceIte,f0,f4,f5,f78,ZL,r5,q2,lk]
    unfold Y9
    refine⟨⟨f0,f4,f5,m+1,o2,WA2,ZC,rfl,K2,N2,by rw[JY,hpm,List.append_nil];exact W2,x4,x5⟩,?_⟩
    simp only[vi,Zl,↓reduceIte,f78];omega
  ·have YF:¬(m:Int)<5:=by omega
   obtain rfl:m=5:=by omega
   simp -implicitDefEqProofs only[go_sem,↓reduceIte,f78,YF]
   exact⟨o2,_,WA2,K2.mono (fun t q=>by rcases q with rfl|rfl<;>simp[Xw]),N2,W2⟩
 have lm:=fun (K:Value→Hp→Prop) (cs:Array Bool) (ty:TypeId)=>VG (T:=T) (K:=K) (ty:=ty) (cs:=cs) NB R1.prom.2
 rw[R1.TZ.length]at lm
 obtain⟨r1,gP⟩:=ZA (if r.begun=true then r else TW n r)
 have eP:Qw { n with Zj:=some r } r=⟨{ n with Zj:=some (JC n r1 n.queue) },LW n (JC n r1 n.queue),[]⟩:=by
  unfold Qw
  rw[if_neg c1,if_neg (by simpa using c2)]
  have e1:LX { n with Zj:=some r } r=JC n r1 n.queue:=by
   unfold LX
   rw[gP,fM (n:={ n with Zj:=some r }) (n':=n) rfl rfl,Ai (n:={ n with Zj:=some r }) (n':=n) rfl rfl]
  rw[e1,mV (n:={ n with Zj:=some r }) (n':=n) rfl rfl]
 rw[eP]
 simp -implicitDefEqProofs only[go_sem,↓reduceIte,f0,f4,f5,f35,c1,r4,r5,q2,lm]
 refine (My T g1 r.prom.length ML).use ?_
 rintro _ g' ⟨rfl,Er⟩
 rw[Er]
 cases cb:r.begun
 all_goals
 first
 | (rw[cb,if_neg (by simp)]at gP
    rw[cb]at q3
    simp -implicitDefEqProofs only[go_sem,↓reduceIte,c2,f0,f4,f5,r4,r5,q3]
    refine (mT T g1 o wb i nb a n ra r k1.ZX N1 hp hs hl).use ?_
    rintro v' g2 ⟨yE,BY,kx,N3⟩
    rw[←gP]at N3
    have kx':Kp (Xw i) o g1 o g2:=kx.mono fun t q=>.inr (.inr (.inr (OG q)))
    have W3:=W1.Zd kx (by intro t q;rw[OG q];simp)
    have y4:=x4.Zd kx
    have y5:=x5.Zd kx
    have K3:Kp (Xw i) o h o g2:=(ZF k1).trans kx')
 | (rw[cb,if_pos rfl]at gP
    rw[cb]at q3
    simp -implicitDefEqProofs only[go_sem,↓reduceIte,c2,f0,f4,f5,r4,r5,q3]
    obtain⟨g2,Qt⟩:=ZA (g1)
    obtain⟨yE,fB⟩:=ZA (ra)
    have BY:yE.rb=ra.rb:=by rw[fB]
    have N3:ZJ o g2 wb i nb { a with Zj:=some yE } { n with Zj:=some r1 }:=by rw[fB,gP,Qt];exact N1
    have W3:ZG o g2 wb Z6 YA fl bad told:=by rw[Qt];exact W1
    have y4:ZM o g2 h.size (.cells [Zp nb].toArray 124):=by rw[Qt];exact x4
    have y5:ZM o g2 (h.size+1) (.cells [Zp ra.rb].toArray 132):=by rw[Qt];exact x5
    have K3:Kp (Xw i) o h o g2:=by rw[Qt];exact ZF k1
    rw[←Qt])
 all_goals
  clear r4 r5 q0 q2 q3 q4 q5 l4 l5 DQ Jx P1 R1 lm
  have P3:=Zy N3.ZE.2 N3.pt.store.len
  obtain⟨pq,cq,sE,_⟩:=Yt.isSlice N3.pt.queue
  have sE:a.queue=.slice pq n.queue.length cq:=sE
  have P3q:hc g2 ⟨nb,52,none⟩=some (.slice pq n.queue.length cq):=by rw[←sE];exact P3.queue
  have r4:hc g2 ⟨h.size,0,none⟩=some (Zp nb):=Zh y4.2
  have r5:hc g2 ⟨h.size+1,0,none⟩=some (Zp ra.rb):=Zh y5.2
  unfold Zp at r4 r5
  simp -implicitDefEqProofs only[go_sem,↓reduceIte,f0,f4,f5,r4,r5,P3q]
  clear r4 r5 P3q P3
  refine VS.ZW (fun F g=>F 0=.pointer (some ⟨wb,0,none⟩)∧F 4=.pointer (some ⟨h.size,0,none⟩)∧F 5=.pointer (some ⟨h.size+1,0,none⟩)∧F 113=.slice pq n.queue.length cq∧F 114=.int .i64 n.queue.length∧∃(j:Nat) (ra':RA),j≤n.queue.length∧F 115=.int .i64 j∧Kp (Xw i) o h o g∧ra'.rb=ra.rb∧ZJ o g wb i nb { a with Zj:=some ra' } { n with Zj:=some (JC n r1 (n.queue.take j)) }∧ZG o g wb Z6 YA fl bad told∧ZM o g h.size (.cells [Zp nb].toArray 124)∧ZM o g (h.size+1) (.cells [Zp ra.rb].toArray 132))
   (fun F _=>n.queue.length-(vi (F 115)).toNat) rfl ⟨f0,f4,f5,rfl,rfl,0,yE,by omega,rfl,K3,BY,N3,W3,y4,y5⟩ ?_
  clear f0 f4 f5 y4 y5 K3 N3 W3 BY
  rintro F3 g3 ⟨f0,f4,f5,f113,f114,j,ra',hj,f115,K3,BY,N3,W3,y4,y5⟩
  obtain⟨rj,hrj⟩:=ZA (JC n r1 (n.queue.take j))
  rw[←hrj]at N3
  have r4:hc g3 ⟨h.size,0,none⟩=some (Zp nb):=Zh y4.2
  have r5:hc g3 ⟨h.size+1,0,none⟩=some (Zp ra.rb):=Zh y5.2
  unfold Zp at r4 r5
  have l4:=Za y4.2
  have l5:=Za y5.2
  by_cases ZC:j<n.queue.length
  ·have ZL:(j:Int)<n.queue.length:=by omega
   obtain⟨pz,cz,HT,Bq⟩:=Jw N3.pt.queue.ts
   obtain⟨bb,oo,rh,UP,PV⟩:=Bq (by intro e;have:n.queue=[]:=e;rw[this]at ZC;simp at ZC)
   have HT:a.queue=.slice pz n.queue.length cz:=HT
   rw[sE]at HT
   simp only[Value.slice.injEq]at HT
   obtain⟨rfl,_,rfl⟩:=HT
   subst rh
   have re:rd g3 ⟨bb,oo+j*5,none⟩ 5=some (n.queue[j]).C:=PV j ZC
   obtain⟨x,hx⟩:=ZA (n.queue[j])
   rw[←hx]at re
   have YH:JC n r1 (n.queue.take (j+1))=Vr n rj x:=by
    rw[Yd _ j ZC,←hx,hrj]
    unfold JC
    rw[List.foldl_append];rfl
   obtain⟨g4,PU⟩:=ZA (g3.push (.cells x.C.toArray 47):Hp)
   have k4:Kp Qh o g3 o g4:=by rw[PU];exact ZY K3.ZX _
   have x4':ZM o g4 g3.size (.cells x.C.toArray 47):=⟨K3.ZX _ (Nat.le_refl _),by rw[PU];exact Zb⟩
   have e4:=PU.symm
   have N4:=N3.still k4
   have R4:YC o i g4 ra' rj:=N4.pt.Zj
   have z4:=y4.Zd k4
   have z5:=y5.Zd k4
   have s4:hc g4 ⟨h.size,0,none⟩=some (Zp nb):=Zh z4.2
   have s5:hc g4 ⟨h.size+1,0,none⟩=some (Zp ra'.rb):=by rw[BY];exact Zh z5.2
   have sx:rd g4 ⟨g3.size,0,none⟩ 5=some x.C:=Zq x4'.2 rfl
   have cf:=sq T g4 o wb i nb { a with Zj:=some ra' } { n with Zj:=some rj } ra' rj x k4.ZX N4 R4 hl
   rw[show Uo { n with Zj:=some rj } rj x=Uo n rj x from by unfold Uo;rw[GG (n:={ n with Zj:=some rj }) (n':=n) rfl rfl],GG (n:={ n with Zj:=some rj }) (n':=n) rfl rfl]at cf
   unfold Wx Zp at cf
   unfold Zp at s4 s5
   simp -implicitDefEqProofs only[go_sem,↓reduceIte,f0,f4,f5,f113,f114,f115,ZL,re,e4,s4,s5,sx]
   refine cf.use ?_
   rintro _ g5 ⟨rfl,b5⟩
   have k5:=ZD k4.ZX b5
   have K5:Kp (Xw i) o h o g5:=(K3.trans (ZF k4)).trans (ZF k5)
   have N5:=N4.still k5
   have R5:YC o i g5 ra' rj:=N5.pt.Zj
   have W5:=(W3.still k4).still k5
   have u4:=z4.Zd k5
   have u5:=z5.Zd k5
   have ux:=x4'.Zd k5
   cases hf:free n rj x with
   | none=>
    have e1:Vr n rj x=rj:=by unfold Vr;rw[hf]
    simp -implicitDefEqProofs only[go_sem,↓reduceIte,Option.isSome_none,f115]
    unfold Y9
    refine⟨⟨f0,f4,f5,f113,f114,j+1,ra',ZC,rfl,K5,BY,by rw[YH,e1];exact N5,W5,u4,u5⟩,?_⟩
    simp only[vi,Zl,↓reduceIte,f115];omega
   | some sl=>
    have e1:Vr n rj x = { rj with prop:=ins rj.prop (sl:Int) x }:=by unfold Vr;rw[hf]
    have e2:Uo n rj x=sl:=by unfold Uo;rw[hf]
    rw[e2]
    simp -implicitDefEqProofs only[go_sem,↓reduceIte,Option.isSome_some]
    have t5:hc g5 ⟨h.size+1,0,none⟩=some (Zp ra'.rb):=by rw[BY];exact Zh u5.2
    unfold Zp at t5
    have tx:rd g5 ⟨g3.size,0,none⟩ 5=some x.C:=Zq ux.2 rfl
    obtain⟨_,_,_,t4,_⟩:=R5.rr
    have m5:=Za u5.2
    have mr:=Za R5.ZE.2
    have mx:=Za ux.2
    refine VS.z (g5.size) [6] (.q 0 (.p 1 (.p 2 (.q 3 (.p 4 (.q 5 (.w 6 .nil))))))) mixed (by kernel_rfl) ?_
    simp -implicitDefEqProofs only[go_sem,↓reduceIte,f5,t5,t4,tx,m5,mr,mx]
    rw[XJ Vs R5.prop.2]
    obtain⟨k6,R6⟩:=R5.bj K5.ZX (k:=(sl:Int)) (x:=x)
    have k6':Kp (XA i) o g5 o _:=k6.mono fun t q=>.inr (.inr (.inl q))
    have k6a:Kp (Xw i) o g5 o _:=k6.mono fun t q=>.inr (.inr (.inr (by rw[q];rfl)))
    simp -implicitDefEqProofs only[go_sem,↓reduceIte,f115]
    unfold Y9
    refine⟨⟨f0,f4,f5,f113,f114,j+1,ra',ZC,rfl,K5.trans k6a,BY,?_,W5.Zd k6 (by rintro t rfl;simp[Tg.of]),u4.Zd k6,u5.Zd k6⟩,?_⟩
    ·rw[YH,e1]
     exact⟨N5.ZE.Zd k6 (by intro e;cases e),ZV.Qa N5.pt k6' rfl rfl R6⟩
    ·simp only[vi,Zl,↓reduceIte,f115];omega
  ·have YF:¬(j:Int)<n.queue.length:=by omega
   obtain rfl:j=n.queue.length:=by omega
   rw[List.take_length]at hrj
   simp -implicitDefEqProofs only[go_sem,↓reduceIte,f114,f115,YF]
   rw[←hrj]
   obtain⟨r2,hr2⟩:=ZA (rj)
   rw[←hr2]at N3 ⊢
   have Zek:∀s x m,(PM n r2 s x m).length≤1:=fun s x m=>by unfold PM;split<;>simp
   have Zel:∀s,(WN n r2 s).length≤5:=fun s=>by
    unfold WN
    split
    ·split
     ·exact UY _ 1 5 (Zek s _)
     ·simp
    ·simp
   clear r4 r5 l4 l5
   refine VS.ZW (fun F g=>F 0=.pointer (some ⟨wb,0,none⟩)∧F 4=.pointer (some ⟨h.size,0,none⟩)∧F 5=.pointer (some ⟨h.size+1,0,none⟩)∧∃(s:Nat) (o':Ow) (Xq:WA),s≤40∧F 134=.int .i64 s∧Kp (Xw i) o h o' g∧ZJ o' g wb i nb { a with Zj:=some ra' } { n with Zj:=some r2 }∧ZG o' g wb Z6 Xq (fl++(List.range s).flatMap (WN n r2)) bad told∧ZM o' g h.size (.cells [Zp nb].toArray 124)∧ZM o' g (h.size+1) (.cells [Zp ra.rb].toArray 132))
    (fun F _=>40-(vi (F 134)).toNat) rfl ⟨f0,f4,f5,0,o,YA,by omega,rfl,K3,N3,by simpa using W3,y4,y5⟩ ?_
   clear f0 f4 f5 y4 y5 K3 N3 W3
   rintro F4 g4 ⟨f0,f4,f5,s,o4,bm,hs4,f134,K4,N4,W4,y4,y5⟩
   by_cases dD:s<40
   case neg=>
    have xw:¬(s:Int)<40:=by omega
    obtain rfl:s=40:=by omega
    simp -implicitDefEqProofs only[go_sem,↓reduceIte,f134,xw]
    exact⟨o4,_,bm,K4,N4,W4⟩
   have IF:(s:Int)<40:=by omega
   have R4:YC o4 i g4 ra' r2:=N4.pt.Zj
   obtain⟨_,_,_,t4,t5⟩:=R4.rr
   have P4:=Zy N4.ZE.2 N4.pt.store.len
   have r4:hc g4 ⟨h.size,0,none⟩=some (Zp nb):=Zh y4.2
   have r5:hc g4 ⟨h.size+1,0,none⟩=some (Zp ra'.rb):=by rw[BY];exact Zh y5.2
   unfold Zp at r4 r5
   have l4:=Za y4.2
   have l5:=Za y5.2
   have n4:¬h.size=g4.size:=by omega
   have n5:¬h.size+1=g4.size:=by omega
   have nnb:¬nb=g4.size:=by have:=Za N4.ZE.2;omega
   have I8:=fun (K:Value→Hp→Prop)=>Yo (K:=K) (n:=(s:Int)) (c:=true) Vs PN R4.prop.2
   rw[Xh]at I8
   have WS:=fun (K:Value→Hp→Prop) (z:Obj)=>Yo (h:=g4.push z) (K:=K) (n:=(s:Int)) (c:=true) Vs PN ((Zs (Za N4.pt.known.2)).trans N4.pt.known.2)
   simp only[Xh,show ({ n with Zj:=some r2 }:Nd).known=n.known from rfl]at WS
   have sF:∀x y:Obj,Kp Qh o4 g4 o4 ((g4.push x).push y):=fun x y=>(ZY K4.ZX _).push _
   have skip:∀(x y:Obj),WN n r2 s=[]→ZJ o4 ((g4.push x).push y) wb i nb { a with Zj:=some ra' } { n with Zj:=some r2 }∧ZG o4 ((g4.push x).push y) wb Z6 bm (fl++(List.range (s+1)).flatMap (WN n r2)) bad told∧ZM o4 ((g4.push x).push y) h.size (.cells [Zp nb].toArray 124)∧ZM o4 ((g4.push x).push y) (h.size+1) (.cells [Zp ra.rb].toArray 132):=fun x y hz=>
    ⟨N4.still (sF x y),by rw[JY,hz,List.append_nil];exact W4.still (sF x y),y4.Zd (sF x y),y5.Zd (sF x y)⟩
   cases c3:Xc r2.prop (s:Int) with
   | none=>
    have hz:WN n r2 s=[]:=by unfold WN;rw[c3]
    simp only[c3,Option.map_none,Option.getD_none,Option.isSome_none,↓reduceIte]at I8
    cases c4:Xc n.known (s:Int) with
    | none=>
     simp only[c4,Option.map_none,Option.getD_none,Option.isSome_none,↓reduceIte]at WS
     simp -implicitDefEqProofs only[go_sem,↓reduceIte,f0,f4,f5,f134,IF,r5,t4,r4,n4,n5,nnb,I8,WS,P4.known]
     unfold Y9
     refine⟨⟨f0,f4,f5,s+1,o4,bm,dD,rfl,K4.trans (ZF (sF _ _)),skip _ _ hz⟩,?_⟩
     simp only[vi,Zl,↓reduceIte,f134];omega
    | some y=>
     simp only[c4,Option.map_some,Option.getD_some,Option.isSome_some,↓reduceIte]at WS
     simp -implicitDefEqProofs only[go_sem,↓reduceIte,f0,f4,f5,f134,IF,r5,t4,r4,n4,n5,nnb,I8,WS,P4.known,Wx]
     unfold Y9
     refine⟨⟨f0,f4,f5,s+1,o4,bm,dD,rfl,K4.trans (ZF (sF _ _)),skip _ _ hz⟩,?_⟩
     simp only[vi,Zl,↓reduceIte,f134];omega
   | some x=>
    simp only[c3,Option.map_some,Option.getD_some,Option.isSome_some,↓reduceIte]at I8
    cases c4:Xc n.known (s:Int) with
    | some y=>
     have hz:WN n r2 s=[]:=by unfold WN;rw[c3];simp only;rw[if_neg (by rw[c4];simp)]
     simp only[c4,Option.map_some,Option.getD_some,Option.isSome_some,↓reduceIte]at WS
     simp -implicitDefEqProofs only[go_sem,↓reduceIte,f0,f4,f5,f134,IF,r5,t4,r4,n4,n5,nnb,I8,WS,P4.known,Wx]
     unfold Y9
     refine⟨⟨f0,f4,f5,s+1,o4,bm,dD,rfl,K4.trans (ZF (sF _ _)),skip _ _ hz⟩,?_⟩
     simp only[vi,Zl,↓reduceIte,f134];omega
    | none=>
     have hz:WN n r2 s=(List.range 5).flatMap (PM n r2 s x):=by unfold WN;rw[c3];simp only;rw[if_pos c4]
     simp only[c4,Option.map_none,Option.getD_none,Option.isSome_none,↓reduceIte]at WS
     simp -implicitDefEqProofs only[go_sem,↓reduceIte,f0,f4,f5,f134,IF,r5,t4,r4,n4,n5,nnb,I8,WS,P4.known,Wx]
     obtain⟨fs,hfs⟩:=ZA (fl++(List.range s).flatMap (WN n r2))
     have Zyr:fs.length≤900000001000:=by
      have:=UY (WN n r2) 5 s Zel
      rw[hfs,List.length_append];omega
     have hnx:fl++(List.range (s+1)).flatMap (WN n r2)=fs++(List.range 5).flatMap (PM n r2 s x):=by rw[JY,hz,←List.append_assoc,←hfs]
     rw[←hfs]at W4
     have kz:=sF (.cells x.C.toArray 47) (.cells oy.C.toArray 47)
     have xb:ZM o4 ((g4.push (.cells x.C.toArray 47)).push (.cells oy.C.toArray 47)) g4.size (.cells x.C.toArray 47):=⟨K4.ZX _ (Nat.le_refl _),fD _ _ _⟩
     refine VS.ZW (fun F g=>F 0=.pointer (some ⟨wb,0,none⟩)∧F 4=.pointer (some ⟨h.size,0,none⟩)∧F 5=.pointer (some ⟨h.size+1,0,none⟩)∧F 134=.int .i64 s∧F 18=.int .i64 s∧F 19=.pointer (some ⟨g4.size,0,none⟩)∧∃(m:Nat) (o':Ow) (Xq:WA),m≤5∧F 160=.int .i64 m∧Kp (Xw i) o h o' g∧ZJ o' g wb i nb { a with Zj:=some ra' } { n with Zj:=some r2 }∧ZG o' g wb Z6 Xq (fs++(List.range m).flatMap (PM n r2 s x)) bad told∧ZM o' g h.size (.cells [Zp nb].toArray 124)∧ZM o' g (h.size+1) (.cells [Zp ra.rb].toArray 132)∧ZM o' g g4.size (.cells x.C.toArray 47))
      (fun F _=>5-(vi (F 160)).toNat) rfl ⟨f0,f4,f5,f134,rfl,rfl,0,o4,bm,by omega,rfl,K4.trans (ZF kz),N4.still kz,by simpa using W4.still kz,y4.Zd kz,y5.Zd kz,xb⟩ ?_
     clear f0 f4 f5 f134 y4 y5 r4 r5 t4 t5 P4 I8 WS skip sF kz xb l4 l5 n4 n5 nnb R4
     rintro F5 g5 ⟨f0,f4,f5,f134,f18,f19,m,o5,WA5,hm,f160,K5,N5,W5,y4,y5,xb⟩
     by_cases hU:m<5
     case neg=>
      have hgm:¬(m:Int)<5:=by omega
      obtain rfl:m=5:=by omega
      simp -implicitDefEqProofs only[go_sem,↓reduceIte,f160,hgm,f134]
      unfold Y9
      refine⟨⟨f0,f4,f5,s+1,o5,WA5,dD,rfl,K5,N5,by rw[hnx];exact W5,y4,y5⟩,?_⟩
      simp only[vi,Zl,↓reduceIte,f134];omega
     have Zen:(m:Int)<5:=by omega
     have R5:YC o5 i g5 ra' r2:=N5.pt.Zj
     obtain⟨v0,_,_,_,v5⟩:=R5.rr
     unfold X3 at v0
     have r5:hc g5 ⟨h.size+1,0,none⟩=some (Zp ra'.rb):=by rw[BY];exact Zh y5.2
     unfold Zp at r5
     have lkv:=fun (K:Value→Hp→Prop)=>Yo (K:=K) (n:=(s:Int)) (c:=false) LZ IZ R5.Jm.2
     rw[Xh]at lkv
     simp only[Bool.false_eq_true,if_false]at lkv
     obtain⟨g6,SG⟩:=ZA (g5.push (.cells [].toArray 219):Hp)
     have e6:=SG.symm
     have k6:Kp Qh o5 g5 o5 g6:=by rw[SG];exact ZY K5.ZX _
     have w6:wr g6 ⟨g5.size,0,none⟩ []=some g6:=by
      have hx:g6[g5.size]? = some (.cells [].toArray 219):=by rw[SG];exact Zb
      rw[ZR hx 0 [],if_pos ⟨by simp,rfl⟩]
      congr 1
      exact Px hx
     have N6:=N5.still k6
     have W6:=W5.still k6
     have z4:=y4.Zd k6
     have z5:=y5.Zd k6
     have zx:=xb.Zd k6
     have K6:Kp (Xw i) o h o5 g6:=K5.trans (ZF k6)
     have P6:=Zy N6.ZE.2 N6.pt.store.len
     have R6:YC o5 i g6 ra' r2:=N6.pt.Zj
     obtain⟨u0,_,_,_,_⟩:=R6.rr
     unfold X3 at u0
     have s4:hc g6 ⟨h.size,0,none⟩=some (Zp nb):=Zh z4.2
     have s5:hc g6 ⟨h.size+1,0,none⟩=some (Zp ra'.rb):=by rw[BY];exact Zh z5.2
     unfold Zp at s4 s5
     have sx:rd g6 ⟨g4.size,0,none⟩ 5=some [.int .i64 x.k,.int .i64 x.c,.int .i64 x.s,.int .i64 x.n,.int .i64 x.v]:=Zq zx.2 rfl
     have m4:=Za z4.2
     have m5:=Za z5.2
     have mx:=Za zx.2
     have mr:=Za R6.ZE.2
     have mX:=Za N6.ZE.2
     obtain⟨S,hS⟩:=ZA ((Xc r2.Jm (s:Int)).getD [])
     have Ep:PM n r2 s x m=if Xc S (m:Int)=none then [⟨2,n.me,m,JA,Tj s r2.b x,[]⟩] else []:=by unfold PM;rw[hS]
     obtain⟨mv,hmv,lki⟩:∃mv,(Option.map oB (Xc ra'.sv (s:Int))).getD (.map none)=mv∧∀K:Value→Hp→Prop,O1 Tryz.prog 218 mv (.int .i64 (m:Int)) true K g5=K (.tuple #[.agg #[],.bool (Xc S (m:Int)).isSome]) g5:=by
      rcases R5.VW.Xc (s:Int) with⟨z1,z2⟩|⟨sb,S',z1,z2,uF⟩
      ·refine⟨.map none,by rw[z1];rfl,fun K=>?_⟩
       rw[HQ IY uT,hS,z2];rfl
      ·refine⟨.map (some sb),by rw[z1];rfl,fun K=>?_⟩
       have:=Yo (K:=K) (n:=(m:Int)) (c:=true) IY uT uF.2
       have ye:S=S':=by rw[hS,z2];rfl
       rw[this]
       unfold Ma
       rw[Xh,←ye]
       cases Xc S (m:Int)<;>rfl
     rw[hmv]at lkv
     cases cS:Xc S (m:Int) with
     | some uu=>
      rw[if_neg (by rw[cS];simp)]at Ep
      simp only[cS,Option.isSome_some]at lki
      simp -implicitDefEqProofs only[go_sem,↓reduceIte,f0,f4,f5,f18,f19,f160,Zen,r5,v5,lkv,lki,e6,w6]
      unfold Y9
      refine⟨⟨f0,f4,f5,f134,f18,f19,m+1,o5,WA5,hU,rfl,K6,N6,by rw[JY,Ep,List.append_nil];exact W6,z4,z5,zx⟩,?_⟩
      simp only[vi,Zl,↓reduceIte,f160];omega
     | none=>
      rw[if_pos cS]at Ep
      simp only[cS,Option.isSome_none]at lki
      simp -implicitDefEqProofs only[go_sem,↓reduceIte,f0,f4,f5,f18,f19,f160,Zen,r5,v5,lkv,lki,e6,w6]
      refine VS.z (g6.size) [11] (.p 0 (.q 1 (.p 2 (.p 3 (.q 4 (.p 5 (.p 6 (.q 7 (.q 8 (.p 9 (.p 10 (.w 11 .nil)))))))))))) mixed (by kernel_rfl) ?_
      simp -implicitDefEqProofs only[go_sem,↓reduceIte,f0,f4,f5,f18,f19,f160,s4,s5,u0,sx,m4,m5,mx,mr]
      have rl:(fs++(List.range m).flatMap (PM n r2 s x)).length≤1000000000000:=by
       have:=UY (PM n r2 s x) 1 m (Zek s x)
       rw[List.length_append];omega
      refine (Uy T g6 o5 wb nb Z6 n.me WA5 _ bad told (m:Int) ⟨2,0,0,JA,Tj s r2.b x,[]⟩ (.slice none 0 0) K6.ZX W6 P6.me mX (Im.nil _ _ _ _) rl).use ?_
      rintro v' g7 ⟨o7,WA7,k7,_,W7⟩
      simp -implicitDefEqProofs only[go_sem,↓reduceIte,f160]
      unfold Y9
      refine⟨⟨f0,f4,f5,f134,f18,f19,m+1,o7,WA7,hU,rfl,K6.trans (k7.mono fun t q=>by rcases q with rfl|rfl<;>simp[Xw]),N6.Zd k7 (by rintro t (rfl|rfl)<;>simp[Tg.of]),by rw[JY,Ep,←List.append_assoc];exact W7,z4.Zd k7,z5.Zd k7,zx.Zd k7⟩,?_⟩
      simp only[vi,Zl,↓reduceIte,f160];omega
theorem Q7.fn {o:Ow} {h:Hp} {wb i nb:Nat} {ra:Option RA} {v:Value} {p:Option fp} (s:Q7 o h wb i nb ra v p):(p=none∧v=.nilFunc)∨(p.isSome=true∧∃f l,v=.func (.func f) #[] l):=by
 match p,s with
 | none,s=>exact .inl ⟨rfl,s⟩
 | some (.Gy _ _ _ _),⟨_,_,_,_,e,_⟩=>exact .inr ⟨rfl,_,_,e⟩
 | some (.Gz _ _ _),⟨_,_,_,_,e,_⟩=>exact .inr ⟨rfl,_,_,e⟩
 | some (.own _ _ _),⟨_,_,_,_,_,_,e,_⟩=>exact .inr ⟨rfl,_,_,e⟩
theorem fN (n:Nd) (r:Qg):(Qw n r).n.Xj=n.Xj∧(Qw n r).n.log=n.log∧(Qw n r).n.me=n.me∧(Qw n r).n.heard=n.heard∧(Qw n r).n.own=n.own∧(Qw n r).ts=[]:=by
 unfold Qw
 split
 ·split<;>exact⟨rfl,rfl,rfl,rfl,rfl,rfl⟩
 ·split<;>exact⟨rfl,rfl,rfl,rfl,rfl,rfl⟩
theorem Aj (n:Nd) (r:Qg):(LV n r).length≤5:=by
 have:=UY (fun (m:Nat)=>if Xc r.prom (m:Int)=none then [(⟨0,n.me,m,r.b,TQ,[]⟩:Y2)] else []) 1 5 (fun m=>by split<;>simp)
 exact this
theorem fO (n:Nd) (r:Qg):(LW n r).length≤200:=by
 have h1:∀s x m,(PM n r s x m).length≤1:=fun s x m=>by unfold PM;split<;>simp
 have h2:∀s,(WN n r s).length≤5:=fun s=>by
  unfold WN
  split
  ·split
   ·exact UY _ 1 5 (h1 s _)
   ·simp
  ·simp
 exact UY _ 5 40 h2
theorem sH (n:Nd) (r:Qg):(Qw n r).ls.length≤200:=by
 unfold Qw
 split
 ·split<;>simp
 ·split
  ·have:=Aj n r;simp only;omega
  ·exact fO n _
theorem Ak (n:Nd):(still n).Xj=n.Xj∧(still n).log=n.log∧(still n).me=n.me∧(still n).heard=n.heard∧(still n).own=n.own∧(still n).queue=n.queue∧(still n).ZS=n.ZS∧(still n).data=n.data∧(still n).Xe=n.Xe:=by
 unfold still
 split
 ·split<;>exact⟨rfl,rfl,rfl,rfl,rfl,rfl,rfl,rfl,rfl⟩
 ·exact⟨rfl,rfl,rfl,rfl,rfl,rfl,rfl,rfl,rfl⟩
theorem Dh (n:Nd):(still n).Zj=none∨(still n).Zj=n.Zj:=by
 unfold still
 split
 ·split
  ·exact .inl rfl
  ·exact .inr rfl
 ·exact .inr rfl
theorem Rv (n:Nd):(Yp n).n.Xj=n.Xj∧(Yp n).n.log=n.log∧(Yp n).n.me=n.me∧(Yp n).n.heard=n.heard∧(Yp n).n.own=n.own∧(Yp n).ts=[]:=by
 unfold Yp
 split
 ·exact fN _ _
 ·split<;>exact⟨rfl,rfl,rfl,rfl,rfl,rfl⟩
theorem Di (n:Nd):(Yp n).ls.length≤200+n.queue.length:=by
 unfold Yp
 split
 ·next r _=>have:=sH n r;omega
 ·split
  ·simp[TX]
  ·simp
set_option maxHeartbeats 4000000 in
theorem sI (T:World) (h:Hp) (o:Ow) (wb i nb:Nat) (Z6:Nat→Nat) (a:NA) (n:Nd) (YA:WA) (fl:List Y2) (bad:Nat→Int) (told:List TV) (d:Q8 o h)
  (N:ZJ o h wb i nb a n) (W:ZG o h wb Z6 YA fl bad told) (tb:DO o h) (hp0:n.ZS=none) (Ym:fl.length≤800000000000) (lW:n.own.l.length≤1000000) (lu:n.data.length≤1000000)
  (hr:∀r,n.Zj=some r→(∀x∈r.prom,x.2.length≤1000000)∧(∀x∈r.prom,∀v∈x.2,v.slot≤1000000)∧r.prom.length≤1000000000000) (hl:n.log.length≤100000000000) (hq:n.queue.length≤10000000000) (ht:0≤n.Xj∧n.Xj<5) :
  Zc Tryz.prog T 96 #[Zp wb,Zp nb] h fun v' h'=>∃o' a' Xq,Kp (Xw i) o h o' h'∧ZJ o' h' wb i nb a' (Q6 n).n∧ZG o' h' wb Z6 Xq (fl++(Q6 n).ls) bad told:=by
 refine Zc.Mj (args:=#[_,_]) Tryz.func96 rfl rfl rfl ?_
 obtain⟨uZ,yU,sme,yV,fP,GH,mY,vd,ZmZ⟩:=Ak n
 refine VS.seq (VS.mono (N:=fun F' g'=>F' 0=.pointer (some ⟨wb,0,none⟩)∧F' 1=.pointer (some ⟨nb,0,none⟩)∧∃a1,Kp (Xw i) o h o g'∧ZJ o g' wb i nb a1 (still n)∧ZG o g' wb Z6 YA fl bad told) ?_ ?_ (fun _ _ _ h=>h) (fun _ _ h=>h))
 ·refine X1 _ _ _ _ _ _ rfl ?_
  unfold Zp
  have P:=Zy N.ZE.2 N.pt.store.len
  have WX:=Za N.ZE.2
  have Pr:=P.Zj
  have Po:=P.EX
  cases OK:a.Zj with
  | none=>
   rw[OK]at Pr
   have hn:n.Zj=none:=by
    have:=N.pt.Zj
    rw[OK]at this
    cases hx:n.Zj with
    | none=>rfl
    | some r=>rw[hx]at this;exact this.elim
   have es:still n=n:=by unfold still;rw[hn]
   rw[es]
   unfold Rs at Pr
   simp -implicitDefEqProofs only[go_sem,↓reduceIte,Pr]
   refine VS.mono (N:=fun F' g'=>Zg h.size h g'∧F' 0=.pointer (some ⟨wb,0,none⟩)∧F' 1=.pointer (some ⟨nb,0,none⟩)∧F' 26=.bool false) ?_ ?_ (fun _ _ _ h=>h) (fun _ _ h=>h)
   ·refine VS.z (h.size) [12] (.p 0 (.p 1 (.p 2 (.p 3 (.p 4 (.p 5 (.p 6 (.q 7 (.p 8 (.p 9 (.p 10 (.q 11 (.w 12 (.p 13 .nil)))))))))))))) mixed (by kernel_rfl) ?_
    simp -implicitDefEqProofs only[go_sem,↓reduceIte,Pr,Po,WX]
    try exact Zg.refl _ _
   rintro F1 g1 ⟨b1,f0,f1,f26⟩
   have kb:=ZD d b1
   simp -implicitDefEqProofs only[go_sem,↓reduceIte,f26]
   exact⟨f0,f1,a,ZF kb,N.still kb,W.still kb⟩
  | some ra=>
   obtain⟨r,hn⟩:∃r,n.Zj=some r:=by
    have:=N.pt.Zj
    rw[OK]at this
    cases hx:n.Zj with
    | none=>rw[hx]at this;exact this.elim
    | some r=>exact⟨r,rfl⟩
   rw[OK]at Pr
   unfold Rs Zp at Pr
   have R:YC o i h ra r:=by have:=N.pt.Zj;rw[OK,hn]at this;exact this
   obtain⟨q0,_,_,_,_⟩:=R.rr
   have DQ:=Za R.ZE.2
   simp -implicitDefEqProofs only[go_sem,↓reduceIte,Pr]
   refine VS.mono (N:=fun F' g'=>Zg h.size h g'∧F' 0=.pointer (some ⟨wb,0,none⟩)∧F' 1=.pointer (some ⟨nb,0,none⟩)∧F' 26=.bool (decide (below r.b n.own.p))) ?_ ?_ (fun _ _ _ h=>h) (fun _ _ h=>h)
   ·refine VS.z (h.size) [12] (.p 0 (.p 1 (.p 2 (.p 3 (.p 4 (.p 5 (.p 6 (.q 7 (.p 8 (.p 9 (.p 10 (.q 11 (.w 12 (.p 13 .nil)))))))))))))) mixed (by kernel_rfl) ?_
    simp -implicitDefEqProofs only[go_sem,↓reduceIte,Pr,Po,q0,WX,DQ]
    refine (PT T h n.own.p r.b).use ?_
    rintro _ g ⟨rfl,b⟩
    simp -implicitDefEqProofs only[go_sem,↓reduceIte,b]
   rintro F1 g1 ⟨b1,f0,f1,f26⟩
   have kb:=ZD d b1
   have N1:=N.still kb
   have W1:=W.still kb
   by_cases c:below r.b n.own.p
   ·have es:still n = { n with Zj:=none }:=by unfold still;rw[hn];simp only;rw[if_pos c]
    rw[es]
    have hpn:a.ZS=.nilFunc:=by
     have:=N.pt.ZS
     rw[hp0]at this
     exact this
    have pn:Q7 o g1 wb i nb none a.ZS n.ZS:=by rw[hp0];exact hpn
    obtain⟨g2,w2,N2,k2⟩:=ZV.write (a:={ a with Zj:=none }) (n:={ n with Zj:=none }) { N1.pt with Zj:=trivial,ZS:=pn } kb.ZX N1.ZE ((YK N1.ZE.2 N1.pt.store.len).Zj none)
    have Jx:=Za N1.ZE.2
    unfold Rs at w2
    simp -implicitDefEqProofs only[go_sem,↓reduceIte,f0,f1,f26,c,w2,Jx]
    exact⟨_,(ZF kb).trans (k2.mono fun t q=>.inr (.inr (.inr (by rw[q];rfl)))),N2,W1.Zd k2 (by rintro t rfl;simp[Tg.of])⟩
   ·have es:still n=n:=by unfold still;rw[hn];simp only;rw[if_neg c]
    rw[es]
    simp -implicitDefEqProofs only[go_sem,↓reduceIte,f26,c]
    exact⟨f0,f1,a,ZF kb,N1,W1⟩
 rintro F1 g1 ⟨f0,f1,a1,K1,N1,W1⟩
 obtain⟨s,hs⟩:=ZA (still n)
 rw[←hs]at N1 uZ yU sme yV fP GH mY vd ZmZ
 have srg:s.Zj=none∨s.Zj=n.Zj:=by rw[hs];exact Dh n
 obtain⟨ve,Zep,eme,yW,Zm0,ets⟩:=Rv s
 have els:=Di s
 unfold Q6
 rw[←hs]
 clear hs
 refine VS.seq (VS.mono (N:=fun F' g'=>F' 0=.pointer (some ⟨wb,0,none⟩)∧F' 1=.pointer (some ⟨nb,0,none⟩)∧∃kb a1,F' 5=.pointer (some ⟨kb,0,none⟩)∧ZM o g' kb (.cells [.int .i64 n.own.p.r,.int .i64 n.own.p.n].toArray 128)∧Kp (Xw i) o h o g'∧ZJ o g' wb i nb a1 s∧ZG o g' wb Z6 YA fl bad told) ?_ ?_ (fun _ _ _ h=>h) (fun _ _ h=>h))
 ·refine X1 _ _ _ _ _ _ rfl ?_
  have P1:=Zy N1.ZE.2 N1.pt.store.len
  have P1o:=P1.EX
  rw[fP]at P1o
  have WX:=Za N1.ZE.2
  obtain⟨g2,Qt⟩:=ZA (g1.push (.cells [.int .i64 n.own.p.r,.int .i64 n.own.p.n].toArray 128):Hp)
  have k2:Kp Qh o g1 o g2:=by rw[Qt];exact ZY K1.ZX _
  have x5:ZM o g2 g1.size (.cells [.int .i64 n.own.p.r,.int .i64 n.own.p.n].toArray 128):=⟨K1.ZX _ (Nat.le_refl _),by rw[Qt];exact Zb⟩
  have e2:=Qt.symm
  simp -implicitDefEqProofs only[go_sem,↓reduceIte,f0,f1,P1o,WX,e2]
  exact⟨_,a1,rfl,x5,K1.trans (ZF k2),N1.still k2,W1.still k2⟩
 clear f0 f1 K1 N1 W1
 rintro F2 g2 ⟨f0,f1,kb,a2,f5,x5,K2,N2,W2⟩
 have CT:=tb.Zd K2
 refine VS.seq (VS.mono (N:=fun F' g'=>F' 0=.pointer (some ⟨wb,0,none⟩)∧F' 1=.pointer (some ⟨nb,0,none⟩)∧(Yp s).n.ZS=none∧∃o' a1 Xq,Kp (Xw i) o h o' g'∧ZJ o' g' wb i nb a1 (Yp s).n∧ZG o' g' wb Z6 Xq (fl++(Yp s).ls) bad told) ?_ ?_ (fun _ _ _ h=>h) (fun _ _ h=>h))
 ·refine X1 _ _ _ _ _ _ rfl ?_
  have P2:=Zy N2.ZE.2 N2.pt.store.len
  have yX:=P2.Zj
  have fQ:=P2.me
  have WX:=Za N2.ZE.2
  have l5:=Za x5.2
  cases OK:a2.Zj with
  | some ra=>
   obtain⟨r,hn⟩:∃r,s.Zj=some r:=by
    have:=N2.pt.Zj
    rw[OK]at this
    cases hx:s.Zj with
    | none=>rw[hx]at this;exact this.elim
    | some r=>exact⟨r,rfl⟩
   have hnr:n.Zj=some r:=by
    rcases srg with e|e
    ·rw[e]at hn;cases hn
    ·rw[←e,hn]
   have e1:Yp s=Qw s r:=by unfold Yp;rw[hn]
   have ea:a2 = { a2 with Zj:=some ra }:=by rw[←OK]
   have es:s = { s with Zj:=some r }:=by rw[←hn]
   obtain⟨gP,hr2,hr3⟩:=hr r hnr
   rw[OK]at yX
   unfold Rs Zp at yX
   have cr:=sz T g2 o wb i nb Z6 a2 s ra r YA fl bad told K2.ZX (by rw[←ea,←es];exact N2) W2 CT (by omega) (by rw[fP];exact lW) (by rw[vd];exact lu) gP hr2 hr3 (by rw[yU];omega) (by rw[GH];omega)
   rw[←es,←e1]at cr
   unfold Zp at cr
   simp -implicitDefEqProofs only[go_sem,↓reduceIte,f0,f1,yX]
   refine cr.use ?_
   rintro v' g3 ⟨o3,a3,oH,k3,N3,W3⟩
   have P3:=(Zy N3.ZE.2 N3.pt.store.len).ZS
   rcases N3.pt.ZS.fn with⟨c1,c2⟩|⟨c1,f,l,c2⟩
   ·rw[c2]at P3
    simp -implicitDefEqProofs only[go_sem,↓reduceIte,f0,f1,P3]
    exact⟨c1,o3,a3,oH,K2.trans k3,N3,W3⟩
   ·rw[c2]at P3
    simp -implicitDefEqProofs only[go_sem,↓reduceIte,f0,f1,P3]
    rw[if_pos c1]
    exact⟨o3,a3,oH,K2.trans k3,N3,W3⟩
  | none=>
   have hn:s.Zj=none:=by
    have:=N2.pt.Zj
    rw[OK]at this
    cases hx:s.Zj with
    | none=>rfl
    | some r=>rw[hx]at this;exact this.elim
   rw[OK]at yX
   unfold Rs at yX
   have r5a:hc g2 ⟨kb,0,none⟩=some (.int .i64 n.own.p.r):=Zh x5.2
   have r5b:hc g2 ⟨kb,1,none⟩=some (.int .i64 n.own.p.n):=Zh x5.2
   rw[sme]at fQ
   by_cases c:0<n.own.p.r∧n.own.p.n≠n.me
   case neg=>
    have e1:Yp s=⟨s,[],[]⟩:=by unfold Yp;rw[hn];simp only;rw[fP,sme,if_neg c]
    rw[e1]
    have Ob:s.ZS=none:=by rw[mY];exact hp0
    simp -implicitDefEqProofs only[go_sem,↓reduceIte,f0,f1,yX]
    refine VS.mono (N:=fun F' g'=>Zg g2.size g2 g'∧F' 0=.pointer (some ⟨wb,0,none⟩)∧F' 1=.pointer (some ⟨nb,0,none⟩)∧F' 53=.bool false) ?_ ?_ (fun _ _ _ h=>h) (fun _ _ h=>h)
    ·refine VS.z (g2.size) [] (.p 0 (.q 1 (.p 2 (.p 3 (.p 4 (.q 5 (.p 6 (.p 7 (.p 8 (.q 9 (.p 10 (.p 11 (.p 12 .nil))))))))))))) mixed (by kernel_rfl) ?_
     by_cases c1:0<n.own.p.r
     ·have c2:n.own.p.n=n.me:=by
       rcases Decidable.em (n.own.p.n=n.me) with e|e
       ·exact e
       ·exact (c ⟨c1,e⟩).elim
      simp -implicitDefEqProofs only[go_sem,↓reduceIte,f0,f1,f5,r5a,r5b,fQ,l5,WX,c1,c2]
      try exact Zg.refl _ _
     ·simp -implicitDefEqProofs only[go_sem,↓reduceIte,f0,f1,f5,r5a,r5b,fQ,l5,WX,c1]
      try exact Zg.refl _ _
    rintro F3 g3 ⟨b3,f0,f1,f53⟩
    have U7:=ZD K2.ZX b3
    simp -implicitDefEqProofs only[go_sem,↓reduceIte,f53]
    exact⟨f0,f1,Ob,o,a2,YA,K2.trans (ZF U7),N2.still U7,by rw[List.append_nil];exact W2.still U7⟩
   have e1:Yp s=⟨s,TX s,[]⟩:=by unfold Yp;rw[hn];simp only;rw[fP,sme,if_pos c]
   rw[e1]
   have Ob:s.ZS=none:=by rw[mY];exact hp0
   obtain⟨c1,c2⟩:=c
   simp -implicitDefEqProofs only[go_sem,↓reduceIte,f0,f1,yX]
   refine VS.mono (N:=fun F' g'=>Zg g2.size g2 g'∧F' 0=.pointer (some ⟨wb,0,none⟩)∧F' 1=.pointer (some ⟨nb,0,none⟩)∧F' 5=.pointer (some ⟨kb,0,none⟩)∧F' 53=.bool true) ?_ ?_ (fun _ _ _ h=>h) (fun _ _ h=>h)
   ·refine VS.z (g2.size) [] (.p 0 (.q 1 (.p 2 (.p 3 (.p 4 (.q 5 (.p 6 (.p 7 (.p 8 (.q 9 (.p 10 (.p 11 (.p 12 .nil))))))))))))) mixed (by kernel_rfl) ?_
    simp -implicitDefEqProofs only[go_sem,↓reduceIte,f0,f1,f5,r5a,r5b,fQ,l5,WX,c1,c2]
    try exact Zg.refl _ _
   clear f0 f1 f5
   rintro F3 g3 ⟨b3,f0,f1,f5,f53⟩
   have U7:=ZD K2.ZX b3
   have N3:=N2.still U7
   have W3:=W2.still U7
   have K3:=K2.trans (ZF (S:=Xw i) U7)
   have y5:=x5.Zd U7
   obtain⟨pq,cq,sE,_⟩:=Yt.isSlice N3.pt.queue
   have sE:a2.queue=.slice pq s.queue.length cq:=sE
   have P3q:=(Zy N3.ZE.2 N3.pt.store.len).queue
   rw[sE]at P3q
   simp -implicitDefEqProofs only[go_sem,↓reduceIte,f0,f1,f53,P3q]
   have hql:s.queue.length≤10000000000:=by rw[GH];exact hq
   refine VS.ZW (fun F g=>F 0=.pointer (some ⟨wb,0,none⟩)∧F 1=.pointer (some ⟨nb,0,none⟩)∧F 5=.pointer (some ⟨kb,0,none⟩)∧F 69=.slice pq s.queue.length cq∧F 70=.int .i64 s.queue.length∧∃(j:Nat) (o':Ow) (Xq:WA),j≤s.queue.length∧F 71=.int .i64 j∧Kp (Xw i) o h o' g∧ZJ o' g wb i nb a2 s∧ZG o' g wb Z6 Xq (fl++(TX s).take j) bad told∧ZM o' g kb (.cells [.int .i64 n.own.p.r,.int .i64 n.own.p.n].toArray 128))
    (fun F _=>s.queue.length-(vi (F 71)).toNat) rfl ⟨f0,f1,f5,rfl,rfl,0,o,YA,by omega,rfl,K3,N3,by simpa using W3,y5⟩ ?_
   clear f0 f1 f5 f53 P3q N3 W3 K3 y5 U7 b3 x5 K2 N2 W2
   rintro F4 g4 ⟨f0,f1,f5,f69,f70,j,o4,bm,hj,f71,K4,N4,W4,y5⟩
   have qW:(TX s).length=s.queue.length:=by unfold TX;simp
   by_cases ZC:j<s.queue.length
   ·have ZL:(j:Int)<s.queue.length:=by omega
    obtain⟨pz,cz,HT,Bq⟩:=Jw N4.pt.queue.ts
    obtain⟨bb,oo,rh,UP,PV⟩:=Bq (by intro e;have:s.queue=[]:=e;rw[this]at ZC;simp at ZC)
    have HT:a2.queue=.slice pz s.queue.length cz:=HT
    rw[sE]at HT
    simp only[Value.slice.injEq]at HT
    obtain⟨rfl,_,rfl⟩:=HT
    subst rh
    have re:rd g4 ⟨bb,oo+j*5,none⟩ 5=some (s.queue[j]).C:=PV j ZC
    obtain⟨x,hx⟩:=ZA (s.queue[j])
    rw[←hx]at re
    have YH:(TX s).take (j+1)=(TX s).take j++[⟨4,s.me,n.own.p.n,JA,Tj 0 JA x,[]⟩]:=by
     rw[Yd _ j (by rw[qW];exact ZC)]
     congr 2
     unfold TX
     rw[List.getElem_map,←hx,fP]
    obtain⟨g5,mZ⟩:=ZA (g4.push (.cells x.C.toArray 47):Hp)
    have k5:Kp Qh o4 g4 o4 g5:=by rw[mZ];exact ZY K4.ZX _
    have x7:ZM o4 g5 g4.size (.cells x.C.toArray 47):=⟨K4.ZX _ (Nat.le_refl _),by rw[mZ];exact Zb⟩
    have e5:=mZ.symm
    have N5:=N4.still k5
    have W5:=W4.still k5
    have z5:=y5.Zd k5
    have s5:hc g5 ⟨kb,1,none⟩=some (.int .i64 n.own.p.n):=Zh z5.2
    have sx:rd g5 ⟨g4.size,0,none⟩ 5=some [.int .i64 x.k,.int .i64 x.c,.int .i64 x.s,.int .i64 x.n,.int .i64 x.v]:=Zq x7.2 rfl
    have re:rd g4 ⟨bb,oo+j*5,none⟩ 5=some [.int .i64 x.k,.int .i64 x.c,.int .i64 x.s,.int .i64 x.n,.int .i64 x.v]:=re
    have e5:g4.push (.cells [.int .i64 x.k,.int .i64 x.c,.int .i64 x.s,.int .i64 x.n,.int .i64 x.v].toArray 47)=g5:=e5
    have P5:=Zy N5.ZE.2 N5.pt.store.len
    have Ru:=Za N5.ZE.2
    simp -implicitDefEqProofs only[go_sem,↓reduceIte,f0,f1,f5,f69,f70,f71,ZL,re,e5,s5,sx]
    have rl:(fl++(TX s).take j).length≤1000000000000:=by
     rw[List.length_append,List.length_take];omega
    refine (Uy T g5 o4 wb nb Z6 s.me bm _ bad told n.own.p.n ⟨4,0,0,JA,Tj 0 JA x,[]⟩ (.slice none 0 0) k5.ZX W5 P5.me Ru (Im.nil _ _ _ _) rl).use ?_
    rintro v' g6 ⟨o6,WA6,k6,_,W6⟩
    simp -implicitDefEqProofs only[go_sem,↓reduceIte,f71]
    unfold Y9
    refine⟨⟨f0,f1,f5,f69,f70,j+1,o6,WA6,ZC,rfl,(K4.trans (ZF k5)).trans (k6.mono fun t q=>by rcases q with rfl|rfl<;>simp[Xw]),N5.Zd k6 (by rintro t (rfl|rfl)<;>simp[Tg.of]),by rw[YH,←List.append_assoc];exact W6,z5.Zd k6⟩,?_⟩
    simp only[vi,Zl,↓reduceIte,f71];omega
   ·have YF:¬(j:Int)<s.queue.length:=by omega
    obtain rfl:j=s.queue.length:=by omega
    rw[List.take_of_length_le (by rw[qW];exact Nat.le_refl _)]at W4
    simp -implicitDefEqProofs only[go_sem,↓reduceIte,f70,f71,YF]
    exact⟨f0,f1,Ob,o4,a2,bm,K4,N4,W4⟩
 clear f0 f1 f5 x5 K2 N2 W2 CT
 rintro F3 g3 ⟨f0,f1,Ob,o3,a3,oH,K3,N3,W3⟩
 rw[if_neg (by rw[Ob];simp)]
 obtain⟨m,hm⟩:=ZA ((Yp s).n)
 obtain⟨ls,hls⟩:=ZA ((Yp s).ls)
 rw[←hm]at ve Zep eme yW Zm0 N3 Ob
 rw[←hls]at W3 els
 rw[←hm,←hls]
 clear hm hls
 have hmt:0≤m.Xj∧m.Xj<5:=by rw[ve,uZ];exact ht
 have gU:m.log.length≤100000000000:=by rw[Zep,yU];exact hl
 have hll:ls.length≤10000000200:=by rw[GH]at els;omega
 refine VS.seq (VS.mono (N:=fun F' g'=>F' 0=.pointer (some ⟨wb,0,none⟩)∧F' 1=.pointer (some ⟨nb,0,none⟩)∧Kp (Xw i) o h o3 g'∧ZJ o3 g' wb i nb a3 (JV m)∧ZG o3 g' wb Z6 oH (fl++ls) bad told) ?_ ?_ (fun _ _ _ h=>h) (fun _ _ h=>h))
 ·refine X1 _ _ _ _ _ _ rfl ?_
  have P3:=Zy N3.ZE.2 N3.pt.store.len
  have P3t:=P3.Xj
  have WX:=Za N3.ZE.2
  have et:(m.Xj+1).tmod 5=(m.Xj+1)%5:=Int.tmod_eq_emod_of_nonneg (by omega)
  obtain⟨g4,w4,N4,k4⟩:=ZV.write (a:=a3) (n:=JV m) { N3.pt with } K3.ZX N3.ZE ((YK N3.ZE.2 N3.pt.store.len).Xj ((m.Xj+1)%5))
  simp -implicitDefEqProofs only[go_sem,↓reduceIte,f0,f1,P3t,et,w4,WX]
  exact⟨K3.trans (k4.mono fun t q=>.inr (.inr (.inr (by rw[q];rfl)))),N4,W3.Zd k4 (by rintro t rfl;simp[Tg.of])⟩
 clear f0 f1 K3 N3 W3
 rintro F4 g4 ⟨f0,f1,K4,N4,W4⟩
 obtain⟨q,hq0⟩:=ZA (JV m)
 have ql:q.log=m.log:=by rw[hq0];rfl
 rw[←hq0]at N4 ⊢
 clear hq0
 have P4:=Zy N4.ZE.2 N4.pt.store.len
 have P4t:=P4.Xj
 have yZ:=P4.me
 have P4o:=P4.EX
 have P4l:=P4.log
 obtain⟨pl,cl,ML,_⟩:=Yt.isSlice N4.pt.log
 have ML:a3.log=.slice pl q.log.length cl:=ML
 rw[ML]at P4l
 have WX:=Za N4.ZE.2
 rw[←ql]at gU
 refine X1 _ _ _ _ _ _ rfl ?_
 simp -implicitDefEqProofs only[go_sem,↓reduceIte]
 by_cases c:q.Xj≠q.me∧q.log.length<40
 case neg=>
  have e1:WO q=[]:=by unfold WO;rw[if_neg c]
  rw[e1,List.append_nil]
  refine VS.mono (N:=fun F' g'=>Zg g4.size g4 g'∧F' 109=.bool false) ?_ ?_ (fun _ _ _ h=>h) (fun _ _ h=>h)
  ·refine VS.z (g4.size) [] (.p 0 (.p 1 (.p 2 (.q 3 (.p 4 (.p 5 (.p 6 (.q 7 (.p 8 (.p 9 (.p 10 (.p 11 (.p 12 (.q 13 (.p 14 (.p 15 (.p 16 .nil))))))))))))))))) mixed (by kernel_rfl) ?_
   by_cases c1:q.Xj=q.me
   ·simp -implicitDefEqProofs only[go_sem,↓reduceIte,f0,f1,P4t,yZ,P4l,WX,c1]
    try exact Zg.refl _ _
   ·have c2:¬(q.log.length:Int)<40:=by
     intro e
     exact c ⟨c1,by omega⟩
    simp -implicitDefEqProofs only[go_sem,↓reduceIte,f0,f1,P4t,yZ,P4l,WX,c1,c2]
    try exact Zg.refl _ _
  rintro F5 g5 ⟨b5,f109⟩
  have I5:=ZD K4.ZX b5
  simp -implicitDefEqProofs only[go_sem,↓reduceIte,f109]
  exact⟨o3,a3,oH,K4.trans (ZF I5),N4.still I5,W4.still I5⟩
 have e1:WO q=[⟨5,q.me,q.Xj,Um q,Tj q.log.length JA oy,[]⟩]:=by unfold WO;rw[if_pos c]
 rw[e1]
 obtain⟨c1,c2⟩:=c
 have c2:(q.log.length:Int)<40:=by omega
 refine VS.mono (N:=fun F' g'=>Zg g4.size g4 g'∧F' 0=.pointer (some ⟨wb,0,none⟩)∧F' 1=.pointer (some ⟨nb,0,none⟩)∧F' 109=.bool true) ?_ ?_ (fun _ _ _ h=>h) (fun _ _ h=>h)
 ·refine VS.z (g4.size) [] (.p 0 (.p 1 (.p 2 (.q 3 (.p 4 (.p 5 (.p 6 (.q 7 (.p 8 (.p 9 (.p 10 (.p 11 (.p 12 (.q 13 (.p 14 (.p 15 (.p 16 .nil))))))))))))))))) mixed (by kernel_rfl) ?_
  simp -implicitDefEqProofs only[go_sem,↓reduceIte,f0,f1,P4t,yZ,P4l,WX,c1,c2]
  try exact Zg.refl _ _
 clear f0 f1
 rintro F5 g5 ⟨b5,f0,f1,f109⟩
 have I5:=ZD K4.ZX b5
 have N5:=N4.still I5
 have W5:=W4.still I5
 have K5:Kp (Xw i) o h o3 g5:=K4.trans (ZF I5)
 have P5:=Zy N5.ZE.2 N5.pt.store.len
 have P5o:=P5.EX
 have Ru:=Za N5.ZE.2
 obtain⟨g6,SG⟩:=ZA (g5.push (.cells [.int .i64 q.own.p.r,.int .i64 q.own.p.n].toArray 128):Hp)
 have k6:Kp Qh o3 g5 o3 g6:=by rw[SG];exact ZY K5.ZX _
 have x8:ZM o3 g6 g5.size (.cells [.int .i64 q.own.p.r,.int .i64 q.own.p.n].toArray 128):=⟨K5.ZX _ (Nat.le_refl _),by rw[SG];exact Zb⟩
 have e6:=SG.symm
 have N6:=N5.still k6
 have W6:=W5.still k6
 have K6:Kp (Xw i) o h o3 g6:=K5.trans (ZF k6)
 have P6h:=(Zy N6.ZE.2 N6.pt.store.len).heard
 have mX:=Za N6.ZE.2
 have l8:=Za x8.2
 have r8:rd g6 ⟨g5.size,0,none⟩ 2=some [.int .i64 q.own.p.r,.int .i64 q.own.p.n]:=Zq x8.2 rfl
 obtain⟨kb,nR⟩:=ZA (g5.size)
 simp -implicitDefEqProofs only[go_sem,↓reduceIte,f0,f1,f109,P5o,Ru,e6]
 rw[←nR]at x8 l8 r8 ⊢
 refine VS.mono (N:=fun F' g'=>Zg g6.size g6 g'∧F' 0=.pointer (some ⟨wb,0,none⟩)∧F' 1=.pointer (some ⟨nb,0,none⟩)∧F' 8=.pointer (some ⟨kb,0,none⟩)∧F' 120=.bool (decide (below q.own.p q.heard))) ?_ ?_ (fun _ _ _ h=>h) (fun _ _ h=>h)
 ·refine VS.z (g6.size) [5] (.p 0 (.p 1 (.p 2 (.q 3 (.q 4 (.w 5 .nil)))))) mixed (by kernel_rfl) ?_
  simp -implicitDefEqProofs only[go_sem,↓reduceIte,f0,f1,P6h,r8,mX,l8]
  refine (PT T g6 q.heard q.own.p).use ?_
  rintro _ g ⟨rfl,b⟩
  simp -implicitDefEqProofs only[go_sem,↓reduceIte,b]
  exact⟨f0,f1⟩
 clear f0 f1
 rintro F7 g7 ⟨b7,f0,f1,f8,f120⟩
 have kb7:=ZD K6.ZX b7
 have N7:=N6.still kb7
 have W7:=W6.still kb7
 have K7:Kp (Xw i) o h o3 g7:=K6.trans (ZF kb7)
 have y8:=x8.Zd kb7
 have P7h:=(Zy N7.ZE.2 N7.pt.store.len).heard
 have za:=Za N7.ZE.2
 have m8:=Za y8.2
 by_cases c6:below q.own.p q.heard
 all_goals
 first
 | (have eb:Um q=q.heard:=by unfold Um;rw[if_pos c6]
    obtain⟨g8,Ib⟩:=ZA (g7.setIfInBounds kb (.cells [.int .i64 q.heard.r,.int .i64 q.heard.n].toArray 128):Hp)
    have w8:wr g7 ⟨kb,0,none⟩ [.int .i64 q.heard.r,.int .i64 q.heard.n]=some g8:=by rw[ZR y8.2 0 _,Ib];rfl
    have k8:Kp Qh o3 g5 o3 g8:=by rw[Ib];exact (k6.trans kb7).CS (by omega) _
    have z8:ZM o3 g8 kb (.cells [.int .i64 (Um q).r,.int .i64 (Um q).n].toArray 128):=⟨y8.1,by rw[Ib,eb];exact Zv y8.2⟩
    simp -implicitDefEqProofs only[go_sem,↓reduceIte,f0,f1,f8,f120,c6,P7h,za,w8])
 | (have eb:Um q=q.own.p:=by unfold Um;rw[if_neg c6]
    obtain⟨g8,Ib⟩:=ZA (g7:Hp)
    have k8:Kp Qh o3 g5 o3 g8:=by rw[Ib];exact k6.trans kb7
    have z8:ZM o3 g8 kb (.cells [.int .i64 (Um q).r,.int .i64 (Um q).n].toArray 128):=⟨y8.1,by rw[Ib,eb];exact y8.2⟩
    simp -implicitDefEqProofs only[go_sem,↓reduceIte,f120,c6]
    rw[←Ib])
 all_goals
  have N8:=N5.still k8
  have W8:=W5.still k8
  have K8:Kp (Xw i) o h o3 g8:=K5.trans (ZF k8)
  have P8:=Zy N8.ZE.2 N8.pt.store.len
  have P8t:=P8.Xj
  have P8l:=P8.log
  rw[ML]at P8l
  have sJ:=Za N8.ZE.2
  have n8:=Za z8.2
  have s8:rd g8 ⟨kb,0,none⟩ 2=some [.int .i64 (Um q).r,.int .i64 (Um q).n]:=Zq z8.2 rfl
  refine VS.z (g8.size) [14] (.p 0 (.p 1 (.p 2 (.p 3 (.p 4 (.q 5 (.q 6 (.p 7 (.p 8 (.p 9 (.q 10 (.p 11 (.p 12 (.p 13 (.w 14 .nil))))))))))))))) mixed (by kernel_rfl) ?_
  simp -implicitDefEqProofs only[go_sem,↓reduceIte,f0,f1,f8,P8t,P8l,s8,sJ,n8]
  have rl:(fl++ls).length≤1000000000000:=by rw[List.length_append];omega
  refine (Uy T g8 o3 wb nb Z6 q.me oH _ bad told q.Xj ⟨5,0,0,Um q,Tj q.log.length JA oy,[]⟩ (.slice none 0 0) K8.ZX W8 P8.me sJ (Im.nil _ _ _ _) rl).use ?_
  rintro v' g9 ⟨o9,WA9,k9,_,W9⟩
  simp -implicitDefEqProofs only[go_sem,↓reduceIte]
  exact⟨o9,a3,WA9,K8.trans (k9.mono fun t q=>by rcases q with rfl|rfl<;>simp[Xw]),N8.Zd k9 (by rintro t (rfl|rfl)<;>simp[Tg.of]),by rw[←List.append_assoc];exact W9⟩
structure Am (n:Nd) (l:Y2) (fl told:Nat):Prop where
 kind:0≤l.kind∧l.kind≤7
 room:fl≤1000000000000
 YG:n.own.l.length≤1000000
 data:n.data.length≤1000000
 known:n.known.length≤100000000000
 log:n.log.length≤100000000000
 told:told≤100000000000
 queue:n.queue.length≤1000000000000
 waiting:n.waiting.length≤1000000000000
 VW:∀r s,n.Zj=some r→((Xc r.Jm s).getD []).length≤1000000
structure nc (n:Nd) (fl:Nat):Prop where
 room:fl≤800000000000
 YG:n.own.l.length≤1000000
 data:n.data.length≤1000000
 rgn:∀r,n.Zj=some r→(∀x∈r.prom,x.2.length≤1000000)∧(∀x∈r.prom,∀v∈x.2,v.slot≤1000000)∧r.prom.length≤1000000000000
 log:n.log.length≤100000000000
 queue:n.queue.length≤10000000000
 Xj:0≤n.Xj∧n.Xj<5
def St:Nd→List Y2→Nat→Nat→Prop
 | _,[],_,_=>True
 | n,l :: k,f,t=>n.ZS.isSome=true∨(Am { n with inbox:=k } l f t∧St (handle { n with inbox:=k } l).n k (f+(handle { n with inbox:=k } l).ls.length) (t+(handle { n with inbox:=k } l).ts.length))
structure An (n:Nd) (fl told:Nat):Prop where
 data:n.data.length≤1000000
 room:fl≤1000000000000
 dr:n.ZS=none→St n n.inbox fl told
 du:n.ZS=none→(drain n n.inbox).n.ZS=none→nc (drain n n.inbox).n (fl+(drain n n.inbox).ls.length)
theorem GI (n:Nd) (l:Y2) (k:List Y2):(handle { n with inbox:=k } l).n.inbox=k:=by
 have hL:∀(m:Nat) (x:Nd),(YJ m x).1.inbox=x.inbox:=by
  intro m
  induction m with
  | zero=>intro x;rfl
  | succ m ih=>
   intro x
   unfold YJ
   split
   ·rfl
   ·simp only;rw[ih];rfl
 have hl:∀(x:Nd) s c,(Ul x s c).n.inbox=x.inbox:=fun x s c=>by unfold Ul;simp only;rw[hL];rfl
 have hn:∀x:Nd,(notes x l).inbox=x.inbox:=fun x=>by unfold notes;split<;>rfl
 unfold handle
 split
 ·unfold Y1;split;· rfl
  split;· rfl
  split<;>rfl
 split
 ·unfold Yz
  split
  ·rfl
  ·split
   ·split<;>rfl
   ·split;· rfl
    split
    ·rw[hl];rfl
    ·rfl
 split
 ·unfold asked;split;· rfl
  split;· rfl
  split<;>rfl
 split
 ·unfold add;simp only;split<;>rfl
 split
 ·unfold Q4;split
  ·simp only;rw[hn]
  ·simp only;rw[hn]
 split
 ·rw[hl]
 ·simp only;rw[hn]
theorem sK {o:Ow} {t:Tg} {h:Hp} {v:Value} {l:Y2} {k:List Y2} (s:Qz o t h v (l :: k)) :
  ∃w b off c,v=.slice (some ⟨b,off,none⟩) (k.length+1) c∧k.length+1≤c∧rd h ⟨b,off,none⟩ 14=some (YR l w)∧U6 o h w l.vs∧Qz o t h (.slice (if c=1 then some ⟨b,off,none⟩ else some ⟨b,off+14,none⟩) k.length (c-1)) k:=by
 obtain⟨xs,h1,h2,h3⟩:=s
 cases xs with
 | nil=>cases h1
 | cons x xs=>
  obtain⟨l',w⟩:=x
  simp only[List.map_cons,List.cons.injEq]at h1
  obtain⟨rfl,rfl⟩:=h1
  have h2':=h2
  rcases h2 with⟨_,e,_⟩|⟨b,off,cap,pre,spare,g1,rfl,g3,g4,g5,g6,g7⟩
  ·cases e
  refine⟨w,b,off,cap,by rw[List.length_map];rfl,by rw[List.length_map];exact g7,?_,h3 (l',w) (by simp),?_⟩
  ·have e1:Zz NC ((l',w) :: xs)=YR l' w++Zz NC xs:=by simp[Zz,NC]
   have g5':(Zz NC ((l',w) :: xs)).length=(xs.length+1)*14:=g5
   rw[Z5 g3 (by simp only[List.length_append];omega),←g4,List.drop_left,e1,List.append_assoc]
   rfl
  ·refine⟨xs,rfl,?_,fun x hx=>h3 x (by simp[hx])⟩
   have tl:=h2'.tail (k:=1) (by simp)
   have e1:Zz NC ((l',w) :: xs)=YR l' w++Zz NC xs:=by simp[Zz,NC]
   rw[e1]at tl
   have e2:(YR l' w++Zz NC xs).drop (1*14)=Zz NC xs:=rfl
   rw[e2]at tl
   simpa [YQ] using tl
def Dj (nb:Nat) (g:Hp):Nat:=match hc g ⟨nb,54,none⟩ with
 | some (.slice _ m _)=>m
 | _=>0
theorem Dk {o:Ow} {h:Hp} {wb i nb:Nat} {a:NA} {n:Nd} (N:ZJ o h wb i nb a n):Dj nb h=n.inbox.length:=by
 obtain⟨xs,h1,h2,_⟩:=N.pt.inbox
 obtain⟨p,c,h3,_⟩:=h2.isSlice
 have:=(Zy N.ZE.2 N.pt.store.len).inbox
 unfold Dj
 rw[this,h3,←h1,List.length_map]
theorem Dl {i:Nat} (t:Tg) (q:yQ i t):Xw i t:=by
 rcases q with rfl|rfl|rfl|rfl|rfl
 ·exact .inl rfl
 ·exact .inr (.inl rfl)
 all_goals exact .inr (.inr (.inr rfl))
set_option maxHeartbeats 4000000 in
theorem nf (T:World) (h:Hp) (o:Ow) (wb i nb:Nat) (Z6:Nat→Nat) (a:NA) (n:Nd) (YA:WA) (fl:List Y2) (bad:Nat→Int) (told:List TV) (d:Q8 o h)
  (N:ZJ o h wb i nb a n) (W:ZG o h wb Z6 YA fl bad told) (tb:DO o h) (ok:An n fl.length told.length) :
  Zc Tryz.prog T 77 #[Zp wb,Zp nb] h fun v' h'=>∃o' a' Xq,Kp (Xw i) o h o' h'∧ZJ o' h' wb i nb a' (step n).n∧ZG o' h' wb Z6 Xq (fl++(step n).ls) bad (told++(step n).ts):=by
 refine Zc.Zi (args:=[_,_]) Tryz.func77 rfl rfl rfl rfl ?_
 unfold Zp
 have P:=Zy N.ZE.2 N.pt.store.len
 have WX:=Za N.ZE.2
 have Pu:=P.up
 cases hu:n.up with
 | false=>
  have e1:step n=⟨n,[],[]⟩:=by unfold step;rw[hu];rfl
  rw[hu]at Pu
  rw[e1,List.append_nil,List.append_nil]
  simp -implicitDefEqProofs only[go_sem,↓reduceIte,Pu]
  exact⟨o,a,YA,Kp.refl d _,N,W⟩
 | true=>
 rw[hu]at Pu
 have Pp:=P.ZS
 cases hp:n.ZS with
 | some p=>
  have e1:step n=finish (synced n) p:=by unfold step;rw[hu,hp];rfl
  rw[e1]
  have Pn:=N.pt.ZS
  rw[hp]at Pn
  obtain⟨f,l,hf⟩:∃f l,a.ZS=.func (.func f) #[] l:=by
   rcases Pn.fn with⟨c,_⟩|⟨_,c⟩
   ·cases c
   ·exact c
  have Pp':=Pp
  rw[hf]at Pp'
  obtain⟨pd,cd,Ob⟩:=N.pt.data.1.isSlice
  have Ob:a.data=.slice pd n.data.length cd:=Ob
  have Pt:=P.tape
  rw[Ob]at Pt
  have Nd:=N.pt.data
  rw[Ob]at Nd
  simp -implicitDefEqProofs only[go_sem,↓reduceIte,Pu,Pp',Pt]
  refine (qv T h _ n.Xe n.data Nd.bs (by have:=ok.data;omega)).use ?_
  rintro v1 h1 ⟨b1,s1⟩
  have kb:=ZD d b1
  have N1:=N.still kb
  have W1:=W.still kb
  obtain⟨p1,c1,rfl,i1⟩:∃p1 c1,v1=.tuple [.agg [.slice p1 (synced n).data.length c1,.int .i64 (synced n).Xe].toArray,.int .i64 (if YX n.data n.Xe then 0 else 5)].toArray∧Vz o h1 (.slice p1 (synced n).data.length c1) (synced n).data:=by
   unfold Ba at s1
   by_cases c:YX n.data n.Xe
   ·rw[if_pos (show n.data.length≤100000∧0≤n.Xe∧n.Xe≤n.data.length from c)]at s1
    obtain⟨w,rfl,o1⟩:=s1
    obtain⟨p1,c1,rfl,_⟩:=o1.bs.open
    have e2:(synced n).data=n.data:=by unfold synced;simp only;rw[if_pos c]
    have e3:(synced n).Xe=n.data.length:=by unfold synced;simp only;rw[if_pos c]
    rw[e2,e3,if_pos c]
    exact⟨p1,c1,rfl,Im.QJ o1.own (fun b hb=>d b hb),o1.byte⟩
   ·rw[if_neg (show ¬(n.data.length≤100000∧0≤n.Xe∧n.Xe≤n.data.length) from c)]at s1
    have e2:(synced n).data=[]:=by unfold synced;simp only;rw[if_neg c]
    have e3:(synced n).Xe=0:=by unfold synced;simp only;rw[if_neg c]
    rw[e2,e3,if_neg c]
    exact⟨none,0,s1,Im.nil _ _ _ _,fun x hx=>by cases hx⟩
  obtain⟨g2,w2,N2,k2⟩:=ZV.write (a:={ a with data:=.slice p1 (synced n).data.length c1 }) (n:={ n with data:=(synced n).data,Xe:=(synced n).Xe }) { N1.pt with data:=i1 } kb.ZX N1.ZE ((YK N1.ZE.2 N1.pt.store.len).tape (.slice p1 (synced n).data.length c1) (synced n).Xe rfl)
  have Jx:=Za N1.ZE.2
  have JD:=Za N2.ZE.2
  have Ao:hc g2 ⟨nb,55,none⟩=some a.ZS:=(Zy N2.ZE.2 N2.pt.store.len).ZS
  have pn:Q7 o g2 wb i nb a.Zj .nilFunc none:=rfl
  obtain⟨g3,w3,N3,k3⟩:=ZV.write (a:={ a with data:=.slice p1 (synced n).data.length c1,ZS:=.nilFunc }) (n:=synced n) { N2.pt with ZS:=pn } k2.ZX N2.ZE ((YK N2.ZE.2 N2.pt.store.len).ZS .nilFunc rfl)
  have K3:Kp (Xw i) o h o g3:=((ZF kb).trans (k2.mono fun t q=>.inr (.inr (.inr (by rw[q];rfl))))).trans (k3.mono fun t q=>.inr (.inr (.inr (by rw[q];rfl))))
  have W3:=(W1.Zd k2 (by rintro t rfl;simp[Tg.of])).Zd k3 (by rintro t rfl;simp[Tg.of])
  have Pn3:Q7 o g3 wb i nb a.Zj a.ZS (some p):=((Pn.Zd kb (by rintro⟨⟩)).Zd k2 (by intro e;cases e)).Zd k3 (by intro e;cases e)
  clear hf Pp'
  rw[show (finish (synced n) p).ts=[] from by cases p<;>rfl,List.append_nil]
  have rm:=ok.room
  have hns:(synced n).ZS=none:=rfl
  cases p with
  | Gy acc to b vs=>
   obtain⟨b6,b4,b9,u,h1',h2',h3',xH,xK⟩:=Pn3
   have cf:=rS T g3 o wb i nb Z6 YA fl bad told _ (synced n) acc to b vs b6 b4 b9 u k3.ZX N3 W3 rm h2' h3' xH xK
   rw[h1']at Ao
   unfold Wb at Ao
   simp only[List.map]at Ao
   unfold Zp at Ao cf
   simp -implicitDefEqProofs only[go_sem,↓reduceIte,w2,Jx,Ao,w3,JD]
   refine cf.use ?_
   rintro v' h' ⟨o',a',Xq,k,N',W'⟩
   simp -implicitDefEqProofs only[go_sem,↓reduceIte]
   exact⟨o',a',Xq,K3.trans (k.mono Dl),N',W'⟩
  | Gz acc to x=>
   obtain⟨b6,b4,b9,u,h1',h2',h3',xH,xK⟩:=Pn3
   have cf:=rT T g3 o wb i nb Z6 YA fl bad told _ (synced n) acc to x b6 b4 b9 u k3.ZX N3 W3 rm h2' h3' xH xK
   rw[h1']at Ao
   unfold Wb at Ao
   simp only[List.map]at Ao
   unfold Zp at Ao cf
   simp -implicitDefEqProofs only[go_sem,↓reduceIte,w2,Jx,Ao,w3,JD]
   refine cf.use ?_
   rintro v' h' ⟨o',a',Xq,k,N',W'⟩
   simp -implicitDefEqProofs only[go_sem,↓reduceIte]
   exact⟨o',a',Xq,K3.trans (k.mono Dl),N',W'⟩
  | own acc vs cur=>
   obtain⟨b6,b4,b7,b5,h1',cf⟩:=rU T g3 o wb i nb _ (synced n) acc vs cur a.ZS k3.ZX N3 hns Pn3
   rw[h1']at Ao
   unfold Wb at Ao
   simp only[List.map]at Ao
   unfold Zp at Ao cf
   rw[show (finish (synced n) (.own acc vs cur)).ls=[] from rfl,List.append_nil]
   simp -implicitDefEqProofs only[go_sem,↓reduceIte,w2,Jx,Ao,w3,JD]
   refine cf.use ?_
   rintro v' h' ⟨o',a',k,N'⟩
   simp -implicitDefEqProofs only[go_sem,↓reduceIte]
   exact⟨o',a',YA,K3.trans (k.mono fun t q=>by rcases q with rfl|rfl|rfl<;>exact .inr (.inr (.inr rfl))),N',W3.Zd k (fun t q=>by rcases q with rfl|rfl|rfl<;>simp[Tg.of])⟩
 | none=>
  have Pp0:a.ZS=.nilFunc:=by have:=N.pt.ZS;rw[hp]at this;exact this
  have Pp1:=P.ZS
  rw[Pp0]at Pp1
  simp -implicitDefEqProofs only[go_sem,↓reduceIte,Pu,Pp1]
  obtain⟨D,hD⟩:=ZA (drain n n.inbox)
  have dr:=ok.dr hp
  have du:=ok.du hp
  have e1:step n=if D.n.ZS.isSome=true then D else ⟨(Q6 D.n).n,D.ls++(Q6 D.n).ls,D.ts++(Q6 D.n).ts⟩:=by unfold step;rw[hu,hp,hD];rfl
  rw[←hD]at du
  rw[e1]
  refine VS.ZW (fun F g=>F 0=.pointer (some ⟨wb,0,none⟩)∧F 1=.pointer (some ⟨nb,0,none⟩)∧∃(o':Ow) (a':NA) (Xq:WA) (m:Nd) (ls:List Y2) (ts:List TV),Kp (Xw i) o h o' g∧ZJ o' g wb i nb a' m∧ZG o' g wb Z6 Xq (fl++ls) bad (told++ts)∧D=⟨(drain m m.inbox).n,ls++(drain m m.inbox).ls,ts++(drain m m.inbox).ts⟩∧St m m.inbox (fl.length+ls.length) (told.length+ts.length))
   (fun _ g=>Dj nb g) rfl ⟨rfl,rfl,o,a,YA,n,[],[],Kp.refl d _,N,by simpa using W,by rw[hD];rfl,by simpa using dr⟩ ?_
  clear Pu Pp Pp0 Pp1 P WX N W d
  rintro F1 g1 ⟨f0,f1,o1,a1,oI,m,ls,ts,K1,N1,W1,hDm,dr1⟩
  have P1:=Zy N1.ZE.2 N1.pt.store.len
  have Jx:=Za N1.ZE.2
  have zb:=P1.inbox
  have sA:=P1.ZS
  have stop:(m.inbox=[]∨m.ZS.isSome=true)→D=⟨m,ls,ts⟩:=by
   intro q
   have e2:drain m m.inbox=⟨m,[],[]⟩:=by
    cases oJ:m.inbox with
    | nil=>unfold drain;rw[←oJ]
    | cons l k=>
     rcases q with q|q
     ·rw[oJ]at q;cases q
     ·unfold drain;rw[if_pos q,←oJ]
   rw[hDm,e2];simp
  rcases N1.pt.ZS.fn with⟨c1,c2⟩|⟨c1,f,fl',c2⟩
  ·rw[c2]at sA
   cases oJ:m.inbox with
   | nil=>
    have eD:=stop (.inl oJ)
    obtain⟨p,c,hi⟩:∃p c,a1.inbox=.slice p 0 c:=by
     have:=N1.pt.inbox
     rw[oJ]at this
     obtain⟨xs,h1,h2,_⟩:=this
     obtain⟨p,c,h3,_⟩:=h2.isSlice
     rw[List.map_eq_nil_iff]at h1
     subst h1
     exact⟨p,c,h3⟩
    rw[hi]at zb
    have vf:=du (by rw[eD];exact c1)
    rw[eD]at vf
    rw[eD,if_neg (by rw[c1];simp)]
    have cd:=sI T g1 o1 wb i nb Z6 a1 m oI (fl++ls) bad (told++ts) K1.ZX N1 W1 (tb.Zd K1) c1 (by rw[List.length_append];exact vf.room) vf.YG vf.data vf.rgn vf.log vf.queue vf.Xj
    unfold Zp at cd
    simp -implicitDefEqProofs only[go_sem,↓reduceIte,f0,f1,zb,sA]
    refine cd.use ?_
    rintro v' g2 ⟨o2,a2,WA2,k2,N2,W2⟩
    simp -implicitDefEqProofs only[go_sem,↓reduceIte]
    have edt:(Q6 m).ts=[]:=by
     unfold Q6
     split
     ·exact (Rv _).2.2.2.2.2
     ·rfl
    refine⟨o2,a2,WA2,K1.trans k2,N2,?_⟩
    rw[edt,List.append_nil,←List.append_assoc]
    exact W2
   | cons l k=>
    have NI:=N1.pt.inbox
    rw[oJ]at NI
    obtain⟨w,b,off,c,hi,Ur,PV,iv,tl⟩:=sK NI
    rw[hi]at zb
    rw[oJ]at dr1
    have hk:Am { m with inbox:=k } l (fl.length+ls.length) (told.length+ts.length)∧St (handle { m with inbox:=k } l).n k (fl.length+ls.length+(handle { m with inbox:=k } l).ls.length) (told.length+ts.length+(handle { m with inbox:=k } l).ts.length):=by
     rcases dr1 with q|q
     ·rw[c1]at q;cases q
     ·exact q
    obtain⟨hk,dr2⟩:=hk
    have DP:D=⟨(drain (handle { m with inbox:=k } l).n k).n,(ls++(handle { m with inbox:=k } l).ls)++(drain (handle { m with inbox:=k } l).n k).ls,(ts++(handle { m with inbox:=k } l).ts)++(drain (handle { m with inbox:=k } l).n k).ts⟩:=by
     rw[hDm,oJ]
     have e2:drain m (l :: k)=⟨(drain (handle { m with inbox:=k } l).n k).n,(handle { m with inbox:=k } l).ls++(drain (handle { m with inbox:=k } l).n k).ls,(handle { m with inbox:=k } l).ts++(drain (handle { m with inbox:=k } l).n k).ts⟩:=by
      rw[drain];rw[if_neg (by rw[c1];simp)]
     rw[e2];simp
    have S9:=GI m l k
    clear stop dr1 hDm
    obtain⟨pw,cw,rfl⟩:=iv.isSlice
    obtain⟨g2,Qt⟩:=ZA (g1.push (.cells (YR l (.slice pw l.vs.length cw)).toArray 163):Hp)
    have k2:Kp Qh o1 g1 o1 g2:=by rw[Qt];exact ZY K1.ZX _
    have x5:ZM o1 g2 g1.size (.cells (YR l (.slice pw l.vs.length cw)).toArray 163):=⟨K1.ZX _ (Nat.le_refl _),by rw[Qt];exact Zb⟩
    have e2:=Qt.symm
    have N2:=N1.still k2
    have W2:=W1.still k2
    have P2i:=(Zy N2.ZE.2 N2.pt.store.len).inbox
    rw[hi]at P2i
    have JD:=Za N2.ZE.2
    obtain⟨vi',hvi⟩:∃v:Value,v=.slice (if c=1 then some ⟨b,off,none⟩ else some ⟨b,off+14,none⟩) k.length (c-1):=⟨_,rfl⟩
    have tl2:Qz o1 (.inbox i) g2 vi' k:=by rw[hvi];exact tl.Zd k2 (fun q=>q.elim)
    obtain⟨g3,w3,N3,k3⟩:=ZV.write (a:={ a1 with inbox:=vi' }) (n:={ m with inbox:=k }) { N2.pt with inbox:=tl2 } k2.ZX N2.ZE ((YK N2.ZE.2 N2.pt.store.len).inbox vi' (by rw[hvi];rfl))
    rw[hvi]at w3
    have y5:=x5.Zd k3
    have W3:=W2.Zd k3 (by rintro t rfl;simp[Tg.of])
    have r5:rd g3 ⟨g1.size,0,none⟩ 14=some (YR l (.slice pw l.vs.length cw)):=Zq y5.2 rfl
    have K3:Kp (Xw i) o h o1 g3:=(K1.trans (ZF k2)).trans (k3.mono fun t q=>.inr (.inr (.inr (by rw[q];rfl))))
    have Iu:(1:Int)≤c:=by omega
    have ch:=fH T g3 o1 wb i nb Z6 _ { m with inbox:=k } oI (fl++ls) bad (told++ts) l (.slice pw l.vs.length cw) k3.ZX N3 W3 ((iv.Zd k2).Zd k3) (tb.Zd K3) hk.kind (by rw[List.length_append];exact hk.room) hk.YG hk.data hk.known hk.log (by rw[List.length_append];exact hk.told) hk.queue hk.waiting hk.VW
    unfold Zp YR at ch
    unfold YR at PV e2 r5
    simp -implicitDefEqProofs only[go_sem,↓reduceIte,f0,f1,zb,sA,PV,e2,P2i,JD,w3,Ur,Iu,r5,Nat.add_sub_cancel]
    refine ch.use ?_
    rintro v' g4 ⟨o4,a4,bm,k4,N4,W4⟩
    simp -implicitDefEqProofs only[go_sem,↓reduceIte]
    unfold Y9
    have in4:=Dk N4
    have in1:=Dk N1
    rw[S9]at in4
    rw[oJ]at in1
    refine⟨⟨f0,f1,o4,a4,bm,(handle { m with inbox:=k } l).n,ls++(handle { m with inbox:=k } l).ls,ts++(handle { m with inbox:=k } l).ts,K3.trans k4,N4,by rw[←List.append_assoc,←List.append_assoc];exact W4,by rw[S9];exact DP,by rw[S9,List.length_append,List.length_append,←Nat.add_assoc,←Nat.add_assoc];exact dr2⟩,?_⟩
    show Dj nb g4<Dj nb g1
    rw[in4,in1]
    simp
  ·rw[c2]at sA
   have eD:=stop (.inr c1)
   rw[eD,if_pos c1]
   obtain⟨p,c,hi⟩:∃p c,a1.inbox=.slice p m.inbox.length c:=by
    obtain⟨xs,h1,h2,_⟩:=N1.pt.inbox
    obtain⟨p,c,h3,_⟩:=h2.isSlice
    rw[←h1,List.length_map]
    exact⟨p,c,h3⟩
   rw[hi]at zb
   by_cases hz:0<m.inbox.length
   ·have Fa:(0:Int)<m.inbox.length:=by omega
    simp -implicitDefEqProofs only[go_sem,↓reduceIte,f0,f1,zb,sA,Fa]
    exact⟨o1,a1,oI,K1,N1,W1⟩
   ·have Fa:¬(0:Int)<m.inbox.length:=by omega
    simp -implicitDefEqProofs only[go_sem,↓reduceIte,f0,f1,zb,sA,Fa]
    exact⟨o1,a1,oI,K1,N1,W1⟩
def WT (t:Tg):Prop:=True
def Zes (t:Tg):Prop:=∃i,t.of=some i
theorem Yc {S:Tg→Prop} {o o':Ow} {h h':Hp} (k:Kp S o h o' h'):Kp WT o h o' h':=k.mono fun _ _=>trivial
structure X4 (o:Ow) (h:Hp) (wb:Nat) (Z6:Nat→Nat) (YA:WA) (w:Wd):Prop where
 wd:ZG o h wb Z6 YA w.Zn w.bad w.told
 nd:∀i,i<5→∃a,ZJ o h wb i (Z6 i) a (w.nodes i)
theorem X4.still {o:Ow} {h h':Hp} {wb:Nat} {Z6:Nat→Nat} {YA:WA} {w:Wd} {o':Ow} (A:X4 o h wb Z6 YA w) (k:Kp Qh o h o' h'):X4 o' h' wb Z6 YA w:=
 ⟨A.wd.still k,fun i hi=>by obtain⟨a,N⟩:=A.nd i hi;exact⟨a,N.still k⟩⟩
theorem X4.Xj {o o':Ow} {h h':Hp} {wb:Nat} {Z6:Nat→Nat} {YA oI:WA} {w:Wd} {i:Nat} {a:NA} {n:Nd} {fl:List Y2} {bad:Nat→Int} {told:List TV} (A:X4 o h wb Z6 YA w) (k:Kp (Xw i) o h o' h')
  (N:ZJ o' h' wb i (Z6 i) a n) (W:ZG o' h' wb Z6 oI fl bad told):X4 o' h' wb Z6 oI { nodes:=fun j=>if j=i then n else w.nodes j,Zn:=fl,bad:=bad,told:=told }:=by
 refine⟨W,fun j hj=>?_⟩
 by_cases e:j=i
 ·subst e
  exact⟨a,by simpa using N⟩
 ·obtain⟨b,M⟩:=A.nd j hj
  refine⟨b,?_⟩
  simp only[if_neg e]
  refine M.Zd k fun t q hq=>?_
  rcases q with rfl|rfl|rfl|q
  ·cases hq
  ·cases hq
  ·cases hq
  ·rw[hq]at q;exact e (Option.some.inj q)
theorem UZ {o:Ow} {h:Hp} {wb:Nat} {Z6:Nat→Nat} {YA:WA} {fl:List Y2} {bad:Nat→Int} {told:List TV} (W:ZG o h wb Z6 YA fl bad told) :
  ∃b off c,YA.nodes=.slice (some ⟨b,off,none⟩) 5 c∧5≤c∧b<h.size∧∀i,i<5→hc h ⟨b,off+i,none⟩=some (Zp (Z6 i)):=by
 rcases W.nodes with⟨_,e,_⟩|⟨b,off,cap,pre,spare,g1,g2,g3,g4,g5,g6,g7⟩
 ·cases e
 refine⟨b,off,cap,g2,g7,Za g3,fun i hi=>?_⟩
 rw[Zh g3,Yk,←g4,List.getElem?_append_right (by omega),Nat.add_sub_cancel_left]
 match i,hi with
 | 0,_=>rfl
 | 1,_=>rfl
 | 2,_=>rfl
 | 3,_=>rfl
 | 4,_=>rfl
theorem fR {T:World} {K:Value→Hp→Prop} {ty:TypeId} {o:Ow} {t:Tg} {h:Hp} {v:Value} {l:List Y2} {x:Y2} {w:Value} {bx:Nat} {cb:Array Bool} (s:Qz o t h v l) (d:Q8 o h) (iv:U6 o h w x.vs) (hb:h[bx]? = some (.cells (YR x w).toArray 163)) (hr:l.length≤1000000000000)
  (H:∀p c o' h',Qz o' t h' (.slice p (l.length+1) c) (l++[x])→Kp (fun u=>u=t) o h o' h'→K (.slice p (l.length+1) c) h') :
  Tn Tryz.prog T .append #[121,121] ty cb [v,.slice (some ⟨bx,0,none⟩) 1 1] K h:=by
 have src:Sl 14 h (.slice (some ⟨bx,0,none⟩) 1 1) 1 (YR x w):=⟨_,1,rfl,rfl,fun _=>⟨bx,0,rfl,fun i hi=>by
  rw[Zh hb,Yk,Nat.zero_add];exact List.getElem?_eq_getElem hi⟩⟩
 obtain⟨p,c,hw⟩:=iv.isSlice
 have Xb:Z8 w=true:=by rw[hw];rfl
 obtain⟨xs,Qf,Rj,Bp⟩:=s
 have GV:xs.length=l.length:=by rw[←Qf,List.length_map]
 refine XQ (E:=163) (n:=14) (bytes:=128) (k:=1) HU Tryz.underlying121 jX ai rfl ur Rj d src (by rw[YR,List.all_eq_true];intro x hx;simp at hx;rcases hx with rfl|rfl|rfl|rfl|rfl|rfl|rfl|rfl|rfl|rfl|rfl|rfl|rfl|rfl<;>first|rfl|exact Xb) (by omega) (by omega) ?_
 intro v' o' h' w' k _
 obtain⟨p',c',rfl,_⟩:=w'.isSlice
 rw[GV]
 refine H p' c' o' h' ⟨xs++[(x,w)],by rw[List.map_append,Qf];rfl,?_,fun y hy=>?_⟩ k
 ·rw[Yf,QV,List.length_append,←GV]
  exact w'
 ·rcases List.mem_append.1 hy with hy|hy
  ·exact (Bp y hy).Zd k
  ·have:y=(x,w):=by simpa using hy
   subst this
   exact iv.Zd k
theorem Vw {o:Ow} {t:Tg} {h:Hp} {v:Value} {l:List Y2} (s:Qz o t h v l):∃p c,v=.slice p l.length c∧l.length≤c:=by
 obtain⟨xs,h1,h2,_⟩:=s
 obtain⟨p,c,h3,h4⟩:=h2.isSlice
 rw[←h1,List.length_map]
 exact⟨p,c,h3,h4⟩
set_option maxHeartbeats 4000000 in
theorem GJ (T:World) (h:Hp) (o:Ow) (wb:Nat) (Z6:Nat→Nat) (YA:WA) (w:Wd) (l:Y2) (v:Value) (d:Q8 o h) (A:X4 o h wb Z6 YA w) (iv:U6 o h v l.vs) (vg:0≤l.to∧l.to<5)
  (S9:∀i,i<5→(w.nodes i).inbox.length≤1000000000000) :
  Zc Tryz.prog T 79 #[Zp wb,.agg (YR l v).toArray] h fun v' h'=>∃o',Kp Zes o h o' h'∧X4 o' h' wb Z6 YA (QX w l):=by
 obtain⟨pw,cw,rfl⟩:=iv.isSlice
 obtain⟨j,hj⟩:∃j:Nat,(j:Int)=l.to:=⟨l.to.toNat,by omega⟩
 have hj5:j<5:=by omega
 have hjn:l.to.toNat=j:=by omega
 refine Zc.Zi (args:=[_,_]) Tryz.func79 rfl rfl rfl rfl ?_
 unfold Zp YR
 obtain⟨h1,Yw⟩:=ZA (h.push (.cells (YR l (.slice pw l.vs.length cw)).toArray 163):Hp)
 have k1:Kp Qh o h o h1:=by rw[Yw];exact ZY d _
 have x3:ZM o h1 h.size (.cells (YR l (.slice pw l.vs.length cw)).toArray 163):=⟨d _ (Nat.le_refl _),by rw[Yw];exact Zb⟩
 have e0:=Yw.symm
 unfold YR at e0
 have A1:=A.still k1
 have R1:=YS A1.wd.ZE.2
 obtain⟨b,off,c,hn,hc5,hb,PV⟩:=UZ A1.wd
 have Rn:=R1.nodes
 rw[hn]at Rn
 have GF:=Za A1.wd.ZE.2
 have r3:hc h1 ⟨h.size,2,none⟩=some (.int .i64 j):=by rw[hj];exact Zh x3.2
 have l3:=Za x3.2
 have rj:=PV j hj5
 unfold Zp at rj
 have Zne:(j:Int)<5:=by omega
 simp -implicitDefEqProofs only[go_sem,↓reduceIte,e0]
 refine VS.mono (N:=fun F' g'=>Zg h1.size h1 g'∧F' 3=.pointer (some ⟨h.size,0,none⟩)∧F' 4=.pointer (some ⟨Z6 j,0,none⟩)) ?_ ?_ (fun _ _ _ h=>h) (fun _ _ h=>h)
 ·refine VS.z (h1.size) [] (.p 0 (.p 1 (.p 2 (.q 3 (.p 4 (.q 5 (.p 6 (.q 7 (.p 8 .nil))))))))) mixed (by kernel_rfl) ?_
  simp -implicitDefEqProofs only[go_sem,↓reduceIte,Rn,r3,GF,l3,hb,Zne,rj]
  try exact Zg.refl _ _
 rintro F1 g1 ⟨b1,f3,f4⟩
 have kb:=ZD k1.ZX b1
 have A2:=A1.still kb
 have K2:=k1.trans kb
 have y3:=x3.Zd kb
 obtain⟨a,N2⟩:=A2.nd j hj5
 have P2:=Zy N2.ZE.2 N2.pt.store.len
 have bq:=P2.up
 have WX:=Za N2.ZE.2
 unfold QX
 rw[hjn]
 cases hu:(w.nodes j).up with
 | false=>
  rw[hu]at bq
  rw[if_neg (by simp)]
  simp -implicitDefEqProofs only[go_sem,↓reduceIte,f4,bq]
  exact⟨o,ZF K2,A2⟩
 | true=>
  rw[hu]at bq
  rw[if_pos rfl]
  obtain⟨pi,ci,hi,_⟩:=Vw N2.pt.inbox
  have P2i:=P2.inbox
  rw[hi]at P2i
  have r3:rd g1 ⟨h.size,0,none⟩ 14=some (YR l (.slice pw l.vs.length cw)):=Zq y3.2 rfl
  unfold YR at r3
  have l3:=Za y3.2
  simp -implicitDefEqProofs only[go_sem,↓reduceIte,f4,bq]
  refine VS.z (g1.size) [7,10] (.p 0 (.p 1 (.p 2 (.p 3 (.q 4 (.q 5 (.s 6 (.w 7 (.p 8 (.p 9 (.w 10 .nil))))))))))) mixed (by kernel_rfl) ?_
  simp -implicitDefEqProofs only[go_sem,↓reduceIte,f3,f4,P2i,r3,WX,l3]
  obtain⟨g2,Qt⟩:=ZA (g1.push (.cells (YR l (.slice pw l.vs.length cw)).toArray 163):Hp)
  have k2:Kp Qh o g1 o g2:=by rw[Qt];exact ZY K2.ZX _
  have e2:=Qt.symm
  unfold YR at e2
  rw[e2]
  have N3:=N2.still k2
  have A3:=A2.still k2
  have K3:=K2.trans k2
  have LI:=N3.pt.inbox
  rw[hi]at LI
  refine fR LI K3.ZX ((iv.Zd K2).Zd k2) (by rw[Qt];exact Zb) (S9 j hj5) ?_
  intro p3 c3 o3 g3 L3 k3
  have k3:Kp (fun t=>t=.inbox j) o g2 o3 g3:=k3
  have N4:=ZV.fu N3.pt k3 L3
  have B4:=N3.ZE.Zd k3 (by intro e;cases e)
  have W4:=A3.wd.Zd k3 (by rintro t rfl;simp[Tg.of])
  obtain⟨g5,w5,N5,k5⟩:=ZV.write N4 k3.ZX B4 ((YK B4.2 N3.pt.store.len).inbox (.slice p3 ((w.nodes j).inbox.length+1) c3) rfl)
  have Mb:=Za B4.2
  simp -implicitDefEqProofs only[go_sem,↓reduceIte,w5,Mb]
  have W5:=W4.Zd k5 (by rintro t rfl;simp[Tg.of])
  have kk:Kp (fun t=>t.of=some j) o g2 o3 g5:=(k3.mono fun t q=>by rw[q];rfl).trans (k5.mono fun t q=>by rw[q];rfl)
  exact⟨o3,(ZF K3).trans (kk.mono fun t q=>⟨j,q⟩),A3.Xj (kk.mono fun t q=>.inr (.inr (.inr q))) N5 W5⟩
theorem bt {o:Ow} {t:Tg} {h:Hp} {v:Value} {l:List Y2} (s:Qz o t h v l) (k:Nat) (hk:k<l.length) :
  ∃w b off c,v=.slice (some ⟨b,off,none⟩) l.length c∧l.length≤c∧b<h.size∧rd h ⟨b,off+k*14,none⟩ 14=some (YR l[k] w)∧U6 o h w l[k].vs:=by
 obtain⟨xs,rfl,h2,h3⟩:=s
 rw[List.length_map]at hk
 rcases h2 with⟨_,e,_⟩|⟨b,off,cap,pre,spare,g1,rfl,g3,g4,g5,g6,g7⟩
 ·omega
 refine⟨xs[k].2,b,off,cap,by rw[List.length_map],by rw[List.length_map];exact g7,Za g3,?_,?_⟩
 ·have hlen:∀x,(NC x).length=14:=fun x=>rfl
  have hle:k*14+14≤xs.length*14:=by omega
  rw[Z5 g3 (by simp only[List.length_append];omega),←g4,List.drop_append,List.drop_of_length_le (by omega),List.nil_append,Nat.add_sub_cancel_left]
  rw[List.drop_append_of_le_length (by omega),List.take_append_of_le_length (by rw[List.length_drop];omega)]
  rw[Vv hlen xs k (by omega),List.drop_eq_getElem_cons hk]
  have e1:Zz NC (xs[k] :: xs.drop (k+1))=YR xs[k].1 xs[k].2++Zz NC (xs.drop (k+1)):=by simp[Zz,NC]
  rw[e1,List.getElem_map]
  rfl
 ·rw[List.getElem_map]
  exact h3 _ (List.getElem_mem hk)
theorem fS {o':Ow} {t:Tg} {h':Hp} {xs:List (Y2 × Value)} {v:Value} {k:Nat} (hk:k<xs.length) (h2:Yt o' t 163 14 h' v (xs.length-1) ((Zz NC xs).take (k*14)++(Zz NC xs).drop ((k+1)*14))) (h3:∀x∈xs,U6 o' h' x.2 x.1.vs) :
  Qz o' t h' v ((xs.map (·.1)).eraseIdx k):=by
 have hlen:∀x,(NC x).length=14:=fun x=>rfl
 have el:(xs.eraseIdx k).length=xs.length-1:=by rw[List.length_eraseIdx_of_lt hk]
 refine⟨xs.eraseIdx k,?_,?_,fun x hx=>h3 x (List.mem_of_mem_eraseIdx hx)⟩
 ·rw[List.eraseIdx_eq_take_drop_succ,List.eraseIdx_eq_take_drop_succ,List.map_append,List.map_take,List.map_drop]
 ·rw[el]
  have e1:Zz NC (xs.eraseIdx k)=(Zz NC xs).take (k*14)++(Zz NC xs).drop ((k+1)*14):=by
   rw[Ss hlen xs k (by omega),Vv hlen xs (k+1) (by omega),←Yf,List.eraseIdx_eq_take_drop_succ]
  rw[e1]
  exact h2
theorem ZG.Ha {o o1:Ow} {h h1:Hp} {wb:Nat} {nb:Nat→Nat} {a:WA} {fl fl':List Y2} {bad:Nat→Int} {told:List TV} {v:Value} (W:ZG o h wb nb a fl bad told) (k:Kp (fun t=>t=.Zn) o h o1 h1)
  (hv:Qz o1 .Zn h1 v fl') {e:Option Hp} (w:e=some (h1.setIfInBounds wb (.cells (Y6 bad { a with Zn:=v }).toArray 123))) :
  ∃g,e=some g∧ZG o1 g wb nb { a with Zn:=v } fl' bad told∧Kp (fun t=>t=.world) o1 h1 o1 g:=by
 have b:=W.ZE.Zd k (by intro e;cases e)
 have kk:Kp (fun t=>t=.world) o1 h1 o1 (h1.setIfInBounds wb (.cells (Y6 bad { a with Zn:=v }).toArray 123)):=(Kp.refl k.ZX (fun t=>t=.world)).set b.1 rfl _
 exact⟨_,w,⟨⟨b.1,Zv b.2⟩,(W.nodes.Zd k (by intro e;cases e)).Zd kk (by intro e;cases e),hv.Zd kk (by intro e;cases e),(W.told.Zd k (by intro e;cases e)).Zd kk (by intro e;cases e)⟩,kk⟩
theorem X4.sL {S:Tg→Prop} {o o':Ow} {h h':Hp} {wb:Nat} {Z6:Nat→Nat} {YA oI:WA} {w:Wd} {fl:List Y2} {bad:Nat→Int} {told:List TV} (A:X4 o h wb Z6 YA w) (k:Kp S o h o' h') (hn:∀t,S t→t.of=none) (W:ZG o' h' wb Z6 oI fl bad told) :
  X4 o' h' wb Z6 oI { w with Zn:=fl,bad:=bad,told:=told }:=
 ⟨W,fun i hi=>by obtain⟨a,N⟩:=A.nd i hi;exact⟨a,N.Zd k fun t q e=>by rw[hn t q]at e;cases e⟩⟩
theorem sO {o:Ow} {h:Hp}:∀(xs:List (Y2 × Value)),(∀x∈xs,U6 o h x.2 x.1.vs)→(Zz NC xs).all Z8=true:=by
 intro xs
 induction xs with
 | nil=>intro _;rfl
 | cons x xs ih=>
  intro hx
  have e1:Zz NC (x :: xs)=NC x++Zz NC xs:=by simp[Zz]
  obtain⟨p,c,hw⟩:=(hx x (by simp)).isSlice
  rw[e1,List.all_append,ih (fun y hy=>hx y (by simp[hy])),Bool.and_true]
  unfold NC
  rw[hw];rfl
set_option maxHeartbeats 4000000 in
theorem ng (T:World) (h:Hp) (o:Ow) (wb:Nat) (Z6:Nat→Nat) (YA:WA) (w:Wd) (at':Nat) (comes stays:Bool) (d:Q8 o h) (A:X4 o h wb Z6 YA w) (vg:∀l∈w.Zn,0≤l.to∧l.to<5)
  (qW:w.Zn.length≤1000000000000) (S9:∀i,i<5→(w.nodes i).inbox.length≤1000000000000) :
  Zc Tryz.prog T 78 #[Zp wb,.int .i64 at',.bool comes,.bool stays] h fun v' h'=>∃o' Xq,Kp WT o h o' h'∧X4 o' h' wb Z6 Xq (pick w at' comes stays):=by
 refine Zc.Zi (args:=[_,_,_,_]) Tryz.func78 rfl rfl rfl rfl ?_
 unfold Zp
 have R:=YS A.wd.ZE.2
 have Rf:=R.Zn
 have GF:=Za A.wd.ZE.2
 obtain⟨pf,cf,hf,hfc⟩:=Vw A.wd.Zn
 rw[hf]at Rf
 by_cases hz:w.Zn.length=0
 ·have hp:pick w at' comes stays=w:=by
   unfold pick
   rw[List.getElem?_eq_none (by rw[hz];exact Nat.zero_le _)]
  rw[hp]
  have Fa:(w.Zn.length:Int)=0:=by omega
  simp -implicitDefEqProofs only[go_sem,↓reduceIte,Rf,Fa]
  exact⟨o,YA,Kp.refl d _,A⟩
 have Fa:¬(w.Zn.length:Int)=0:=by omega
 obtain⟨k,hk⟩:=ZA (at'%w.Zn.length)
 have hkl:k<w.Zn.length:=by rw[hk];exact Nat.mod_lt _ (by omega)
 have ek:(at':Int).tmod (w.Zn.length:Int)=(k:Int):=by rw[hk];rfl
 have zc:(k:Int)<w.Zn.length:=by omega
 obtain⟨v,b,off,c,hv,hvc,hb,PV,iv⟩:=bt A.wd.Zn k hkl
 rw[hf]at hv
 simp only[Value.slice.injEq]at hv
 obtain⟨rfl,_,rfl⟩:=hv
 obtain⟨l,hl⟩:=ZA (w.Zn[k])
 rw[←hl]at PV iv
 have hU:l∈w.Zn:=by rw[hl];exact List.getElem_mem hkl
 obtain⟨pw,cw,rfl⟩:=iv.isSlice
 obtain⟨h1,Yw⟩:=ZA (h.push (.cells (YR l (.slice pw l.vs.length cw)).toArray 163):Hp)
 have k1:Kp Qh o h o h1:=by rw[Yw];exact ZY d _
 have x9:ZM o h1 h.size (.cells (YR l (.slice pw l.vs.length cw)).toArray 163):=⟨d _ (Nat.le_refl _),by rw[Yw];exact Zb⟩
 have e0:=Yw.symm
 unfold YR at e0 PV
 have A1:=A.still k1
 have R1:=YS A1.wd.ZE.2
 have R1f:=R1.Zn
 rw[hf]at R1f
 have zd:=Za A1.wd.ZE.2
 have r9:rd h1 ⟨h.size,0,none⟩ 14=some (YR l (.slice pw l.vs.length cw)):=Zq x9.2 rfl
 unfold YR at r9
 have eg:w.Zn[at'%w.Zn.length]? = some l:=by rw[←hk,hl];exact List.getElem?_eq_getElem hkl
 have ep:pick w at' comes stays=if comes=true then QX (if stays=true then w else { w with Zn:=w.Zn.eraseIdx k }) l else (if stays=true then w else { w with Zn:=w.Zn.eraseIdx k }):=by
  unfold pick;rw[eg,hk]
 rw[ep]
 cases stays with
 | true=>
  rw[if_pos rfl]
  cases comes with
  | false=>
   rw[if_neg (by simp)]
   simp -implicitDefEqProofs only[go_sem,↓reduceIte,Rf,Fa,ek,zc,PV,e0]
   exact⟨o,YA,Yc k1,A1⟩
  | true=>
   rw[if_pos rfl]
   have cc:=GJ T h1 o wb Z6 YA w l (.slice pw l.vs.length cw) k1.ZX A1 (iv.Zd k1) (vg l hU) S9
   unfold Zp YR at cc
   simp -implicitDefEqProofs only[go_sem,↓reduceIte,Rf,Fa,ek,zc,PV,e0,r9]
   refine cc.use ?_
   rintro v' g ⟨o',kk,A'⟩
   simp -implicitDefEqProofs only[go_sem,↓reduceIte]
   exact⟨o',YA,(Yc k1).trans (Yc kk),A'⟩
 | false=>
  rw[if_neg (show ¬(false=true) by simp)]
  obtain⟨xs,Qf,Rj,Bp⟩:=A1.wd.Zn
  have GV:xs.length=w.Zn.length:=by rw[←Qf,List.length_map]
  have cd:=EZ T h1 o .Zn YA.Zn xs.length k (Zz NC xs) Rj k1.ZX (sO xs Bp) (by omega) (by omega)
  rw[hf]at cd
  have ek2:(k:Int)+1=((k:Int)+1):=rfl
  simp -implicitDefEqProofs only[go_sem,↓reduceIte,Rf,Fa,ek,zc,PV,e0,R1f]
  refine cd.use ?_
  rintro v2 g2 ⟨L2,k2⟩
  have k2:Kp (fun t=>t=.Zn) o h1 o g2:=k2
  have L3:Qz o .Zn g2 v2 (w.Zn.eraseIdx k):=by
   rw[←Qf]
   exact fS (by omega) L2 (fun x hx=>(Bp x hx).Zd k2)
  have B2:=A1.wd.ZE.Zd k2 (by intro e;cases e)
  obtain⟨p2,c2,rfl,_⟩:=Vw L3
  obtain⟨g3,w3,W3,k3⟩:=A1.wd.Ha k2 L3 ((YS B2.2).GD (.slice p2 (w.Zn.eraseIdx k).length c2) rfl)
  have A3:X4 o g3 wb Z6 { YA with Zn:=.slice p2 (w.Zn.eraseIdx k).length c2 } { w with Zn:=w.Zn.eraseIdx k }:=
   A1.sL (S:=fun t=>t=.Zn∨t=.world) ((k2.mono fun t q=>.inl q).trans (k3.mono fun t q=>.inr q)) (by rintro t (rfl|rfl)<;>rfl) W3
  have ze:=Za B2.2
  have y9:=(x9.Zd k2).Zd k3
  have r9:rd g3 ⟨h.size,0,none⟩ 14=some (YR l (.slice pw l.vs.length cw)):=Zq y9.2 rfl
  unfold YR at r9
  have K3:Kp WT o h o g3:=((Yc k1).trans (Yc k2)).trans (Yc k3)
  cases comes with
  | false=>
   rw[if_neg (show ¬(false=true) by simp)]
   simp -implicitDefEqProofs only[go_sem,↓reduceIte,w3,ze]
   exact⟨o,_,K3,A3⟩
  | true=>
   rw[if_pos rfl]
   have cc:=GJ T g3 o wb Z6 _ _ l (.slice pw l.vs.length cw) k3.ZX A3 (((iv.Zd k1).Zd k2).Zd k3) (vg l hU) S9
   unfold Zp YR at cc
   simp -implicitDefEqProofs only[go_sem,↓reduceIte,w3,ze,r9]
   refine cc.use ?_
   rintro v' g ⟨o',kk,A'⟩
   simp -implicitDefEqProofs only[go_sem,↓reduceIte]
   exact⟨o',_,K3.trans (Yc kk),A'⟩
theorem sQ (rc:List Nat) (now:Int):EU rc now=(Te rc now).C:=by
 unfold EU Te
 split<;>rfl
theorem zf {h:Hp} {wb:Nat} {bad:Nat→Int} {a:WA} (H:h[wb]? = some (.cells (Y6 bad a).toArray 123)) (i:Nat) (hi:i<5) :
  hc h ⟨wb,9+i,none⟩=some (.int .i64 (bad i))∧∀k,Jh h ⟨wb,9+i,none⟩ (.int .i64 k)=some (h.setIfInBounds wb (.cells (Y6 (fun j=>if j=i then k else bad j) a).toArray 123)):=by
 match i,hi with
 | 0,_=>exact⟨Zh H,fun k=>by rw[Yr H,if_pos ⟨by simp[Y6],rfl⟩];rfl⟩
 | 1,_=>exact⟨Zh H,fun k=>by rw[Yr H,if_pos ⟨by simp[Y6],rfl⟩];rfl⟩
 | 2,_=>exact⟨Zh H,fun k=>by rw[Yr H,if_pos ⟨by simp[Y6],rfl⟩];rfl⟩
 | 3,_=>exact⟨Zh H,fun k=>by rw[Yr H,if_pos ⟨by simp[Y6],rfl⟩];rfl⟩
 | 4,_=>exact⟨Zh H,fun k=>by rw[Yr H,if_pos ⟨by simp[Y6],rfl⟩];rfl⟩
theorem nh {i:Nat} (t:Tg) (q:yM i t):Xw i t:=by
 rcases q with rfl|rfl<;>exact .inr (.inr (.inr rfl))
theorem add_same (n:Nd) (x:Cm):(add n x).waiting=n.waiting∧(add n x).me=n.me:=by
 unfold add;split<;>exact⟨rfl,rfl⟩
set_option maxHeartbeats 4000000 in
theorem fU (T:World) (h:Hp) (o:Ow) (wb:Nat) (Z6:Nat→Nat) (YA:WA) (w:Wd) (i:Nat) (rc:List Nat) (v:Value) (d:Q8 o h) (A:X4 o h wb Z6 YA w) (hi:i<5) (oC:(w.nodes i).me=i) (iv:Vz o h v rc) (Qk:VF v) (nX:rc.length≤140737488355328) (tb:DO o h)
  (hq:(w.nodes i).queue.length≤1000000000000) (hl:(w.nodes i).log.length≤1000000000000) (MC:(w.nodes i).waiting.length≤1000000000000) (ht:w.told.length≤1000000000000) (hb:0≤w.bad i∧w.bad i≤1000000000000) :
  Zc Tryz.prog T 75 #[Zp wb,Zp (Z6 i),v] h fun v' h'=>∃o' Xq,Kp WT o h o' h'∧X4 o' h' wb Z6 Xq (VU w i rc):=by
 obtain⟨pv,cv,rfl⟩:=iv.1.isSlice
 refine Zc.Zi (args:=[_,_,_]) Tryz.func75 rfl rfl rfl rfl ?_
 unfold Zp
 obtain⟨a,N⟩:=A.nd i hi
 obtain⟨n,hn⟩:=ZA (w.nodes i)
 unfold VU
 rw[←hn]at N oC hq hl MC ⊢
 have P:=Zy N.ZE.2 N.pt.store.len
 have WX:=Za N.ZE.2
 have Pu:=P.up
 cases hu:n.up with
 | false=>
  rw[hu]at Pu
  rw[if_neg (by simp)]
  simp -implicitDefEqProofs only[go_sem,↓reduceIte,Pu]
  exact⟨o,YA,Kp.refl d _,A⟩
 | true=>
 rw[hu]at Pu
 rw[if_pos rfl]
 have Pl:=P.log
 obtain⟨pl,cl,ML,_⟩:=Yt.isSlice N.pt.log
 have ML:a.log=.slice pl n.log.length cl:=ML
 rw[ML]at Pl
 obtain⟨E,hE⟩:=ZA (Xf rc n.log.length)
 obtain⟨x,hx⟩:=ZA (Te rc n.log.length)
 have co:=mw T h (.slice pv rc.length cv) rc n.log.length iv.bs Qk nX tb.tk tb.tn
 rw[sQ,←hE,←hx]at co
 rw[←hE,←hx]
 simp -implicitDefEqProofs only[go_sem,↓reduceIte,Pu,Pl]
 refine co.use ?_
 rintro _ g ⟨rfl,b⟩
 have kb:=ZD d b
 obtain⟨g1,Oa⟩:=ZA (g.push (.cells x.C.toArray 47):Hp)
 have e1:=Oa.symm
 have k1:Kp Qh o h o g1:=by rw[Oa];exact kb.push _
 have x6:ZM o g1 g.size (.cells x.C.toArray 47):=⟨kb.ZX _ (Nat.le_refl _),by rw[Oa];exact Zb⟩
 have A1:=A.still k1
 have N1:=N.still k1
 have P1:=Zy N1.ZE.2 N1.pt.store.len
 have zh:=P1.me
 rw[oC]at zh
 have Jx:=Za N1.ZE.2
 have zd:=Za A1.wd.ZE.2
 obtain⟨br,bw⟩:=zf A1.wd.ZE.2 i hi
 have r6:rd g1 ⟨g.size,0,none⟩ 5=some x.C:=Zq x6.2 rfl
 have l6:=Za x6.2
 have aC:(i:Int)<5:=by omega
 by_cases hz:E=0
 case neg=>
  rw[if_pos (by simpa using hz)]
  simp -implicitDefEqProofs only[go_sem,↓reduceIte,e1,hz]
  refine VS.z (g1.size) [15] (.p 0 (.p 1 (.p 2 (.p 3 (.q 4 (.p 5 (.p 6 (.p 7 (.p 8 (.q 9 (.p 10 (.p 11 (.p 12 (.p 13 (.p 14 (.w 15 .nil)))))))))))))))) mixed (by kernel_rfl) ?_
  simp -implicitDefEqProofs only[go_sem,↓reduceIte,zh,Jx,zd,aC,br,bw]
  have kk:Kp (fun t=>t=.world) o g1 o (g1.setIfInBounds wb (.cells (Y6 (fun j=>if j=i then w.bad i+1 else w.bad j) YA).toArray 123)):=(Kp.refl k1.ZX (fun t=>t=.world)).set A1.wd.ZE.1 rfl _
  exact⟨o,YA,(Yc k1).trans (Yc kk),A1.sL kk (by rintro t rfl;rfl) ⟨⟨A1.wd.ZE.1,Zv A1.wd.ZE.2⟩,A1.wd.nodes.Zd kk (by intro e;cases e),A1.wd.Zn.Zd kk (by intro e;cases e),A1.wd.told.Zd kk (by intro e;cases e)⟩⟩
 rw[if_neg (by simpa using hz)]
 have P1l:hc g1 ⟨Z6 i,11,none⟩=some a.log:=P1.log
 simp -implicitDefEqProofs only[go_sem,↓reduceIte,e1,hz]
 obtain⟨J,hJ⟩:=ZA (Vu n.log x)
 refine VS.mono (N:=fun F' g'=>Zg g1.size g1 g'∧F' 0=.pointer (some ⟨wb,0,none⟩)∧F' 1=.pointer (some ⟨Z6 i,0,none⟩)∧F' 6=.pointer (some ⟨g.size,0,none⟩)∧F' 8=.int .i64 J) ?_ ?_ (fun _ _ _ h=>h) (fun _ _ h=>h)
 ·refine VS.z (g1.size) [5] (.p 0 (.p 1 (.p 2 (.q 3 (.q 4 (.w 5 (.p 6 .nil))))))) mixed (by kernel_rfl) ?_
  simp -implicitDefEqProofs only[go_sem,↓reduceIte,P1l,r6,Jx,l6]
  refine (L1 T g1 _ n.log x N1.pt.log.ts (by omega)).use ?_
  rintro _ g2 ⟨rfl,b2⟩
  simp -implicitDefEqProofs only[go_sem,↓reduceIte,b2,hJ]
 rintro F2 g2 ⟨b2,f0,f1,f6,f8⟩
 have SF:=ZD k1.ZX b2
 have A2:=A1.still SF
 have N2:=N1.still SF
 have y6:=x6.Zd SF
 have K2:Kp Qh o h o g2:=k1.trans SF
 have P2:=Zy N2.ZE.2 N2.pt.store.len
 have fQ:=P2.me
 rw[oC]at fQ
 have JD:=Za N2.ZE.2
 have ze:=Za A2.wd.ZE.2
 have r62:rd g2 ⟨g.size,0,none⟩ 5=some x.C:=Zq y6.2 rfl
 have l62:=Za y6.2
 clear r6 l6 Jx zd br bw P1 zh P1l e1
 by_cases hm:x∈n.log
 ·have hJ0:0≤J:=by rw[hJ];exact (PS _ _).2 hm
  rw[if_pos hm]
  have call:=fun G=>aS T G n.store N2.pt.store x
  have P2s:rd g2 ⟨Z6 i,12,none⟩ 40=some n.store:=P2.store
  obtain⟨D,yO⟩:=ZA (GA n.store x)
  obtain⟨E2,fE⟩:=ZA (PK n.store x)
  obtain⟨c1,Ur⟩:=ZA (Rr n.store x)
  obtain⟨c2,Iu⟩:=ZA (LU n.store x)
  have hD:=N2.pt.store.do x
  rw[←yO]at hD
  rw[←yO,←fE,←Ur,←Iu]at call
  rw[←Ur,←Iu]
  have NK:=hD.len
  have DP:=hD.one
  unfold Wx at call
  have Hn:=ZO (zs:=Jr) (vs:=D) (by rw[NK];rfl)
  unfold Jr at Hn
  simp only[rep,List.cons_append,List.nil_append]at Hn
  have wA:∀(G:Hp) (k:Nat),G[k]? = some (.cells Jr.toArray 61)→wr G ⟨k,0,none⟩ D=some (G.setIfInBounds k (.cells D.toArray 61)):=fun G k hx=>by
   rw[ZR hx 0 D,ZO (by rw[NK];rfl),if_pos ⟨by rw[NK];simp[Jr,rep],DP⟩]
  have wB:∀(G:Hp) (k:Nat),G[k]? = some (.cells [.int .i64 0,.int .i64 0].toArray 40)→wr G ⟨k,0,none⟩ [.int .i64 c1,.int .i64 c2]=some (G.setIfInBounds k (.cells [.int .i64 c1,.int .i64 c2].toArray 40)):=fun G k hx=>by
   rw[ZR hx 0 _];rfl
  have gl:∀(G:Hp) (X Y:Obj),((G.push X).push Y)[G.size]? = some X:=fun G X Y=>by rw[Zs (by simp),Zb]
  have gs:∀(G:Hp) (k:Nat) (X Y:Obj),((G.setIfInBounds k X).push Y)[G.size]? = some Y:=fun G k X Y=>by
   have:=Zb (h:=G.setIfInBounds k X) (o:=Y);rwa [Array.size_setIfInBounds]at this
  have gl':=gs
  have gr:∀(G:Hp) (X Y:Obj),((G.push X).push Y)[G.size+1]? = some Y:=fun G X Y=>by
   have:=Zb (h:=G.push X) (o:=Y);rwa [Array.size_push]at this
  simp -implicitDefEqProofs only[go_sem,↓reduceIte,f8,hJ0]
  refine VS.mono (N:=fun F' g'=>Zg g2.size g2 g'∧F' 0=.pointer (some ⟨wb,0,none⟩)∧F' 1=.pointer (some ⟨Z6 i,0,none⟩)∧F' 6=.pointer (some ⟨g.size,0,none⟩)∧∃B,F' 10=.pointer (some ⟨B,0,none⟩)∧g2.size≤B∧g'[B]? = some (.cells [.int .i64 c1,.int .i64 c2].toArray 40)) ?_ ?_ (fun _ _ _ h=>h) (fun _ _ h=>h)
  ·refine VS.z (g2.size) [5,12,13] (.p 0 (.p 1 (.p 2 (.q 3 (.q 4 (.or 5 (.p 6 (.p 7 (.p 8 (.p 9 (.or 10 (.s 11 (.w 12 (.w 13 (.p 14 .nil)))) (.s 11 (.s 10 (.w 12 (.w 13 (.p 14 .nil)))))))))) (.or 10 (.or 5 (.p 6 (.p 7 (.p 8 (.p 9 (.s 11 (.w 12 (.w 13 (.p 14 .nil)))))))) (.s 11 (.w 5 (.p 6 (.p 7 (.p 8 (.p 9 (.w 12 (.w 13 (.p 14 .nil)))))))))) (.s 11 (.or 5 (.p 6 (.p 7 (.p 8 (.p 9 (.s 10 (.w 12 (.w 13 (.p 14 .nil)))))))) (.s 10 (.w 5 (.p 6 (.p 7 (.p 8 (.p 9 (.w 12 (.w 13 (.p 14 .nil)))))))))))))))))) mixed (by kernel_rfl) ?_
   simp -implicitDefEqProofs only[go_sem,↓reduceIte,f0,f1,f6,P2s,JD,l62,r62]
   repeat' (first|with_reducible exact Zg.refl _ _|with_reducible exact Zg.push (by omega) _|with_reducible refine And.intro ?_ ?_)
   all_goals first
    | (refine (call g2).use ?_
       rintro _ g5 ⟨rfl,b5⟩
       have s5:=b5.size
       simp -implicitDefEqProofs only[go_sem,↓reduceIte,b5,NK,DP,Hn]
       refine⟨⟨f0,f1,f6,_,rfl,by omega,gr _ _ _⟩,⟨f0,f1,f6,_,rfl,s5,gl _ _ _⟩⟩)
    | (refine (call (g2.push (.cells _ 61))).use ?_
       rintro _ g5 ⟨rfl,b5⟩
       have s5:=b5.size
       rw[Array.size_push]at s5
       have B5:Zg g2.size g2 g5:=(Zg.push (Nat.le_refl _) _).trans (b5.mono (by simp))
       have xA:=b5.get (k:=g2.size) (by simp) Zb
       have Tb:=wA _ _ xA
       have zA:=Za xA
       simp -implicitDefEqProofs only[go_sem,↓reduceIte,B5,NK,DP,Tb,zA]
       exact⟨f0,f1,f6,_,rfl,by omega,gs _ _ _ _⟩)
    | (refine (call (g2.push (.cells _ 40))).use ?_
       rintro _ g5 ⟨rfl,b5⟩
       have s5:=b5.size
       rw[Array.size_push]at s5
       have B5:Zg g2.size g2 g5:=(Zg.push (Nat.le_refl _) _).trans (b5.mono (by simp))
       have xB:=b5.get (k:=g2.size) (by simp) Zb
       have L9:=wB _ _ xB
       have zB:=Za xB
       have gB:=Zv (o:=.cells [.int .i64 c1,.int .i64 c2].toArray 40) xB
       simp -implicitDefEqProofs only[go_sem,↓reduceIte,B5,NK,DP,L9,Hn,zB]
       exact⟨f0,f1,f6,_,rfl,Nat.le_refl _,by rw[Zs (by simpa using zB)];exact gB⟩)
    | (refine (call ((g2.push (.cells _ 61)).push (.cells _ 40))).use ?_
       rintro _ g5 ⟨rfl,b5⟩
       have s5:=b5.size
       rw[Array.size_push,Array.size_push]at s5
       have B5:Zg g2.size g2 g5:=((Zg.push (Nat.le_refl _) _).Yh (by simp) _).trans (b5.mono (by simp;omega))
       have xA:=b5.get (k:=g2.size) (by simp;omega) (gl _ _ _)
       have xB:=b5.get (k:=g2.size+1) (by simp) (gr _ _ _)
       have Tb:=wA _ _ xA
       have zA:=Za xA
       have OJ:=(Yi (o:=.cells D.toArray 61) (show g2.size≠g2.size+1 by omega)).trans xB
       have L9:=wB _ _ OJ
       have zB:=Za OJ
       simp -implicitDefEqProofs only[go_sem,↓reduceIte,B5,NK,DP,Tb,zA,L9,zB]
       exact⟨f0,f1,f6,_,rfl,by omega,Zv OJ⟩)
    | (refine (call ((g2.push (.cells _ 40)).push (.cells _ 61))).use ?_
       rintro _ g5 ⟨rfl,b5⟩
       have s5:=b5.size
       rw[Array.size_push,Array.size_push]at s5
       have B5:Zg g2.size g2 g5:=((Zg.push (Nat.le_refl _) _).Yh (by simp) _).trans (b5.mono (by simp;omega))
       have xB:=b5.get (k:=g2.size) (by simp;omega) (gl _ _ _)
       have xA:=b5.get (k:=g2.size+1) (by simp) (gr _ _ _)
       have Tb:=wA _ _ xA
       have zA:=Za xA
       have OJ:=(Yi (o:=.cells D.toArray 61) (show g2.size+1≠g2.size by omega)).trans xB
       have L9:=wB _ _ OJ
       have zB:=Za OJ
       simp -implicitDefEqProofs only[go_sem,↓reduceIte,B5,NK,DP,Tb,zA,L9,zB]
       exact⟨f0,f1,f6,_,rfl,by omega,Zv OJ⟩)
  clear f0 f1 f6 f8
  rintro F5 g5 ⟨b5,f0,f1,f6,B,f10,hB,yB⟩
  have I5:=ZD K2.ZX b5
  have A5:=A2.still I5
  have N5:=N2.still I5
  have z6:=y6.Zd I5
  have K5:Kp Qh o h o g5:=K2.trans I5
  have xB:ZM o g5 B (.cells [.int .i64 c1,.int .i64 c2].toArray 40):=⟨K2.ZX _ hB,yB⟩
  have Zng:=(Zy N5.ZE.2 N5.pt.store.len).me
  have Ru:=Za N5.ZE.2
  have U5:=YS A5.wd.ZE.2
  have Ap:=Za A5.wd.ZE.2
  have rx1:hc g5 ⟨g.size,1,none⟩=some (.int .i64 x.c):=Zh z6.2
  have rx2:hc g5 ⟨g.size,2,none⟩=some (.int .i64 x.s):=Zh z6.2
  have rB:rd g5 ⟨B,0,none⟩ 2=some [.int .i64 c1,.int .i64 c2]:=Zq yB rfl
  have zx:=Za z6.2
  have zB:=Za yB
  refine VS.z (g5.size) [17,21] (.p 0 (.p 1 (.p 2 (.p 3 (.p 4 (.q 5 (.p 6 (.p 7 (.p 8 (.q 9 (.p 10 (.q 11 (.p 12 (.q 13 (.q 14 (.p 15 (.s 16 (.w 17 (.p 18 (.p 19 (.p 20 (.w 21 .nil)))))))))))))))))))))) mixed (by kernel_rfl) ?_
  simp -implicitDefEqProofs only[go_sem,↓reduceIte,f0,f1,f6,f10,U5.told,Zng,rx1,rx2,rB,Ru,Ap,zx,zB]
  have k6:=ZY K5.ZX (.cells (L0 ⟨n.me,x.c,x.s,c1,c2⟩).toArray 42)
  have A6:=A5.still k6
  refine NJ (l:=w.told) (x:=⟨n.me,x.c,x.s,c1,c2⟩) A6.wd.told k6.ZX Zb ht ?_
  intro p7 c7 o7 g7 q7 k7
  have b7:=A6.wd.ZE.Zd k7 (by intro e;cases e)
  obtain⟨g8,w8,W8,k8⟩:=A6.wd.aT k7 q7 ((YS b7.2).uU (.slice p7 _ c7) rfl)
  have z7:=Za b7.2
  simp -implicitDefEqProofs only[go_sem,↓reduceIte,w8,z7]
  have A8:=A6.sL (S:=fun t=>t=.told∨t=.world) ((k7.mono fun t q=>.inl q).trans (k8.mono fun t q=>.inr q)) (by rintro t (rfl|rfl)<;>rfl) W8
  exact⟨o7,_,(((Yc K5).trans (Yc k6)).trans (Yc k7)).trans (Yc k8),A8⟩
 ·have hJ0:¬0≤J:=by rw[hJ];exact fun e=>hm ((PS _ _).1 e)
  rw[if_neg hm]
  have ca:=mH T g2 o wb i (Z6 i) a n x K2.ZX N2 hq hl
  unfold Zp Wx at ca
  simp -implicitDefEqProofs only[go_sem,↓reduceIte,f1,f6,f8,hJ0,r62]
  refine ca.use ?_
  rintro v3 g3 ⟨o3,a3,k3,N3⟩
  have k3a:Kp (Xw i) o g2 o3 g3:=k3.mono nh
  obtain⟨aw,am⟩:=add_same n x
  obtain⟨m,qP⟩:=ZA (add n x)
  rw[←qP]at N3 aw am ⊢
  have W3:=A2.wd.Zd k3 (by rintro t (rfl|rfl)<;>simp[Tg.of])
  have z6:=y6.Zd k3
  have P3:=Zy N3.ZE.2 N3.pt.store.len
  have P3w:hc g3 ⟨Z6 i,53,none⟩=some a3.waiting:=P3.waiting
  have Rt:=Za N3.ZE.2
  have r63:rd g3 ⟨g.size,0,none⟩ 5=some x.C:=Zq z6.2 rfl
  have l63:=Za z6.2
  have hmw:m.waiting.length≤1000000000000:=by rw[aw];exact MC
  have K3:Kp WT o h o3 g3:=(Yc K2).trans (Yc k3)
  simp -implicitDefEqProofs only[go_sem,↓reduceIte]
  refine VS.mono (N:=fun F' g'=>Zg g3.size g3 g'∧F' 1=.pointer (some ⟨Z6 i,0,none⟩)∧F' 6=.pointer (some ⟨g.size,0,none⟩)∧F' 92=.bool (!decide (x∈m.waiting))) ?_ ?_ (fun _ _ _ h=>h) (fun _ _ h=>h)
  ·refine VS.z (g3.size) [5] (.p 0 (.p 1 (.p 2 (.q 3 (.q 4 (.w 5 (.p 6 .nil))))))) mixed (by kernel_rfl) ?_
   simp -implicitDefEqProofs only[go_sem,↓reduceIte,f1,f6,P3w,r63,Rt,l63]
   refine (WQ T g3 _ m.waiting x N3.pt.waiting.ts (by omega)).use ?_
   rintro _ g4 ⟨rfl,b4⟩
   simp -implicitDefEqProofs only[go_sem,↓reduceIte,b4]
   exact⟨f1,f6⟩
  clear f0 f1 f6
  rintro F4 g4 ⟨b4,f1,f6,f92⟩
  have kb4:=ZD K3.ZX b4
  have N4:=N3.still kb4
  have W4:=W3.still kb4
  have k4a:Kp (Xw i) o g2 o3 g4:=k3a.trans (ZF kb4)
  have K4:Kp WT o h o3 g4:=K3.trans (Yc kb4)
  by_cases sR:x∈m.waiting
  ·have e5:OF m x=m:=by unfold OF;rw[if_pos sR]
   rw[e5]
   simp -implicitDefEqProofs only[go_sem,↓reduceIte,f92,sR]
   exact⟨o3,_,K4,A2.Xj k4a N4 W4⟩
  ·have e5:OF m x = { m with waiting:=m.waiting++[x] }:=by unfold OF;rw[if_neg sR]
   rw[e5]
   have q6:=z6.Zd kb4
   have P4w:=(Zy N4.ZE.2 N4.pt.store.len).waiting
   obtain⟨pw,cw,hpw,_⟩:=Yt.isSlice N4.pt.waiting
   have hpw:a3.waiting=.slice pw m.waiting.length cw:=hpw
   have P4w:hc g4 ⟨Z6 i,53,none⟩=some (.slice pw m.waiting.length cw):=by rw[←hpw];exact P4w
   have Mb:=Za N4.ZE.2
   have r64:rd g4 ⟨g.size,0,none⟩ 5=some x.C:=Zq q6.2 rfl
   have l64:=Za q6.2
   simp -implicitDefEqProofs only[go_sem,↓reduceIte,f92,sR]
   refine VS.z (g4.size) [7,10] (.p 0 (.p 1 (.p 2 (.p 3 (.q 4 (.q 5 (.s 6 (.w 7 (.p 8 (.p 9 (.w 10 .nil))))))))))) mixed (by kernel_rfl) ?_
   simp -implicitDefEqProofs only[go_sem,↓reduceIte,f1,f6,P4w,r64,Mb,l64]
   have k5:=ZY K4.ZX (.cells x.C.toArray 47)
   have N5:=N4.still k5
   have W5:=W4.still k5
   have Q5:=N5.pt.waiting
   rw[hpw]at Q5
   refine OH (l:=m.waiting) Q5 k5.ZX Zb hmw ?_
   intro p6 c6 o6 g6 q7 k6
   have b6:=N5.ZE.Zd k6 (by intro e;cases e)
   obtain⟨g7,w7,N7,k7⟩:=(N5.pt.NF k6 q7).write k6.ZX b6 ((YK b6.2 N5.pt.store.len).waiting (.slice p6 (m.waiting.length+1) c6) rfl)
   have mX:=Za b6.2
   simp -implicitDefEqProofs only[go_sem,↓reduceIte,w7,mX]
   have kk:Kp (Xw i) o g2 o6 g7:=((k4a.trans (ZF k5)).trans (k6.mono fun t q=>.inr (.inr (.inr (by rw[q];rfl))))).trans (k7.mono fun t q=>.inr (.inr (.inr (by rw[q];rfl))))
   exact⟨o6,_,(Yc K2).trans (Yc kk),A2.Xj kk N7 ((W5.Zd k6 (by rintro t rfl;simp[Tg.of])).Zd k7 (by rintro t rfl;simp[Tg.of]))⟩
def Kd (i:Nat) (t:Tg):Prop:=t=.node i∨t=.known i
set_option maxHeartbeats 4000000 in
theorem Ke (T:World) (h:Hp) (o:Ow) (wb i:Nat) (dv:Value) (Aq:List Nat) (Xe:Int) (vv:Value) (Wc:Ww) (d:Q8 o h) (iD:Vz o h dv Aq) (iV:U6 o h vv Wc.l) :
  Zc Tryz.prog T 74 #[.int .i64 i,.agg #[dv,.int .i64 Xe],.agg #[.int .i64 Wc.p.r,.int .i64 Wc.p.n,vv]] h fun v' h'=>∃nb o' a',v'=Zp nb∧Zg h.size h h'∧Kp (Kd i) o h o' h'∧ZJ o' h' wb i nb a' (blank i true Aq Xe Wc):=by
 obtain⟨pd,cd,rfl⟩:=iD.1.isSlice
 obtain⟨pv,cv,rfl⟩:=iV.isSlice
 refine Zc.Zi (args:=[_,_,_]) Tryz.func74 rfl rfl rfl rfl ?_
 unfold Zp
 obtain⟨h1,Yw⟩:=ZA ((h.push (.cells [.slice pd Aq.length cd,.int .i64 Xe].toArray 126)).push (.cells [.int .i64 Wc.p.r,.int .i64 Wc.p.n,.slice pv Wc.l.length cv].toArray 131):Hp)
 have k1:Kp Qh o h o h1:=by rw[Yw];exact ((Kp.refl d _).push _).push _
 have x4:ZM o h1 h.size (.cells [.slice pd Aq.length cd,.int .i64 Xe].toArray 126):=⟨d _ (Nat.le_refl _),by rw[Yw];exact fD _ _ _⟩
 have x5:ZM o h1 (h.size+1) (.cells [.int .i64 Wc.p.r,.int .i64 Wc.p.n,.slice pv Wc.l.length cv].toArray 131):=⟨d _ (by omega),by rw[Yw];exact gY _ _ _⟩
 have e0:=Yw.symm
 have r4:rd h1 ⟨h.size,0,none⟩ 2=some [.slice pd Aq.length cd,.int .i64 Xe]:=Zq x4.2 rfl
 have r5:rd h1 ⟨h.size+1,0,none⟩ 3=some [.int .i64 Wc.p.r,.int .i64 Wc.p.n,.slice pv Wc.l.length cv]:=Zq x5.2 rfl
 simp -implicitDefEqProofs only[go_sem,↓reduceIte,e0,r4,r5]
 obtain⟨A,hA⟩:∃A:NA,A=⟨.slice pd Aq.length cd,.slice pv Wc.l.length cv,none,h1.size,.slice none 0 0,.slice none 0 0,.slice none 0 0,.slice none 0 0,.nilFunc⟩:=⟨_,rfl⟩
 obtain⟨h2,U3⟩:=ZA (h1.push (Xi []):Hp)
 obtain⟨h3,ov⟩:=ZA (h2.push (Y8 (blank i true Aq Xe Wc) A):Hp)
 have s2:h2.size=h1.size+1:=by rw[U3];simp
 have ee:h3=(h1.push (.map #[] 0)).push (Y8 (blank i true Aq Xe Wc) A):=by rw[ov,U3];rfl
 rw[hA]at ee
 refine⟨h1.size+1,Jj (Jj o h1.size (.known i)) (h1.size+1) (.node i),A,rfl,?_⟩
 have k2:Kp (Kd i) o h1 (Jj o h1.size (.known i)) h2:=by rw[U3];exact ((Kp.refl k1.ZX _).push _).Ty (Nat.le_refl _) (by simp) (.inr rfl)
 have k3:Kp (Kd i) o h1 (Jj (Jj o h1.size (.known i)) (h1.size+1) (.node i)) h3:=by rw[ov];exact (k2.push _).Ty (by omega) (by rw[Array.size_push];omega) (.inl rfl)
 have kx:Kp (fun t=>t=.node i) (Jj o h1.size (.known i)) h2 (Jj (Jj o h1.size (.known i)) (h1.size+1) (.node i)) h3:=by rw[ov];exact ((Kp.refl k2.ZX _).push _).Ty (by omega) (by rw[Array.size_push];omega) rfl
 have m2:J9 (Jj o h1.size (.known i)) (.known i) h2 h1.size (Ue Wx []):=⟨YT,by rw[U3];exact Zb⟩
 have iD3:=(iD.Zd k1).Zd k3
 have iV3:=(iV.Zd k1).Zd k3
 have K3:Kp (Kd i) o h (Jj (Jj o h1.size (.known i)) (h1.size+1) (.node i)) h3:=(ZF k1).trans k3
 have st:PO Jr:=PO.mJ (by kernel_rfl)
 show Zg h.size h ((h1.push (.map #[] 0)).push (Y8 (blank i true Aq Xe Wc) ⟨.slice pd Aq.length cd,.slice pv Wc.l.length cv,none,h1.size,.slice none 0 0,.slice none 0 0,.slice none 0 0,.slice none 0 0,.nilFunc⟩))∧Kp (Kd i) o h _ ((h1.push (.map #[] 0)).push (Y8 (blank i true Aq Xe Wc) ⟨.slice pd Aq.length cd,.slice pv Wc.l.length cv,none,h1.size,.slice none 0 0,.slice none 0 0,.slice none 0 0,.slice none 0 0,.nilFunc⟩))∧ZJ _ ((h1.push (.map #[] 0)).push (Y8 (blank i true Aq Xe Wc) ⟨.slice pd Aq.length cd,.slice pv Wc.l.length cv,none,h1.size,.slice none 0 0,.slice none 0 0,.slice none 0 0,.slice none 0 0,.nilFunc⟩)) wb i (h1.size+1) A (blank i true Aq Xe Wc)
 rw[←ee]
 refine⟨by rw[ov,U3,Yw];exact ((((Zg.refl _ _).add _).add _).add _).add _,K3,⟨YT,by rw[ov,←s2];exact Zb⟩,?_⟩
 rw[hA]
 exact⟨iD3,iV3,trivial,m2.Zd kx (by intro e;cases e),Yt.nil _ _ _ _ _,Yt.nil _ _ _ _ _,Yt.nil _ _ _ _ _,⟨[],rfl,Yt.nil _ _ _ _ _,fun x hx=>by cases hx⟩,rfl,st⟩
theorem Dm {S:Tg→Prop} {o o':Ow} {h h':Hp} (k:Kp S o h o' h') {b:Nat} {t u:Tg} (hb:o' b=some t) (ht:S t) (hu:S u):Kp S o h (Jj o' b u) h':=by
 refine⟨k.size,fun c hc hn=>⟨(k.Zd c hc hn).1,?_⟩,fun c hc v hv hs=>?_,fun c hc v hv=>?_,fun c hc=>?_⟩
 ·by_cases e:c=b
  ·subst e
   have:=(k.Zd c hc hn).2
   rw[hb]at this
   exact (hn t this.symm ht).elim
  ·rw[YZ e];exact (k.Zd c hc hn).2
 ·by_cases e:c=b
  ·subst e;exact⟨u,YT,hu⟩
  ·rw[YZ e];exact k.stay c hc v hv hs
 ·by_cases e:c=b
  ·subst e;rw[YT]at hv;cases hv;exact hu
  ·rw[YZ e]at hv;exact k.new c hc v hv
 ·by_cases e:c=b
  ·subst e;rw[k.ZX c hc]at hb;cases hb
  ·rw[YZ e];exact k.ZX c hc
def Kf (i:Nat) (t:Tg):Prop:=t=.Zj i∨t=.prom i∨t=.Xk i
theorem fV {o:Ow} {h:Hp} {wb i nb:Nat} {a:NA} {n:Nd} (d:Q8 o h) (N:ZJ o h wb i nb a n) :
  ∃o',Kp (Kf i) o h o' h∧ZV o' h wb i nb { a with Zj:=none } { n with Zj:=none,ZS:=Xk n.ZS }∧o' nb=some (.node i):=by
 have key:∀o',Kp (Kf i) o h o' h→Q7 o' h wb i nb none a.ZS (Xk n.ZS)→ZV o' h wb i nb { a with Zj:=none } { n with Zj:=none,ZS:=Xk n.ZS }:=fun o' k p=>
  ⟨N.pt.data.Zd k,N.pt.YG.Zd k,trivial,N.pt.known.Zd k (by rintro (e|e|e)<;>cases e),N.pt.log.Zd k (by rintro (e|e|e)<;>cases e),N.pt.queue.Zd k (by rintro (e|e|e)<;>cases e),N.pt.waiting.Zd k (by rintro (e|e|e)<;>cases e),N.pt.inbox.Zd k (by rintro (e|e|e)<;>cases e),p,N.pt.store⟩
 have hp:=N.pt.ZS
 have hR:=N.pt.Zj
 cases OK:a.Zj with
 | none=>
  rw[OK]at hp
  refine⟨o,Kp.refl d _,key o (Kp.refl d _) ?_,N.ZE.1⟩
  match hn:n.ZS,hp with
  | none,hp=>exact hp
  | some (.Gy _ _ _ _),hp=>exact hp
  | some (.Gz _ _ _),hp=>exact hp
  | some (.own _ _ false),hp=>exact hp
  | some (.own _ _ true),⟨b6,b4,b7,b5,w,rb,h1,h2,h3,h4,h5,h6,a',h7,_⟩=>cases h7
 | some ra=>
  rw[OK]at hp hR
  obtain⟨r,hr⟩:∃r,n.Zj=some r:=by
   cases hx:n.Zj with
   | none=>rw[hx]at hR;exact hR.elim
   | some r=>exact⟨r,rfl⟩
  rw[hr]at hR
  have hR:YC o i h ra r:=hR
  have Ys:ra.rb≠ra.pb:=fun e=>by
   have h1:=hR.ZE.1;have h2:=hR.prom.1
   rw[e,h2]at h1;cases h1
  have k1:Kp (Kf i) o h (Jj o ra.rb (.Xk i)) h:=Dm (Kp.refl d (Kf i)) hR.ZE.1 (.inl rfl) (.inr (.inr rfl))
  have nT:Jj o ra.rb (.Xk i) ra.pb=some (.prom i):=by rw[YZ (fun e=>Ys e.symm)];exact hR.prom.1
  have k2:Kp (Kf i) o h (Jj (Jj o ra.rb (.Xk i)) ra.pb (.Xk i)) h:=Dm k1 nT (.inr (.inl rfl)) (.inr (.inr rfl))
  obtain⟨o2,om⟩:=ZA (Jj (Jj o ra.rb (.Xk i)) ra.pb (.Xk i))
  rw[←om]at k2
  have s1:o2 ra.rb=some (.Xk i):=by rw[om,YZ Ys];exact YT
  have s2:o2 ra.pb=some (.Xk i):=by rw[om];exact YT
  have so:∀b,b≠ra.rb→b≠ra.pb→o2 b=o b:=fun b e1 e2=>by rw[om,YZ e2,YZ e1]
  have sst:∀b,o b=some (.Xk i)→o2 b=some (.Xk i):=fun b hb=>by
   by_cases e1:b=ra.rb
   ·rw[e1];exact s1
   ·by_cases e2:b=ra.pb
    ·rw[e2];exact s2
    ·rw[so b e1 e2];exact hb
  have WX:o2 nb=some (.node i):=by
   rw[so nb (fun e=>by have:=N.ZE.1;rw[e,hR.ZE.1]at this;cases this) (fun e=>by have:=N.ZE.1;rw[e,hR.prom.1]at this;cases this)]
   exact N.ZE.1
  refine⟨o2,k2,key o2 k2 ?_,WX⟩
  match hn:n.ZS,hp with
  | none,hp=>exact hp
  | some (.Gy a to b vs),⟨b6,b4,b9,u,h1,h2,h3,h4,h5⟩=>exact⟨b6,b4,b9,u,h1,h2.Zd k2,h3.Zd k2,h4.Zd k2,h5.Zd k2⟩
  | some (.Gz a to x),⟨b6,b4,b9,u,h1,h2,h3,h4,h5⟩=>exact⟨b6,b4,b9,u,h1,h2.Zd k2,h3.Zd k2,h4.Zd k2,h5.Zd k2⟩
  | some (.own a vs cur),⟨b6,b4,b7,b5,w,rb,h1,h2,h3,h4,h5,h6,h7⟩=>
   refine⟨b6,b4,b7,b5,w,rb,h1,h2.Zd k2,h3.Zd k2,h4.Zd k2,h5.Zd k2,h6.Zd k2,?_⟩
   rw[if_neg (by simp)]
   cases cur with
   | false=>
    rw[if_neg (by simp)]at h7
    obtain⟨cs,pb,pv,g1,g2,g3⟩:=h7
    exact⟨cs,pb,pv,⟨sst _ g1.1,g1.2⟩,g2,sst _ g3.1,g3.2⟩
   | true=>
    rw[if_pos rfl]at h7
    obtain⟨a',q1,q2⟩:=h7
    obtain rfl:=Option.some.inj q1
    rw[←q2]
    exact⟨_,ra.pb,ra.pv,⟨s1,hR.ZE.2⟩,rfl,s2,hR.prom.2⟩
theorem sU {o:Ow} {h:Hp} {wb i nb:Nat} {ra:Option RA} {v:Value} {p:Option fp} (s:Q7 o h wb i nb none v (Xk p)):Q7 o h wb i nb ra v (Xk p):=by
 match p,s with
 | none,s=>exact s
 | some (.Gy _ _ _ _),s=>exact s
 | some (.Gz _ _ _),s=>exact s
 | some (.own _ _ _),s=>exact s
set_option maxHeartbeats 4000000 in
theorem sV (T:World) (h:Hp) (o:Ow) (wb i nb:Nat) (a:NA) (n:Nd) (d:Q8 o h) (N:ZJ o h wb i nb a n) (hb:n.own.p.r≤1000000000000∧n.heard.r≤1000000000000 ∧ -1000000000000≤n.own.p.r ∧ -1000000000000≤n.heard.r)
  (hr:∀r,n.Zj=some r→r.b.r≤1000000000000 ∧ -1000000000000≤r.b.r) :
  Zc Tryz.prog T 76 #[Zp wb,Zp nb] h fun v' h'=>∃o' a',Kp (fun t=>t.of=some i) o h o' h'∧ZJ o' h' wb i nb a' (lead n):=by
 refine Zc.Mj (args:=#[_,_]) Tryz.func76 rfl rfl rfl ?_
 obtain⟨M,hM⟩:=ZA (max n.own.p.r n.heard.r+1)
 refine VS.seq (VS.mono (N:=fun F' g'=>F' 1=.pointer (some ⟨nb,0,none⟩)∧Zg h.size h g'∧∃kb,h.size≤kb∧F' 4=.pointer (some ⟨kb,0,none⟩)∧g'[kb]? = some (.cells [.int .i64 M,.int .i64 n.me].toArray 128)) ?_ ?_ (fun _ _ _ h=>h) (fun _ _ h=>h))
 ·refine X1 _ _ _ _ _ _ rfl ?_
  unfold Zp
  have P:=Zy N.ZE.2 N.pt.store.len
  have WX:=Za N.ZE.2
  simp -implicitDefEqProofs only[go_sem,↓reduceIte]
  refine VS.z (h.size) [19] (.p 0 (.p 1 (.p 2 (.p 3 (.p 4 (.q 5 (.p 6 (.p 7 (.p 8 (.p 9 (.q 10 (.p 11 (.p 12 (.p 13 (.p 14 (.p 15 (.q 16 (.p 17 (.s 18 (.w 19 .nil)))))))))))))))))))) mixed (by kernel_rfl) ?_
  simp -implicitDefEqProofs only[go_sem,↓reduceIte,P.Zmc,P.yJ,P.me,WX]
  have em:(if n.heard.r>n.own.p.r then n.heard.r else n.own.p.r)+1=M:=by
   rw[hM]
   split<;>omega
  rw[em]
  exact⟨_,Nat.le_refl _,rfl,Zb⟩
 rintro F1 g1 ⟨f1,b1,kb,nR,f4,y4⟩
 refine VS.seq (VS.mono (N:=fun F' g'=>F' 1=.pointer (some ⟨nb,0,none⟩)∧F' 4=.pointer (some ⟨kb,0,none⟩)∧Zg h.size h g'∧g'[kb]? = some (.cells [.int .i64 (J8 n).r,.int .i64 n.me].toArray 128)) ?_ ?_ (fun _ _ _ h=>h) (fun _ _ h=>h))
 ·refine X1 _ _ _ _ _ _ rfl ?_
  have k1:=ZD d b1
  have N1:=N.still k1
  have P1:=Zy N1.ZE.2 N1.pt.store.len
  have zi:=P1.Zj
  have Jx:=Za N1.ZE.2
  have l4:=Za y4
  have r4:hc g1 ⟨kb,0,none⟩=some (.int .i64 M):=Zh y4
  cases OK:a.Zj with
  | none=>
   rw[OK]at zi
   unfold Rs at zi
   have hn:n.Zj=none:=by
    have:=N.pt.Zj
    rw[OK]at this
    cases hx:n.Zj with
    | none=>rfl
    | some r=>rw[hx]at this;exact this.elim
   have e1:(J8 n).r=M:=by unfold J8;rw[hn,hM]
   rw[e1]
   simp -implicitDefEqProofs only[go_sem,↓reduceIte,f1,zi]
   exact⟨f4,b1,y4⟩
  | some ra=>
   rw[OK]at zi
   unfold Rs Zp at zi
   obtain⟨r,hn⟩:∃r,n.Zj=some r:=by
    have:=N.pt.Zj
    rw[OK]at this
    cases hx:n.Zj with
    | none=>rw[hx]at this;exact this.elim
    | some r=>exact⟨r,rfl⟩
   have R1:YC o i g1 ra r:=by have:=N1.pt.Zj;rw[OK,hn]at this;exact this
   have DQ:=Za R1.ZE.2
   have rr0:hc g1 ⟨ra.rb,0,none⟩=some (.int .i64 r.b.r):=Zh R1.ZE.2
   have e1:(J8 n).r=max M (r.b.r+1):=by unfold J8;rw[hn,hM]
   obtain⟨gP,hr2⟩:=hr r hn
   obtain⟨Z,hZ⟩:=ZA ((J8 n).r)
   have hz:(if r.b.r+1>M then r.b.r+1 else M)=Z:=by
    rw[hZ,e1];split<;>omega
   rw[←hZ]
   have w4:Jh g1 ⟨kb,0,none⟩ (.int .i64 Z)=some (g1.setIfInBounds kb (.cells [.int .i64 Z,.int .i64 n.me].toArray 128)):=by rw[Yr y4 0 _];rfl
   simp -implicitDefEqProofs only[go_sem,↓reduceIte,f1,zi]
   refine VS.z (g1.size) [10] (.p 0 (.q 1 (.p 2 (.p 3 (.p 4 (.p 5 (.q 6 (.p 7 (.p 8 (.p 9 (.w 10 .nil))))))))))) mixed (by kernel_rfl) ?_
   simp -implicitDefEqProofs only[go_sem,↓reduceIte,f1,f4,zi,r4,rr0,DQ,l4,hz,w4]
   exact⟨b1.Zm nR _,Zv y4⟩
 clear f1 f4 y4 b1
 rintro F3 g3 ⟨f1,f4,b3,y4⟩
 refine X1 _ _ _ _ _ _ rfl ?_
 have k3:=ZD d b3
 have N3:=N.still k3
 have P3:=Zy N3.ZE.2 N3.pt.store.len
 have P3u:=P3.up
 have Rt:=Za N3.ZE.2
 have l4:=Za y4
 have r4a:hc g3 ⟨kb,0,none⟩=some (.int .i64 (J8 n).r):=Zh y4
 cases hu:n.up with
 | false=>
  rw[hu]at P3u
  have e1:lead n=n:=by unfold lead;rw[if_pos (.inl hu)]
  rw[e1]
  simp -implicitDefEqProofs only[go_sem,↓reduceIte,f1,P3u]
  exact⟨o,a,ZF k3,N3⟩
 | true=>
 rw[hu]at P3u
 by_cases c:65536<(J8 n).r
 ·have e1:lead n=n:=by unfold lead;rw[if_pos (.inr c)]
  rw[e1]
  have c':(J8 n).r>65536:=c
  simp -implicitDefEqProofs only[go_sem,↓reduceIte,f1,f4,P3u,r4a,c,c']
  exact⟨o,a,ZF k3,N3⟩
 have e1:lead n = { n with Zj:=some ⟨J8 n,[],false,[],[]⟩,ZS:=Xk n.ZS }:=by
  unfold lead;rw[if_neg];rintro (e|e)
  ·rw[hu]at e;cases e
  ·exact c e
 rw[e1]
 have c':¬(J8 n).r>65536:=c
 have r4:rd g3 ⟨kb,0,none⟩ 2=some [.int .i64 (J8 n).r,.int .i64 n.me]:=Zq y4 rfl
 obtain⟨o2,k2,sW,JD⟩:=fV k3.ZX N3
 obtain⟨ra,OK⟩:∃ra:RA,ra=⟨g3.size+3,g3.size,g3.size+1,g3.size+2,[],[]⟩:=⟨_,rfl⟩
 obtain⟨r,hr0⟩:∃r:Qg,r=⟨J8 n,[],false,[],[]⟩:=⟨_,rfl⟩
 obtain⟨p1,nT⟩:=ZA (g3.push (Xi []):Hp)
 obtain⟨p2,jN⟩:=ZA (p1.push (Xi []):Hp)
 obtain⟨p3,hp3⟩:=ZA (p2.push (Xi []):Hp)
 obtain⟨p4,zj⟩:=ZA (p3.push (.cells (BX r ra).toArray 181):Hp)
 have s1:p1.size=g3.size+1:=by rw[nT];simp
 have s2:p2.size=g3.size+2:=by rw[jN,Array.size_push,s1]
 have s3:p3.size=g3.size+3:=by rw[hp3,Array.size_push,s2]
 have s4:p4.size=g3.size+4:=by rw[zj,Array.size_push,s3]
 have q1:p4[g3.size]? = some (Xi []):=by rw[zj,Zs (by omega),hp3,Zs (by omega),jN,Zs (by omega),nT];exact Zb
 have q2:p4[g3.size+1]? = some (Xi []):=by rw[zj,Zs (by omega),hp3,Zs (by omega),jN,←s1];exact Zb
 have q3:p4[g3.size+2]? = some (Xi []):=by rw[zj,Zs (by omega),hp3,←s2];exact Zb
 have q4:p4[g3.size+3]? = some (.cells (BX r ra).toArray 181):=by rw[zj,←s3];exact Zb
 have kp:Kp (XA i) o2 g3 o2 p4:=by rw[zj,hp3,jN,nT];exact ((((Kp.refl k2.ZX _).push _).push _).push _).push _
 have ka:=kp.Ty (b:=g3.size) (t:=.prom i) (Nat.le_refl _) (by omega) (.inr (.inl rfl))
 have kb':=ka.Ty (b:=g3.size+1) (t:=.prop i) (by omega) (by omega) (.inr (.inr (.inl rfl)))
 have kc:=kb'.Ty (b:=g3.size+2) (t:=.Jm i) (by omega) (by omega) (.inr (.inr (.inr (.inl rfl))))
 have k5:=kc.Ty (b:=g3.size+3) (t:=.Zj i) (by omega) (by omega) (.inl rfl)
 obtain⟨o5,ho5⟩:=ZA (Jj (Jj (Jj (Jj o2 g3.size (.prom i)) (g3.size+1) (.prop i)) (g3.size+2) (.Jm i)) (g3.size+3) (.Zj i))
 rw[←ho5]at k5
 clear ka kb' kc kp
 have t1:o5 g3.size=some (.prom i):=by rw[ho5,YZ (by omega),YZ (by omega),YZ (by omega)];exact YT
 have t2:o5 (g3.size+1)=some (.prop i):=by rw[ho5,YZ (by omega),YZ (by omega)];exact YT
 have t3:o5 (g3.size+2)=some (.Jm i):=by rw[ho5,YZ (by omega)];exact YT
 have t4:o5 (g3.size+3)=some (.Zj i):=by rw[ho5];exact YT
 have R5:YC o5 i p4 ra r:=by
  rw[OK,hr0]
  rw[OK,hr0]at q4
  exact⟨⟨t4,q4⟩,⟨t1,q1⟩,.nil,⟨t2,q2⟩,⟨t3,q3⟩,.nil,by simp⟩
 have en:∀t:Tg,(t=.known i∨t=.log i∨t=.queue i∨t=.waiting i∨t=.inbox i∨t=.Xk i∨t=.node i)→¬XA i t:=by
  intro t ht hr
  rcases ht with rfl|rfl|rfl|rfl|rfl|rfl|rfl<;>rcases hr with e|e|e|e|⟨s,e⟩<;>cases e
 have pn:Q7 o5 p4 wb i nb (some ra) a.ZS (Xk n.ZS):=sU (sW.ZS.Zd k5 (en _ (by simp)))
 have pt5:ZV o5 p4 wb i nb { a with Zj:=some ra } { n with Zj:=some r,ZS:=Xk n.ZS }:=
  ⟨sW.data.Zd k5,sW.YG.Zd k5,R5,sW.known.Zd k5 (en _ (by simp)),sW.log.Zd k5 (en _ (by simp)),sW.queue.Zd k5 (en _ (by simp)),sW.waiting.Zd k5 (en _ (by simp)),sW.inbox.Zd k5 (en _ (by simp)),pn,sW.store⟩
 have B5:QA o5 (.node i) p4 nb (Y8 n a):=QA.Zd (o:=o2) ⟨JD,N3.ZE.2⟩ k5 (en _ (by simp))
 obtain⟨g6,w6,N6,k6⟩:=ZV.write pt5 k5.ZX B5 ((YK B5.2 N.pt.store.len).Zj (some ra))
 have Ru:=Za B5.2
 have ee:p4=(((g3.push (.map #[] 0)).push (.map #[] 0)).push (.map #[] 0)).push (.cells #[.int .i64 (J8 n).r,.int .i64 n.me,.map (some g3.size),.bool false,.map (some (g3.size+1)),.map (some (g3.size+2))] 181):=by
  rw[zj,hp3,jN,nT,OK,hr0];rfl
 have w6':Jh p4 ⟨nb,9,none⟩ (.pointer (some ⟨g3.size+3,0,none⟩))=some g6:=by rw[←w6,OK];rfl
 have ee':=ee.symm
 rw[hr0]at N6
 simp -implicitDefEqProofs only[go_sem,↓reduceIte,f1,f4,P3u,r4a,c,c',r4,ee',w6',Ru]
 refine⟨o5,_,((ZF k3).trans (k2.mono fun t q=>?_)).trans ((k5.mono fun t q=>OG q).trans (k6.mono fun t q=>by rw[q];rfl)),N6⟩
 rcases q with rfl|rfl|rfl<;>rfl
end Go.Proofs.YtkfhncfkagcamaaGreatDoor
