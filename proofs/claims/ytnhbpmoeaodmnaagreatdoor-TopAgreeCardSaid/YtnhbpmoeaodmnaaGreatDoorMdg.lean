/- What a leader does of its own. -/
import Derived.Test.YtnhbpmoeaodmnaaGreatDoorMoy
namespace Go.Proofs.YtnhbpmoeaodmnaaGreatDoor
open Go Go.V
set_option linter.unusedSimpArgs false
set_option linter.unusedVariables false
set_option maxRecDepth 100000
theorem Qf {α:Type} (f:Nat→List α) (m:Nat):(List.range (m+1)).flatMap f=(List.range m).flatMap f++f m:=by
 rw[List.range_succ,List.flatMap_append];simp
theorem U1 {α:Type} (f:Nat→List α) (k m:Nat) (h:∀i,(f i).length≤k):((List.range m).flatMap f).length≤m*k:=by
 induction m with
 | zero=>simp
 | succ m ih=>rw[Qf,List.length_append,Nat.add_mul];have:=h m;omega
theorem ZqM {n n':Nd} (hk:n.known=n'.known) (r:Jg) (x:Cm):∀k s,QA n r x k s=QA n' r x k s:=by
 intro k
 induction k with
 | zero=>intro s;rfl
 | succ k ih=>intro s;unfold QA;rw[hk,ih]
theorem ZjE {n n':Nd} (hk:n.known=n'.known) (hl:n.log=n'.log) (r:Jg) (x:Cm):free n r x=free n' r x:=by
 unfold free;rw[hl,ZqM hk]
theorem ZtR {n n':Nd} (hk:n.known=n'.known) (hl:n.log=n'.log) (r:Jg) (x:Cm):UZ n r x=UZ n' r x:=by
 unfold UZ;rw[ZjE hk hl]
theorem ZnI {n n':Nd} (hk:n.known=n'.known) (hl:n.log=n'.log):∀(l:List Cm) (r:Jg),Jn n r l=Jn n' r l:=by
 intro l
 induction l with
 | nil=>intro r;rfl
 | cons x l ih=>intro r;show Jn n (UZ n r x) l=Jn n' (UZ n' r x) l;rw[ZtR hk hl,ih]
theorem ZqN {n n':Nd} (hk:n.known=n'.known) (LL:List (List Vt)):XH n LL=XH n' LL:=by
 funext pr s;unfold XH;rw[hk]
theorem ZqO {n n':Nd} (hk:n.known=n'.known) (hl:n.log=n'.log) (r:Jg):Zby n r=Zby n' r:=by
 unfold Zby;rw[hl,ZqN hk]
theorem Zwd {n n':Nd} (hk:n.known=n'.known) (hm:n.me=n'.me) (r:Jg):Zab n r=Zab n' r:=by
 funext s;unfold Zab Zc8;rw[hk,hm]
theorem ZtS {n n':Nd} (hk:n.known=n'.known) (hm:n.me=n'.me) (r:Jg):Zd4 n r=Zd4 n' r:=by
 unfold Zd4;rw[Zwd hk hm]
set_option maxHeartbeats 4000000 in
theorem Zwe (T:World) (h:Hp) (o:Ow) (wb i nb:Nat) (Z6:Nat→Nat) (a:NA) (n:Nd) (ra:RA) (r:Jg) (YE:WA) (fl:List Y6) (bad:Nat→Int) (told:List Tld) (d:Dom o h)
  (N:ZJ o h wb i nb { a with Zh:=some ra } { n with Zh:=some r }) (W:ZF o h wb Z6 YE fl bad told) (tb:Tbs o h) (Yn:fl.length≤900000000000) (hvl:n.own.l.length≤1000000) (hdl:n.data.length≤1000000)
  (hp:∀x∈r.prom,x.2.length≤1000000) (hs:∀x∈r.prom,∀v∈x.2,v.slot≤1000000) (hpl:r.prom.length≤1000000000000) (hl:n.log.length≤1000000000000) (hq:n.queue.length≤1000000000000) :
  Zd Tryz.prog T 69 #[Zn wb,Zn nb,Zn ra.rb] h fun v' h'=>∃o' a' Xq,Kp (Xz i) o h o' h'∧ZJ o' h' wb i nb a' (QH { n with Zh:=some r } r).n∧ZF o' h' wb Z6 Xq (fl++(QH { n with Zh:=some r } r).ls) bad told:=by
 refine Zd.Zi (args:=[_,_,_]) Tryz.func69 rfl rfl rfl rfl ?_
 obtain⟨h1,YF⟩:=Zx ((h.push (.cells [Zn nb].toArray 56)).push (.cells [Zn ra.rb].toArray 64):Hp)
 have k1:Kp J9 o h o h1:=by rw[YF];exact ((Kp.refl d _).push _).push _
 have x4:ZM o h1 h.size (.cells [Zn nb].toArray 56):=⟨d _ (Nat.le_refl _),by rw[YF];exact gl2 _ _ _⟩
 have x5:ZM o h1 (h.size+1) (.cells [Zn ra.rb].toArray 64):=⟨d _ (by omega),by rw[YF];exact gr2 _ _ _⟩
 have e0:=YF.symm
 unfold Zn at e0 ⊢
 have N1:=N.still k1
 have W1:=W.still k1
 have R1:YH o i h1 ra r:=N1.pt.Zh
 obtain⟨q0,q2,q3,q4,q5⟩:=R1.rr
 have P1:=Zw N1.ZE.2 N1.pt.store.len
 have l4:=Za x4.2
 have l5:=Za x5.2
 have lrb:=Za R1.ZE.2
 have JE:=Za N1.ZE.2
 have r4:hc h1 ⟨h.size,0,none⟩=some (Zn nb):=Zg x4.2
 have r5:hc h1 ⟨h.size+1,0,none⟩=some (Zn ra.rb):=Zg x5.2
 unfold Zn at r4 r5
 have P1p:rd h1 ⟨nb,4,none⟩ 2=some (X6 n.own.p):=P1.Zll
 simp -implicitDefEqProofs only[go_sem,↓reduceIte,e0]
 refine VS.mono (N:=fun F' g'=>Zf h1.size h1 g'∧F' 0=.pointer (some ⟨wb,0,none⟩)∧F' 4=.pointer (some ⟨h.size,0,none⟩)∧F' 5=.pointer (some ⟨h.size+1,0,none⟩)∧F' 35=.bool (decide (below n.own.p r.b))) ?_ ?_ (fun _ _ _ h=>h) (fun _ _ h=>h)
 ·refine VS.z (h1.size) [9] (.q 0 (.p 1 (.p 2 (.q 3 (.q 4 (.p 5 (.p 6 (.p 7 (.q 8 (.w 9 .nil)))))))))) mixed (by kernel_rfl) ?_
  simp -implicitDefEqProofs only[go_sem,↓reduceIte,r4,r5,q0,P1p,l4,l5,lrb,JE]
  refine (Zd9 T h1 r.b n.own.p).use ?_
  rintro _ g ⟨rfl,b⟩
  simp -implicitDefEqProofs only[go_sem,↓reduceIte,b]
 rintro F1 g1 ⟨b1,f0,f4,f5,f35⟩
 have kb:=ZB k1.ZU b1
 replace N1:=N1.still kb
 replace W1:=W1.still kb
 replace k1:=k1.trans kb
 replace x4:=x4.Zc kb
 replace x5:=x5.Zc kb
 have tb1:=tb.Zc k1
 clear R1 q0 q2 q3 q4 q5 P1 P1p l4 l5 lrb JE r4 r5 e0
 have R1:YH o i g1 ra r:=N1.pt.Zh
 obtain⟨q0,q2,q3,q4,q5⟩:=R1.rr
 have P1:=Zw N1.ZE.2 N1.pt.store.len
 have l4:=Za x4.2
 have l5:=Za x5.2
 have lrb:=Za R1.ZE.2
 have JE:=Za N1.ZE.2
 have r4:hc g1 ⟨h.size,0,none⟩=some (Zn nb):=Zg x4.2
 have r5:hc g1 ⟨h.size+1,0,none⟩=some (Zn ra.rb):=Zg x5.2
 unfold Zn at r4 r5
 by_cases c1:below n.own.p r.b
 ·have ZtT:=P1.own
  obtain⟨pv,cv,hpv⟩:=N1.pt.YM.isSlice
  have hpv:a.YM=.slice pv n.own.l.length cv:=hpv
  have ZtT:rd g1 ⟨nb,4,none⟩ 3=some [.int .i64 n.own.p.r,.int .i64 n.own.p.n,.slice pv n.own.l.length cv]:=by rw[←hpv];exact ZtT
  have N1v:ImV o g1 (.slice pv n.own.l.length cv) n.own.l:=by rw[←hpv];exact N1.pt.YM
  unfold X6 at q0
  have call:∀G,Zf g1.size g1 G→Zd Tryz.prog T 72 #[.agg #[.int .i64 n.own.p.r,.int .i64 n.own.p.n,.slice pv n.own.l.length cv],.agg #[.int .i64 r.b.r,.int .i64 r.b.n]] G fun v' h'=>ZkE G.size h' v' n.own.p n.own.l r.b∧Zf G.size G h':=fun G hG=>
   Zbr T G n.own.p _ n.own.l r.b (N1v.ts.Z9 hG) (by omega)
  obtain⟨E,hE⟩:=Zx (Yo n.own.p n.own.l r.b)
  have wA:∀(G:Hp) (k:Nat) (r m:Int) (p:Option Addr) (L c:Nat),G[k]? = some (.cells [.int .i64 0,.int .i64 0,.slice none 0 0].toArray 63)→wr G ⟨k,0,none⟩ [.int .i64 r,.int .i64 m,.slice p L c]=some (G.setIfInBounds k (.cells [.int .i64 r,.int .i64 m,.slice p L c].toArray 63)):=fun G k r m p L c hx=>by
   rw[ZQ hx 0 _];rfl
  have wB:∀(G:Hp) (k:Nat) (p:Option Addr) (L c:Nat),G[k]? = some (.cells [.slice none 0 0].toArray 61)→Jp G ⟨k,0,none⟩ (.slice p L c)=some (G.setIfInBounds k (.cells [.slice p L c].toArray 61)):=fun G k p L c hx=>by
   rw[Yu hx 0 _];rfl
  simp -implicitDefEqProofs only[go_sem,↓reduceIte,f35,c1]
  refine VS.mono (N:=fun F' g'=>Zf g1.size g1 g'∧F' 4=.pointer (some ⟨h.size,0,none⟩)∧F' 5=.pointer (some ⟨h.size+1,0,none⟩)∧ZoN g1.size g' (F' 6) (F' 7) n.own.p n.own.l r.b) ?_ ?_ (fun _ _ _ h=>h) (fun _ _ h=>h)
  ·refine VS.z (g1.size) [8,15,16] (.q 0 (.p 1 (.p 2 (.q 3 (.q 4 (.p 5 (.p 6 (.q 7 (.or 8 (.p 9 (.p 10 (.p 11 (.p 12 (.or 13 (.s 14 (.w 15 (.w 16 (.p 17 .nil)))) (.s 14 (.s 13 (.w 15 (.w 16 (.p 17 .nil)))))))))) (.or 13 (.or 8 (.p 9 (.p 10 (.p 11 (.p 12 (.s 14 (.w 15 (.w 16 (.p 17 .nil)))))))) (.s 14 (.w 8 (.p 9 (.p 10 (.p 11 (.p 12 (.w 15 (.w 16 (.p 17 .nil)))))))))) (.s 14 (.or 8 (.p 9 (.p 10 (.p 11 (.p 12 (.s 13 (.w 15 (.w 16 (.p 17 .nil)))))))) (.s 13 (.w 8 (.p 9 (.p 10 (.p 11 (.p 12 (.w 15 (.w 16 (.p 17 .nil))))))))))))))))))))) mixed (by kernel_rfl) ?_
   simp -implicitDefEqProofs only[go_sem,↓reduceIte,f4,f5,r4,r5,ZtT,q0,JE,lrb,l4,l5]
   unfold ZoN Zn YI
   repeat' (first|with_reducible exact Zf.refl _ _|with_reducible exact Zf.push (by omega) _|with_reducible refine And.intro ?_ ?_)
   all_goals first
    | (refine (call g1 (Zf.refl _ _)).use ?_
       rintro _ g5 ⟨⟨w1,w2,rfl,o1,o2⟩,b5⟩
       obtain⟨p1,c1,rfl,_⟩:=o1.open
       obtain⟨p2,c2,rfl,_⟩:=o2.open
       rw[←hE]at *
       have s5:=b5.size
       unfold YI
       simp -implicitDefEqProofs only[go_sem,↓reduceIte,b5]
       refine⟨⟨f4,f5,_,_,_,_,rfl,rfl,s5,by omega,gl2 _ _ _,gr2 _ _ _,(o1.push _).push _,(o2.push _).push _⟩,⟨f4,f5,_,_,_,_,rfl,rfl,by omega,s5,gr2 _ _ _,gl2 _ _ _,(o1.push _).push _,(o2.push _).push _⟩⟩)
    | (refine (call (g1.push (.cells _ 63)) (Zf.push (Nat.le_refl _) _)).use ?_
       rintro _ g5 ⟨⟨w1,w2,rfl,o1,o2⟩,b5⟩
       obtain⟨p1,c1,rfl,_⟩:=o1.open
       obtain⟨p2,c2,rfl,_⟩:=o2.open
       rw[←hE]at *
       have s5:=b5.size
       rw[Array.size_push]at s5
       have B5:Zf g1.size g1 g5:=(Zf.push (Nat.le_refl _) _).trans (b5.mono (by simp))
       have xA:=b5.get (k:=g1.size) (by simp) Zb
       have wA5:=wA _ _ (if E=0 then r.b else ⟨0,0⟩).r (if E=0 then r.b else ⟨0,0⟩).n p1 (if E=0 then n.own.l else []).length c1 xA
       have zA:=Za xA
       unfold YI
       simp -implicitDefEqProofs only[go_sem,↓reduceIte,B5,wA5,zA]
       exact⟨f4,f5,_,_,_,_,rfl,rfl,Nat.le_refl _,by omega,by rw[Zq (by simpa using zA)];exact Zu xA,gs2 _ _ _ _,((o1.ZR (by simp) _).push _).mono (by simp),((o2.ZR (by simp) _).push _).mono (by simp)⟩)
    | (refine (call (g1.push (.cells _ 61)) (Zf.push (Nat.le_refl _) _)).use ?_
       rintro _ g5 ⟨⟨w1,w2,rfl,o1,o2⟩,b5⟩
       obtain⟨p1,c1,rfl,_⟩:=o1.open
       obtain⟨p2,c2,rfl,_⟩:=o2.open
       rw[←hE]at *
       have s5:=b5.size
       rw[Array.size_push]at s5
       have B5:Zf g1.size g1 g5:=(Zf.push (Nat.le_refl _) _).trans (b5.mono (by simp))
       have xB:=b5.get (k:=g1.size) (by simp) Zb
       have wB5:=wB _ _ p2 (if E=0 then n.own.l else []).length c2 xB
       have zB:=Za xB
       unfold YI
       simp -implicitDefEqProofs only[go_sem,↓reduceIte,B5,wB5,zB]
       exact⟨f4,f5,_,_,_,_,rfl,rfl,by omega,Nat.le_refl _,gs2 _ _ _ _,by rw[Zq (by simpa using zB)];exact Zu xB,((o1.ZR (by simp) _).push _).mono (by simp),((o2.ZR (by simp) _).push _).mono (by simp)⟩)
    | (refine (call ((g1.push (.cells _ 63)).push (.cells _ 61)) ((Zf.push (Nat.le_refl _) _).Ye (by simp) _)).use ?_
       rintro _ g5 ⟨⟨w1,w2,rfl,o1,o2⟩,b5⟩
       obtain⟨p1,c1,rfl,_⟩:=o1.open
       obtain⟨p2,c2,rfl,_⟩:=o2.open
       rw[←hE]at *
       have s5:=b5.size
       rw[Array.size_push,Array.size_push]at s5
       have B5:Zf g1.size g1 g5:=((Zf.push (Nat.le_refl _) _).Ye (by simp) _).trans (b5.mono (by simp;omega))
       have xA:=b5.get (k:=g1.size) (by simp;omega) (gl2 _ _ _)
       have xB:=b5.get (k:=g1.size+1) (by simp) (gr2 _ _ _)
       have wA5:=wA _ _ (if E=0 then r.b else ⟨0,0⟩).r (if E=0 then r.b else ⟨0,0⟩).n p1 (if E=0 then n.own.l else []).length c1 xA
       have zA:=Za xA
       have xB':=fun o:Obj=>(Yf (o:=o) (show g1.size≠g1.size+1 by omega)).trans xB
       have wB5:=fun o:Obj=>wB _ _ p2 (if E=0 then n.own.l else []).length c2 (xB' o)
       have zB:g1.size+1<g5.size:=Za xB
       unfold YI
       simp -implicitDefEqProofs only[go_sem,↓reduceIte,B5,wA5,zA,wB5,zB]
       exact⟨f4,f5,_,_,_,_,rfl,rfl,by omega,by omega,(Yf (by omega)).trans (Zu xA),Zu (xB' _),((o1.ZR (by simp;omega) _).ZR (by simp) _).mono (by simp;omega),((o2.ZR (by simp;omega) _).ZR (by simp) _).mono (by simp;omega)⟩)
    | (refine (call ((g1.push (.cells _ 61)).push (.cells _ 63)) ((Zf.push (Nat.le_refl _) _).Ye (by simp) _)).use ?_
       rintro _ g5 ⟨⟨w1,w2,rfl,o1,o2⟩,b5⟩
       obtain⟨p1,c1,rfl,_⟩:=o1.open
       obtain⟨p2,c2,rfl,_⟩:=o2.open
       rw[←hE]at *
       have s5:=b5.size
       rw[Array.size_push,Array.size_push]at s5
       have B5:Zf g1.size g1 g5:=((Zf.push (Nat.le_refl _) _).Ye (by simp) _).trans (b5.mono (by simp;omega))
       have xB:=b5.get (k:=g1.size) (by simp;omega) (gl2 _ _ _)
       have xA:=b5.get (k:=g1.size+1) (by simp) (gr2 _ _ _)
       have wA5:=wA _ _ (if E=0 then r.b else ⟨0,0⟩).r (if E=0 then r.b else ⟨0,0⟩).n p1 (if E=0 then n.own.l else []).length c1 xA
       have zA:=Za xA
       have xB':=fun o:Obj=>(Yf (o:=o) (show g1.size+1≠g1.size by omega)).trans xB
       have wB5:=fun o:Obj=>wB _ _ p2 (if E=0 then n.own.l else []).length c2 (xB' o)
       have zB:g1.size<g5.size:=Za xB
       unfold YI
       simp -implicitDefEqProofs only[go_sem,↓reduceIte,B5,wA5,zA,wB5,zB]
       exact⟨f4,f5,_,_,_,_,rfl,rfl,by omega,by omega,(Yf (by omega)).trans (Zu xA),Zu (xB' _),((o1.ZR (by simp) _).ZR (by simp;omega) _).mono (by simp;omega),((o2.ZR (by simp) _).ZR (by simp;omega) _).mono (by simp;omega)⟩)
  rintro F2 g2 ⟨b2,f4,f5,ka,kc,w1,w2,fA,fC,ge1,ge2,yA,yC,o1,o2⟩
  rw[←hE]at yA o1 o2
  obtain⟨A,hA⟩:∃A:Qt,A=if E=0 then ⟨r.b,n.own.l⟩ else XR:=⟨_,rfl⟩
  obtain⟨V,hV⟩:∃V:List Vt,V=if E=0 then n.own.l else []:=⟨_,rfl⟩
  have hAp:(if E=0 then r.b else ⟨0,0⟩)=A.p:=by rw[hA];split<;>rfl
  have hAl:(if E=0 then n.own.l else [])=A.l:=by rw[hA];split<;>rfl
  have hVl:(if E=0 then n.own.l else [])=V:=hV.symm
  rw[hAp]at yA
  rw[hAl]at o1
  rw[hVl]at o2
  have kb2:=ZB k1.ZU b2
  have N2:=N1.still kb2
  have W2:=W1.still kb2
  have K2:=k1.trans kb2
  have z4:=x4.Zc kb2
  have z5:=x5.Zc kb2
  have tb2:=tb1.Zc kb2
  have R2:YH o i g2 ra r:=N2.pt.Zh
  obtain⟨u0,_,_,_,_⟩:=R2.rr
  unfold X6 at u0
  have iv7:ImV o g2 w2 V:=Im.QV o2.own (fun b hb=>k1.ZU b hb)
  have iv6:ImV o g2 w1 A.l:=Im.QV o1.own (fun b hb=>k1.ZU b hb)
  have z6:ZM o g2 ka _:=⟨k1.ZU ka ge1,yA⟩
  have z7:ZM o g2 kc _:=⟨k1.ZU kc ge2,yC⟩
  have P2:=Zw N2.ZE.2 N2.pt.store.len
  have m4:=Za z4.2
  have m5:=Za z5.2
  have mr:=Za R2.ZE.2
  have JH:=Za N2.ZE.2
  have s4:hc g2 ⟨h.size,0,none⟩=some (Zn nb):=Zg z4.2
  have s5:hc g2 ⟨h.size+1,0,none⟩=some (Zn ra.rb):=Zg z5.2
  unfold Zn at s4 s5 fA fC
  have R3t:=P2.tape
  obtain⟨pd,cd,hpd⟩:=N2.pt.data.1.isSlice
  have hpd:a.data=.slice pd n.data.length cd:=hpd
  have R3t:rd g2 ⟨nb,2,none⟩ 2=some [.slice pd n.data.length cd,.int .i64 n.Y4]:=by rw[←hpd];exact R3t
  have N2d:ImB o g2 (.slice pd n.data.length cd) n.data:=by rw[←hpd];exact N2.pt.data
  obtain⟨E2,hE2⟩:=Zx (JS n.data n.Y4 r.b)
  have call2:∀G,Zf g2.size g2 G→Zd Tryz.prog T 89 #[.agg #[.slice pd n.data.length cd,.int .i64 n.Y4],.agg #[.int .i64 r.b.r,.int .i64 r.b.n]] G fun v' h'=>Zbv G.size h' v' n.data n.Y4 E2 (Yj (XQ r.b))∧Zf G.size G h':=fun G hG=>by
   rw[hE2]
   exact Zfb T G _ n.Y4 n.data r.b (N2d.bs.Z9 hG) (by omega) (tb2.tk.Jq hG)
  have wT:∀(G:Hp) (k:Nat) (m:Int) (p:Option Addr) (L c:Nat),G[k]? = some (.cells [.slice none 0 0,.int .i64 0].toArray 58)→wr G ⟨k,0,none⟩ [.slice p L c,.int .i64 m]=some (G.setIfInBounds k (.cells [.slice p L c,.int .i64 m].toArray 58)):=fun G k m p L c hx=>by
   rw[ZQ hx 0 _];rfl
  refine VS.mono (N:=fun F' g'=>Zf g2.size g2 g'∧F' 4=.pointer (some ⟨h.size,0,none⟩)∧F' 5=.pointer (some ⟨h.size+1,0,none⟩)∧F' 6=.pointer (some ⟨ka,0,none⟩)∧F' 7=.pointer (some ⟨kc,0,none⟩)∧F' 10=.int .i64 E2∧ZiA g2.size g' (F' 9) n.data n.Y4 E2 (Yj (XQ r.b))) ?_ ?_ (fun _ _ _ h=>h) (fun _ _ h=>h)
  ·refine VS.z (g2.size) [8,13] (.q 0 (.p 1 (.p 2 (.q 3 (.q 4 (.p 5 (.p 6 (.q 7 (.or 8 (.p 9 (.p 10 (.p 11 (.s 12 (.w 13 (.p 14 .nil)))))) (.s 12 (.w 8 (.p 9 (.p 10 (.p 11 (.w 13 (.p 14 .nil)))))))))))))))) mixed (by kernel_rfl) ?_
   simp -implicitDefEqProofs only[go_sem,↓reduceIte,f4,f5,fA,fC,s4,s5,R3t,u0,m4,m5,mr,JH]
   unfold ZiA
   repeat' (first|with_reducible exact Zf.refl _ _|with_reducible exact Zf.push (by omega) _|with_reducible refine And.intro ?_ ?_)
   all_goals first
    | (refine (call2 g2 (Zf.refl _ _)).use ?_
       rintro _ g5 ⟨⟨w,rfl,o1⟩,b5⟩
       obtain⟨p1,c1,rfl,_⟩:=o1.bs.open
       have s5:=b5.size
       simp -implicitDefEqProofs only[go_sem,↓reduceIte,b5]
       exact⟨f4,f5,fA,fC,_,_,rfl,s5,Zb,o1.push _⟩)
    | (refine (call2 (g2.push (.cells _ 58)) (Zf.push (Nat.le_refl _) _)).use ?_
       rintro _ g5 ⟨⟨w,rfl,o1⟩,b5⟩
       obtain⟨p1,c1,rfl,_⟩:=o1.bs.open
       have B5:Zf g2.size g2 g5:=(Zf.push (Nat.le_refl _) _).trans (b5.mono (by simp))
       have xA:=b5.get (k:=g2.size) (by simp) Zb
       have wA5:=wT _ _ (if E2=0 then n.Y4 else 0) p1 (if E2=0 then n.data++Yj (XQ r.b) else []).length c1 xA
       have zA:=Za xA
       simp -implicitDefEqProofs only[go_sem,↓reduceIte,B5,wA5,zA]
       exact⟨f4,f5,fA,fC,_,_,rfl,Nat.le_refl _,Zu xA,(o1.ZR (by simp) _).mono (by simp)⟩)
  rintro F3 g3 ⟨b3,f4,f5,f6,f7,f10,kt,wt,fT,ge3,yT,oT⟩
  have kb3:=ZB K2.ZU b3
  have N4:=N2.still kb3
  have W4:=W2.still kb3
  have K4:Kp J9 o h o g3:=K2.Z9 b3
  by_cases e2:E2=0
  case neg=>
   have eP:QH { n with Zh:=some r } r=⟨{ n with Zh:=some r },[],[]⟩:=by unfold QH;rw[if_pos c1,if_pos (by rw[←hE2];exact e2)]
   rw[eP,List.append_nil]
   simp -implicitDefEqProofs only[go_sem,↓reduceIte,f10,e2]
   exact⟨o,_,YE,ZC K4,N4,W4⟩
  rw[if_pos e2]at yT oT
  have u4:=z4.Zc kb3
  have u5:=z5.Zc kb3
  have u6:=z6.Zc kb3
  have u7:=z7.Zc kb3
  have iu6:=iv6.Zc kb3
  have iu7:=iv7.Zc kb3
  have iT:ImB o g3 wt (n.data++Yj (XQ r.b)):=⟨Im.QV oT.own (fun b hb=>K2.ZU b hb),oT.byte⟩
  have eP:QH { n with Zh:=some r } r=⟨{ n with Zh:=some r,data:=n.data++Yj (XQ r.b),Zy:=some (.own A V true) },[],[]⟩:=by
   unfold QH
   rw[if_pos c1,if_neg (by rw[←hE2];simpa using e2),hA,hV,hE]
  rw[eP,List.append_nil]
  obtain⟨pt,ct,rfl,_⟩:=oT.bs.open
  have v4:hc g3 ⟨h.size,0,none⟩=some (Zn nb):=Zg u4.2
  have vT:rd g3 ⟨kt,0,none⟩ 2=some [.slice pt (n.data++Yj (XQ r.b)).length ct,.int .i64 n.Y4]:=Zo yT rfl
  have Zfx:=Za N4.ZE.2
  obtain⟨g4,w4,N5,k5⟩:=ZS.write (a:={ a with Zh:=some ra,data:=.slice pt (n.data++Yj (XQ r.b)).length ct }) (n:={ n with Zh:=some r,data:=n.data++Yj (XQ r.b) }) { N4.pt with data:=iT } K4.ZU N4.ZE ((YP N4.ZE.2 N4.pt.store.len).tape (.slice pt (n.data++Yj (XQ r.b)).length ct) n.Y4 rfl)
  have v4':hc g4 ⟨h.size,0,none⟩=some (Zn nb):=Zg (u4.Zc k5).2
  have Zdc:=Za N5.ZE.2
  have pn:Uj o g4 wb i nb (some ra) (fnV 97 [ka,h.size,kc,h.size+1]) (some (.own A V true)):=
   ⟨ka,h.size,kc,h.size+1,w2,ra.rb,rfl,⟨_,u6.Zc k5,iu6.Zc k5⟩,u4.Zc k5,u7.Zc k5,iu7.Zc k5,u5.Zc k5,by rw[if_pos rfl];exact⟨ra,rfl,rfl⟩⟩
  obtain⟨g6,w6,N6,k6⟩:=ZS.write (a:={ a with Zh:=some ra,data:=.slice pt (n.data++Yj (XQ r.b)).length ct,Zy:=fnV 97 [ka,h.size,kc,h.size+1] }) (n:={ n with Zh:=some r,data:=n.data++Yj (XQ r.b),Zy:=some (.own A V true) }) { N5.pt with Zy:=pn } k5.ZU N5.ZE ((YP N5.ZE.2 N5.pt.store.len).Zy (fnV 97 [ka,h.size,kc,h.size+1]) rfl)
  unfold fnV at w6
  simp only[List.map]at w6
  unfold Zn at v4 v4' w6
  simp -implicitDefEqProofs only[go_sem,↓reduceIte,f10,e2,f4,f5,f6,f7,fT,v4,vT,w4,Zfx,v4',w6,Zdc]
  have K6:Kp (Xz i) o h o g6:=((ZC K4).trans (k5.mono fun t q=>.inr (.inr (.inr (by rw[q];rfl))))).trans (k6.mono fun t q=>.inr (.inr (.inr (by rw[q];rfl))))
  exact⟨o,_,YE,K6,N6,(W4.Zc k5 (by rintro t rfl;simp[Tg.of])).Zc k6 (by rintro t rfl;simp[Tg.of])⟩
 by_cases c2:5<2*r.prom.length
 case neg=>
  have eP:QH { n with Zh:=some r } r=⟨{ n with Zh:=some r },ZeA n r,[]⟩:=by unfold QH;rw[if_neg c1,if_pos c2];rfl
  rw[eP]
  have lm:=fun (K:Value→Hp→Prop) (cs:Array Bool) (ty:TypeId)=>Zbk (T:=T) (K:=K) (ty:=ty) (cs:=cs) Zfg R1.prom.2
  rw[R1.Zb7.length]at lm
  simp -implicitDefEqProofs only[go_sem,↓reduceIte,f0,f4,f5,f35,c1,r4,r5,q2,lm]
  refine (ZfN T g1 r.prom.length hpl).use ?_
  rintro _ _ ⟨rfl,rfl⟩
  simp -implicitDefEqProofs only[go_sem,↓reduceIte,c2,f0,f4,f5]
  obtain⟨pf,hpf⟩:∃pf:Nat→List Y6,pf=fun (m:Nat)=>if Yp r.prom (m:Int)=none then [⟨0,n.me,m,r.b,vt0,[]⟩] else []:=⟨_,rfl⟩
  have ZBx:ZeA n r=(List.range 5).flatMap pf:=by rw[hpf];rfl
  have ZGR:∀m,(pf m).length≤1:=fun m=>by rw[hpf];simp only;split<;>simp
  rw[ZBx]
  clear r4 r5 q0 q2 q3 q4 q5 l4 l5 lrb JE P1 R1 lm ZBx
  refine VS.ZW (fun F g=>F 0=.pointer (some ⟨wb,0,none⟩)∧F 4=.pointer (some ⟨h.size,0,none⟩)∧F 5=.pointer (some ⟨h.size+1,0,none⟩)∧∃(m:Nat) (o':Ow) (Xq:WA),m≤5∧F 78=.int .i64 m∧Kp ZoF o h o' g∧ZJ o' g wb i nb { a with Zh:=some ra } { n with Zh:=some r }∧ZF o' g wb Z6 Xq (fl++(List.range m).flatMap pf) bad told∧ZM o' g h.size (.cells [Zn nb].toArray 56)∧ZM o' g (h.size+1) (.cells [Zn ra.rb].toArray 64))
   (fun F _=>5-(vi (F 78)).toNat) rfl ⟨f0,f4,f5,0,o,YE,by omega,rfl,ZC k1,N1,by simpa using W1,x4,x5⟩ ?_
  rintro F2 g2 ⟨f0,f4,f5,m,o2,WA2,hm,f78,K2,N2,W2,x4,x5⟩
  by_cases ZD:m<5
  ·have ZL:(m:Int)<5:=by omega
   have R2:YH o2 i g2 ra r:=N2.pt.Zh
   obtain⟨q0,q2,q3,q4,q5⟩:=R2.rr
   have P2:=Zw N2.ZE.2 N2.pt.store.len
   have l4:=Za x4.2
   have l5:=Za x5.2
   have lrb:=Za R2.ZE.2
   have JH:=Za N2.ZE.2
   have r4:hc g2 ⟨h.size,0,none⟩=some (Zn nb):=Zg x4.2
   have r5:hc g2 ⟨h.size+1,0,none⟩=some (Zn ra.rb):=Zg x5.2
   unfold Zn at r4 r5
   unfold X6 at q0
   have lk:=fun (K:Value→Hp→Prop)=>Yr (K:=K) (n:=(m:Int)) (c:=true) Zfg Zty R2.prom.2
   have hpm:pf m=if Yp r.prom (m:Int)=none then [⟨0,n.me,m,r.b,vt0,[]⟩] else []:=by rw[hpf]
   rcases R2.Zb7.Yp (m:Int) with⟨z1,z2⟩|⟨w,vs,z1,z2,iv⟩
   ·rw[if_pos z2]at hpm
    simp only[z1,Option.getD_none,Option.isSome_none,↓reduceIte]at lk
    simp -implicitDefEqProofs only[go_sem,↓reduceIte,f0,f4,f5,f78,ZL,r5,q2,lk]
    refine VS.z (g2.size) [8] (.p 0 (.q 1 (.p 2 (.q 3 (.p 4 (.p 5 (.q 6 (.p 7 (.w 8 .nil))))))))) mixed (by kernel_rfl) ?_
    simp -implicitDefEqProofs only[go_sem,↓reduceIte,f0,f4,f5,f78,r4,r5,q0,l4,l5,lrb]
    have rl:(fl++(List.range m).flatMap pf).length≤1000000000000:=by
     have:=U1 pf 1 m ZGR
     rw[List.length_append];omega
    refine (UA T g2 o2 wb nb Z6 n.me WA2 _ bad told (m:Int) ⟨0,0,0,r.b,vt0,[]⟩ (.slice none 0 0) K2.ZU W2 P2.me JH (Im.nil _ _ _ _) rl).use ?_
    rintro v' g3 ⟨o3,WA3,k3,_,W3⟩
    simp -implicitDefEqProofs only[go_sem,↓reduceIte,f78]
    unfold Xo
    refine⟨⟨f0,f4,f5,m+1,o3,WA3,ZD,rfl,K2.trans k3,N2.Zc k3 (by rintro t (rfl|rfl)<;>simp[Tg.of]),by rw[Qf,hpm,←List.append_assoc];exact W3,x4.Zc k3,x5.Zc k3⟩,?_⟩
    simp only[vi,Zk,↓reduceIte,f78];omega
   ·rw[if_neg (by rw[z2];simp)]at hpm
    obtain⟨pw,cw,rfl⟩:=iv.isSlice
    simp only[z1,Option.getD_some,Option.isSome_some,↓reduceIte]at lk
    simp -implicitDefEqProofs only[go_sem,↓reduceIte,f0,f4,f5,f78,ZL,r5,q2,lk]
    unfold Xo
    refine⟨⟨f0,f4,f5,m+1,o2,WA2,ZD,rfl,K2,N2,by rw[Qf,hpm,List.append_nil];exact W2,x4,x5⟩,?_⟩
    simp only[vi,Zk,↓reduceIte,f78];omega
  ·have YK:¬(m:Int)<5:=by omega
   obtain rfl:m=5:=by omega
   simp -implicitDefEqProofs only[go_sem,↓reduceIte,f78,YK]
   exact⟨o2,_,WA2,K2.mono (fun t q=>by rcases q with rfl|rfl<;>simp[Xz]),N2,W2⟩
 have lm:=fun (K:Value→Hp→Prop) (cs:Array Bool) (ty:TypeId)=>Zbk (T:=T) (K:=K) (ty:=ty) (cs:=cs) Zfg R1.prom.2
 rw[R1.Zb7.length]at lm
 obtain⟨r1,hr1⟩:=Zx (if r.begun=true then r else Zby n r)
 have eP:QH { n with Zh:=some r } r=⟨{ n with Zh:=some (Jn n r1 n.queue) },Zd4 n (Jn n r1 n.queue),[]⟩:=by
  unfold QH
  rw[if_neg c1,if_neg (by simpa using c2)]
  have e1:Uh { n with Zh:=some r } r=Jn n r1 n.queue:=by
   unfold Uh
   rw[hr1,ZqO (n:={ n with Zh:=some r }) (n':=n) rfl rfl,ZnI (n:={ n with Zh:=some r }) (n':=n) rfl rfl]
  rw[e1,ZtS (n:={ n with Zh:=some r }) (n':=n) rfl rfl]
 rw[eP]
 simp -implicitDefEqProofs only[go_sem,↓reduceIte,f0,f4,f5,f35,c1,r4,r5,q2,lm]
 refine (ZfN T g1 r.prom.length hpl).use ?_
 rintro _ g' ⟨rfl,hg'⟩
 rw[hg']
 cases cb:r.begun
 all_goals
 first
 | (rw[cb,if_neg (by simp)]at hr1
    rw[cb]at q3
    simp -implicitDefEqProofs only[go_sem,↓reduceIte,c2,f0,f4,f5,r4,r5,q3]
    refine (ZtQ T g1 o wb i nb a n ra r k1.ZU N1 hp hs hl).use ?_
    rintro v' g2 ⟨ra1,hrb,kx,N3⟩
    rw[←hr1]at N3
    have kx':Kp (Xz i) o g1 o g2:=kx.mono fun t q=>.inr (.inr (.inr (ZeC q)))
    have W3:=W1.Zc kx (by intro t q;rw[ZeC q];simp)
    have y4:=x4.Zc kx
    have y5:=x5.Zc kx
    have K3:Kp (Xz i) o h o g2:=(ZC k1).trans kx')
 | (rw[cb,if_pos rfl]at hr1
    rw[cb]at q3
    simp -implicitDefEqProofs only[go_sem,↓reduceIte,c2,f0,f4,f5,r4,r5,q3]
    obtain⟨g2,QF⟩:=Zx (g1)
    obtain⟨ra1,ZqG⟩:=Zx (ra)
    have hrb:ra1.rb=ra.rb:=by rw[ZqG]
    have N3:ZJ o g2 wb i nb { a with Zh:=some ra1 } { n with Zh:=some r1 }:=by rw[ZqG,hr1,QF];exact N1
    have W3:ZF o g2 wb Z6 YE fl bad told:=by rw[QF];exact W1
    have y4:ZM o g2 h.size (.cells [Zn nb].toArray 56):=by rw[QF];exact x4
    have y5:ZM o g2 (h.size+1) (.cells [Zn ra.rb].toArray 64):=by rw[QF];exact x5
    have K3:Kp (Xz i) o h o g2:=by rw[QF];exact ZC k1
    rw[←QF])
 all_goals
  clear r4 r5 q0 q2 q3 q4 q5 l4 l5 lrb JE P1 R1 lm
  have P3:=Zw N3.ZE.2 N3.pt.store.len
  obtain⟨pq,cq,hpq,_⟩:=YA.isSlice N3.pt.queue
  have hpq:a.queue=.slice pq n.queue.length cq:=hpq
  have P3q:hc g2 ⟨nb,52,none⟩=some (.slice pq n.queue.length cq):=by rw[←hpq];exact P3.queue
  have r4:hc g2 ⟨h.size,0,none⟩=some (Zn nb):=Zg y4.2
  have r5:hc g2 ⟨h.size+1,0,none⟩=some (Zn ra.rb):=Zg y5.2
  unfold Zn at r4 r5
  simp -implicitDefEqProofs only[go_sem,↓reduceIte,f0,f4,f5,r4,r5,P3q]
  clear r4 r5 P3q P3
  refine VS.ZW (fun F g=>F 0=.pointer (some ⟨wb,0,none⟩)∧F 4=.pointer (some ⟨h.size,0,none⟩)∧F 5=.pointer (some ⟨h.size+1,0,none⟩)∧F 113=.slice pq n.queue.length cq∧F 114=.int .i64 n.queue.length∧∃(j:Nat) (ra':RA),j≤n.queue.length∧F 115=.int .i64 j∧Kp (Xz i) o h o g∧ra'.rb=ra.rb∧ZJ o g wb i nb { a with Zh:=some ra' } { n with Zh:=some (Jn n r1 (n.queue.take j)) }∧ZF o g wb Z6 YE fl bad told∧ZM o g h.size (.cells [Zn nb].toArray 56)∧ZM o g (h.size+1) (.cells [Zn ra.rb].toArray 64))
   (fun F _=>n.queue.length-(vi (F 115)).toNat) rfl ⟨f0,f4,f5,rfl,rfl,0,ra1,by omega,rfl,K3,hrb,N3,W3,y4,y5⟩ ?_
  clear f0 f4 f5 y4 y5 K3 N3 W3 hrb
  rintro F3 g3 ⟨f0,f4,f5,f113,f114,j,ra',hj,f115,K3,hrb,N3,W3,y4,y5⟩
  obtain⟨rj,hrj⟩:=Zx (Jn n r1 (n.queue.take j))
  rw[←hrj]at N3
  have r4:hc g3 ⟨h.size,0,none⟩=some (Zn nb):=Zg y4.2
  have r5:hc g3 ⟨h.size+1,0,none⟩=some (Zn ra.rb):=Zg y5.2
  unfold Zn at r4 r5
  have l4:=Za y4.2
  have l5:=Za y5.2
  by_cases ZD:j<n.queue.length
  ·have ZL:(j:Int)<n.queue.length:=by omega
   obtain⟨pz,cz,hz1,hz2⟩:=X7 N3.pt.queue.ts
   obtain⟨bb,oo,hz3,hbb,hrd⟩:=hz2 (by intro e;have:n.queue=[]:=e;rw[this]at ZD;simp at ZD)
   have hz1:a.queue=.slice pz n.queue.length cz:=hz1
   rw[hpq]at hz1
   simp only[Value.slice.injEq]at hz1
   obtain⟨rfl,_,rfl⟩:=hz1
   subst hz3
   have re:rd g3 ⟨bb,oo+j*5,none⟩ 5=some (n.queue[j]).C:=hrd j ZD
   obtain⟨x,hx⟩:=Zx (n.queue[j])
   rw[←hx]at re
   have YN:Jn n r1 (n.queue.take (j+1))=UZ n rj x:=by
    rw[Yi _ j ZD,←hx,hrj]
    unfold Jn
    rw[List.foldl_append];rfl
   obtain⟨g4,hg4⟩:=Zx (g3.push (.cells x.C.toArray 77):Hp)
   have k4:Kp J9 o g3 o g4:=by rw[hg4];exact ZV K3.ZU _
   have x4':ZM o g4 g3.size (.cells x.C.toArray 77):=⟨K3.ZU _ (Nat.le_refl _),by rw[hg4];exact Zb⟩
   have e4:=hg4.symm
   have N4:=N3.still k4
   have R4:YH o i g4 ra' rj:=N4.pt.Zh
   have z4:=y4.Zc k4
   have z5:=y5.Zc k4
   have s4:hc g4 ⟨h.size,0,none⟩=some (Zn nb):=Zg z4.2
   have s5:hc g4 ⟨h.size+1,0,none⟩=some (Zn ra'.rb):=by rw[hrb];exact Zg z5.2
   have sx:rd g4 ⟨g3.size,0,none⟩ 5=some x.C:=Zo x4'.2 rfl
   have cf:=Zwb T g4 o wb i nb { a with Zh:=some ra' } { n with Zh:=some rj } ra' rj x k4.ZU N4 R4 hl
   rw[show Us { n with Zh:=some rj } rj x=Us n rj x from by unfold Us;rw[ZjE (n:={ n with Zh:=some rj }) (n':=n) rfl rfl],ZjE (n:={ n with Zh:=some rj }) (n':=n) rfl rfl]at cf
   unfold cmA Zn at cf
   unfold Zn at s4 s5
   simp -implicitDefEqProofs only[go_sem,↓reduceIte,f0,f4,f5,f113,f114,f115,ZL,re,e4,s4,s5,sx]
   refine cf.use ?_
   rintro _ g5 ⟨rfl,b5⟩
   have k5:=ZB k4.ZU b5
   have K5:Kp (Xz i) o h o g5:=(K3.trans (ZC k4)).trans (ZC k5)
   have N5:=N4.still k5
   have R5:YH o i g5 ra' rj:=N5.pt.Zh
   have W5:=(W3.still k4).still k5
   have u4:=z4.Zc k5
   have u5:=z5.Zc k5
   have ux:=x4'.Zc k5
   cases hf:free n rj x with
   | none=>
    have e1:UZ n rj x=rj:=by unfold UZ;rw[hf]
    simp -implicitDefEqProofs only[go_sem,↓reduceIte,Option.isSome_none,f115]
    unfold Xo
    refine⟨⟨f0,f4,f5,f113,f114,j+1,ra',ZD,rfl,K5,hrb,by rw[YN,e1];exact N5,W5,u4,u5⟩,?_⟩
    simp only[vi,Zk,↓reduceIte,f115];omega
   | some sl=>
    have e1:UZ n rj x = { rj with prop:=ins rj.prop (sl:Int) x }:=by unfold UZ;rw[hf]
    have e2:Us n rj x=sl:=by unfold Us;rw[hf]
    rw[e2]
    simp -implicitDefEqProofs only[go_sem,↓reduceIte,Option.isSome_some]
    have t5:hc g5 ⟨h.size+1,0,none⟩=some (Zn ra'.rb):=by rw[hrb];exact Zg u5.2
    unfold Zn at t5
    have tx:rd g5 ⟨g3.size,0,none⟩ 5=some x.C:=Zo ux.2 rfl
    obtain⟨_,_,_,t4,_⟩:=R5.rr
    have m5:=Za u5.2
    have mr:=Za R5.ZE.2
    have mx:=Za ux.2
    refine VS.z (g5.size) [6] (.q 0 (.p 1 (.p 2 (.q 3 (.p 4 (.q 5 (.w 6 .nil))))))) mixed (by kernel_rfl) ?_
    simp -implicitDefEqProofs only[go_sem,↓reduceIte,f5,t5,t4,tx,m5,mr,mx]
    rw[XN Za8 R5.prop.2]
    obtain⟨k6,R6⟩:=R5.ZoO K5.ZU (k:=(sl:Int)) (x:=x)
    have k6':Kp (XD i) o g5 o _:=k6.mono fun t q=>.inr (.inr (.inl q))
    have k6a:Kp (Xz i) o g5 o _:=k6.mono fun t q=>.inr (.inr (.inr (by rw[q];rfl)))
    simp -implicitDefEqProofs only[go_sem,↓reduceIte,f115]
    unfold Xo
    refine⟨⟨f0,f4,f5,f113,f114,j+1,ra',ZD,rfl,K5.trans k6a,hrb,?_,W5.Zc k6 (by rintro t rfl;simp[Tg.of]),u4.Zc k6,u5.Zc k6⟩,?_⟩
    ·rw[YN,e1]
     exact⟨N5.ZE.Zc k6 (by intro e;cases e),ZS.Qp N5.pt k6' rfl rfl R6⟩
    ·simp only[vi,Zk,↓reduceIte,f115];omega
  ·have YK:¬(j:Int)<n.queue.length:=by omega
   obtain rfl:j=n.queue.length:=by omega
   rw[List.take_length]at hrj
   simp -implicitDefEqProofs only[go_sem,↓reduceIte,f114,f115,YK]
   rw[←hrj]
   obtain⟨r2,hr2⟩:=Zx (rj)
   rw[←hr2]at N3 ⊢
   have ZBy:∀s x m,(Zc8 n r2 s x m).length≤1:=fun s x m=>by unfold Zc8;split<;>simp
   have ZBz:∀s,(Zab n r2 s).length≤5:=fun s=>by
    unfold Zab
    split
    ·split
     ·exact U1 _ 1 5 (ZBy s _)
     ·simp
    ·simp
   clear r4 r5 l4 l5
   refine VS.ZW (fun F g=>F 0=.pointer (some ⟨wb,0,none⟩)∧F 4=.pointer (some ⟨h.size,0,none⟩)∧F 5=.pointer (some ⟨h.size+1,0,none⟩)∧∃(s:Nat) (o':Ow) (Xq:WA),s≤40∧F 134=.int .i64 s∧Kp (Xz i) o h o' g∧ZJ o' g wb i nb { a with Zh:=some ra' } { n with Zh:=some r2 }∧ZF o' g wb Z6 Xq (fl++(List.range s).flatMap (Zab n r2)) bad told∧ZM o' g h.size (.cells [Zn nb].toArray 56)∧ZM o' g (h.size+1) (.cells [Zn ra.rb].toArray 64))
    (fun F _=>40-(vi (F 134)).toNat) rfl ⟨f0,f4,f5,0,o,YE,by omega,rfl,K3,N3,by simpa using W3,y4,y5⟩ ?_
   clear f0 f4 f5 y4 y5 K3 N3 W3
   rintro F4 g4 ⟨f0,f4,f5,s,o4,WA4,hs4,f134,K4,N4,W4,y4,y5⟩
   by_cases ZpV:s<40
   case neg=>
    have Zx8:¬(s:Int)<40:=by omega
    obtain rfl:s=40:=by omega
    simp -implicitDefEqProofs only[go_sem,↓reduceIte,f134,Zx8]
    exact⟨o4,_,WA4,K4,N4,W4⟩
   have Zic:(s:Int)<40:=by omega
   have R4:YH o4 i g4 ra' r2:=N4.pt.Zh
   obtain⟨_,_,_,t4,t5⟩:=R4.rr
   have P4:=Zw N4.ZE.2 N4.pt.store.len
   have r4:hc g4 ⟨h.size,0,none⟩=some (Zn nb):=Zg y4.2
   have r5:hc g4 ⟨h.size+1,0,none⟩=some (Zn ra'.rb):=by rw[hrb];exact Zg y5.2
   unfold Zn at r4 r5
   have l4:=Za y4.2
   have l5:=Za y5.2
   have n4:¬h.size=g4.size:=by omega
   have n5:¬h.size+1=g4.size:=by omega
   have nnb:¬nb=g4.size:=by have:=Za N4.ZE.2;omega
   have lk1:=fun (K:Value→Hp→Prop)=>Yr (K:=K) (n:=(s:Int)) (c:=true) Za8 Zd5 R4.prop.2
   rw[Xj]at lk1
   have lk2:=fun (K:Value→Hp→Prop) (z:Obj)=>Yr (h:=g4.push z) (K:=K) (n:=(s:Int)) (c:=true) Za8 Zd5 ((Zq (Za N4.pt.known.2)).trans N4.pt.known.2)
   simp only[Xj,show ({ n with Zh:=some r2 }:Nd).known=n.known from rfl]at lk2
   have nb4:∀x y:Obj,Kp J9 o4 g4 o4 ((g4.push x).push y):=fun x y=>(ZV K4.ZU _).push _
   have skip:∀(x y:Obj),Zab n r2 s=[]→ZJ o4 ((g4.push x).push y) wb i nb { a with Zh:=some ra' } { n with Zh:=some r2 }∧ZF o4 ((g4.push x).push y) wb Z6 WA4 (fl++(List.range (s+1)).flatMap (Zab n r2)) bad told∧ZM o4 ((g4.push x).push y) h.size (.cells [Zn nb].toArray 56)∧ZM o4 ((g4.push x).push y) (h.size+1) (.cells [Zn ra.rb].toArray 64):=fun x y hz=>
    ⟨N4.still (nb4 x y),by rw[Qf,hz,List.append_nil];exact W4.still (nb4 x y),y4.Zc (nb4 x y),y5.Zc (nb4 x y)⟩
   cases c3:Yp r2.prop (s:Int) with
   | none=>
    have hz:Zab n r2 s=[]:=by unfold Zab;rw[c3]
    simp only[c3,Option.map_none,Option.getD_none,Option.isSome_none,↓reduceIte]at lk1
    cases c4:Yp n.known (s:Int) with
    | none=>
     simp only[c4,Option.map_none,Option.getD_none,Option.isSome_none,↓reduceIte]at lk2
     simp -implicitDefEqProofs only[go_sem,↓reduceIte,f0,f4,f5,f134,Zic,r5,t4,r4,n4,n5,nnb,lk1,lk2,P4.known]
     unfold Xo
     refine⟨⟨f0,f4,f5,s+1,o4,WA4,ZpV,rfl,K4.trans (ZC (nb4 _ _)),skip _ _ hz⟩,?_⟩
     simp only[vi,Zk,↓reduceIte,f134];omega
    | some y=>
     simp only[c4,Option.map_some,Option.getD_some,Option.isSome_some,↓reduceIte]at lk2
     simp -implicitDefEqProofs only[go_sem,↓reduceIte,f0,f4,f5,f134,Zic,r5,t4,r4,n4,n5,nnb,lk1,lk2,P4.known,cmA]
     unfold Xo
     refine⟨⟨f0,f4,f5,s+1,o4,WA4,ZpV,rfl,K4.trans (ZC (nb4 _ _)),skip _ _ hz⟩,?_⟩
     simp only[vi,Zk,↓reduceIte,f134];omega
   | some x=>
    simp only[c3,Option.map_some,Option.getD_some,Option.isSome_some,↓reduceIte]at lk1
    cases c4:Yp n.known (s:Int) with
    | some y=>
     have hz:Zab n r2 s=[]:=by unfold Zab;rw[c3];simp only;rw[if_neg (by rw[c4];simp)]
     simp only[c4,Option.map_some,Option.getD_some,Option.isSome_some,↓reduceIte]at lk2
     simp -implicitDefEqProofs only[go_sem,↓reduceIte,f0,f4,f5,f134,Zic,r5,t4,r4,n4,n5,nnb,lk1,lk2,P4.known,cmA]
     unfold Xo
     refine⟨⟨f0,f4,f5,s+1,o4,WA4,ZpV,rfl,K4.trans (ZC (nb4 _ _)),skip _ _ hz⟩,?_⟩
     simp only[vi,Zk,↓reduceIte,f134];omega
    | none=>
     have hz:Zab n r2 s=(List.range 5).flatMap (Zc8 n r2 s x):=by unfold Zab;rw[c3];simp only;rw[if_pos c4]
     simp only[c4,Option.map_none,Option.getD_none,Option.isSome_none,↓reduceIte]at lk2
     simp -implicitDefEqProofs only[go_sem,↓reduceIte,f0,f4,f5,f134,Zic,r5,t4,r4,n4,n5,nnb,lk1,lk2,P4.known,cmA]
     obtain⟨fs,hfs⟩:=Zx (fl++(List.range s).flatMap (Zab n r2))
     have ZL0:fs.length≤900000001000:=by
      have:=U1 (Zab n r2) 5 s ZBz
      rw[hfs,List.length_append];omega
     have hnx:fl++(List.range (s+1)).flatMap (Zab n r2)=fs++(List.range 5).flatMap (Zc8 n r2 s x):=by rw[Qf,hz,←List.append_assoc,←hfs]
     rw[←hfs]at W4
     have kz:=nb4 (.cells x.C.toArray 77) (.cells cm0.C.toArray 77)
     have xb:ZM o4 ((g4.push (.cells x.C.toArray 77)).push (.cells cm0.C.toArray 77)) g4.size (.cells x.C.toArray 77):=⟨K4.ZU _ (Nat.le_refl _),gl2 _ _ _⟩
     refine VS.ZW (fun F g=>F 0=.pointer (some ⟨wb,0,none⟩)∧F 4=.pointer (some ⟨h.size,0,none⟩)∧F 5=.pointer (some ⟨h.size+1,0,none⟩)∧F 134=.int .i64 s∧F 18=.int .i64 s∧F 19=.pointer (some ⟨g4.size,0,none⟩)∧∃(m:Nat) (o':Ow) (Xq:WA),m≤5∧F 160=.int .i64 m∧Kp (Xz i) o h o' g∧ZJ o' g wb i nb { a with Zh:=some ra' } { n with Zh:=some r2 }∧ZF o' g wb Z6 Xq (fs++(List.range m).flatMap (Zc8 n r2 s x)) bad told∧ZM o' g h.size (.cells [Zn nb].toArray 56)∧ZM o' g (h.size+1) (.cells [Zn ra.rb].toArray 64)∧ZM o' g g4.size (.cells x.C.toArray 77))
      (fun F _=>5-(vi (F 160)).toNat) rfl ⟨f0,f4,f5,f134,rfl,rfl,0,o4,WA4,by omega,rfl,K4.trans (ZC kz),N4.still kz,by simpa using W4.still kz,y4.Zc kz,y5.Zc kz,xb⟩ ?_
     clear f0 f4 f5 f134 y4 y5 r4 r5 t4 t5 P4 lk1 lk2 skip nb4 kz xb l4 l5 n4 n5 nnb R4
     rintro F5 g5 ⟨f0,f4,f5,f134,f18,f19,m,o5,WA5,hm,f160,K5,N5,W5,y4,y5,xb⟩
     by_cases hlm:m<5
     case neg=>
      have hgm:¬(m:Int)<5:=by omega
      obtain rfl:m=5:=by omega
      simp -implicitDefEqProofs only[go_sem,↓reduceIte,f160,hgm,f134]
      unfold Xo
      refine⟨⟨f0,f4,f5,s+1,o5,WA5,ZpV,rfl,K5,N5,by rw[hnx];exact W5,y4,y5⟩,?_⟩
      simp only[vi,Zk,↓reduceIte,f134];omega
     have ZBA:(m:Int)<5:=by omega
     have R5:YH o5 i g5 ra' r2:=N5.pt.Zh
     obtain⟨v0,_,_,_,v5⟩:=R5.rr
     unfold X6 at v0
     have r5:hc g5 ⟨h.size+1,0,none⟩=some (Zn ra'.rb):=by rw[hrb];exact Zg y5.2
     unfold Zn at r5
     have lkv:=fun (K:Value→Hp→Prop)=>Yr (K:=K) (n:=(s:Int)) (c:=false) ZgY Ziv R5.Xp.2
     rw[Xj]at lkv
     simp only[Bool.false_eq_true,if_false]at lkv
     obtain⟨g6,hg6⟩:=Zx (g5.push (.cells [].toArray 176):Hp)
     have e6:=hg6.symm
     have k6:Kp J9 o5 g5 o5 g6:=by rw[hg6];exact ZV K5.ZU _
     have w6:wr g6 ⟨g5.size,0,none⟩ []=some g6:=by
      have hx:g6[g5.size]? = some (.cells [].toArray 176):=by rw[hg6];exact Zb
      rw[ZQ hx 0 [],if_pos ⟨by simp,rfl⟩]
      congr 1
      exact ZdS hx
     have N6:=N5.still k6
     have W6:=W5.still k6
     have z4:=y4.Zc k6
     have z5:=y5.Zc k6
     have zx:=xb.Zc k6
     have K6:Kp (Xz i) o h o5 g6:=K5.trans (ZC k6)
     have P6:=Zw N6.ZE.2 N6.pt.store.len
     have R6:YH o5 i g6 ra' r2:=N6.pt.Zh
     obtain⟨u0,_,_,_,_⟩:=R6.rr
     unfold X6 at u0
     have s4:hc g6 ⟨h.size,0,none⟩=some (Zn nb):=Zg z4.2
     have s5:hc g6 ⟨h.size+1,0,none⟩=some (Zn ra'.rb):=by rw[hrb];exact Zg z5.2
     unfold Zn at s4 s5
     have sx:rd g6 ⟨g4.size,0,none⟩ 5=some [.int .i64 x.k,.int .i64 x.c,.int .i64 x.s,.int .i64 x.n,.int .i64 x.v]:=Zo zx.2 rfl
     have m4:=Za z4.2
     have m5:=Za z5.2
     have mx:=Za zx.2
     have mr:=Za R6.ZE.2
     have ZtU:=Za N6.ZE.2
     obtain⟨S,hS⟩:=Zx ((Yp r2.Xp (s:Int)).getD [])
     have JR:Zc8 n r2 s x m=if Yp S (m:Int)=none then [⟨2,n.me,m,Jf,ZbI s r2.b x,[]⟩] else []:=by unfold Zc8;rw[hS]
     obtain⟨mv,hmv,lki⟩:∃mv,(Option.map mpV (Yp ra'.sv (s:Int))).getD (.map none)=mv∧∀K:Value→Hp→Prop,ZeR Tryz.prog 175 mv (.int .i64 (m:Int)) true K g5=K (.tuple #[.agg #[],.bool (Yp S (m:Int)).isSome]) g5:=by
      rcases R5.Za9.Yp (s:Int) with⟨z1,z2⟩|⟨sb,S',z1,z2,hsb⟩
      ·refine⟨.map none,by rw[z1];rfl,fun K=>?_⟩
       rw[Zi6 Ziu Zxc,hS,z2];rfl
      ·refine⟨.map (some sb),by rw[z1];rfl,fun K=>?_⟩
       have:=Yr (K:=K) (n:=(m:Int)) (c:=true) Ziu Zxc hsb.2
       have hSS:S=S':=by rw[hS,z2];rfl
       rw[this]
       unfold unC
       rw[Xj,←hSS]
       cases Yp S (m:Int)<;>rfl
     rw[hmv]at lkv
     cases cS:Yp S (m:Int) with
     | some uu=>
      rw[if_neg (by rw[cS];simp)]at JR
      simp only[cS,Option.isSome_some]at lki
      simp -implicitDefEqProofs only[go_sem,↓reduceIte,f0,f4,f5,f18,f19,f160,ZBA,r5,v5,lkv,lki,e6,w6]
      unfold Xo
      refine⟨⟨f0,f4,f5,f134,f18,f19,m+1,o5,WA5,hlm,rfl,K6,N6,by rw[Qf,JR,List.append_nil];exact W6,z4,z5,zx⟩,?_⟩
      simp only[vi,Zk,↓reduceIte,f160];omega
     | none=>
      rw[if_pos cS]at JR
      simp only[cS,Option.isSome_none]at lki
      simp -implicitDefEqProofs only[go_sem,↓reduceIte,f0,f4,f5,f18,f19,f160,ZBA,r5,v5,lkv,lki,e6,w6]
      refine VS.z (g6.size) [11] (.p 0 (.q 1 (.p 2 (.p 3 (.q 4 (.p 5 (.p 6 (.q 7 (.q 8 (.p 9 (.p 10 (.w 11 .nil)))))))))))) mixed (by kernel_rfl) ?_
      simp -implicitDefEqProofs only[go_sem,↓reduceIte,f0,f4,f5,f18,f19,f160,s4,s5,u0,sx,m4,m5,mx,mr]
      have rl:(fs++(List.range m).flatMap (Zc8 n r2 s x)).length≤1000000000000:=by
       have:=U1 (Zc8 n r2 s x) 1 m (ZBy s x)
       rw[List.length_append];omega
      refine (UA T g6 o5 wb nb Z6 n.me WA5 _ bad told (m:Int) ⟨2,0,0,Jf,ZbI s r2.b x,[]⟩ (.slice none 0 0) K6.ZU W6 P6.me ZtU (Im.nil _ _ _ _) rl).use ?_
      rintro v' g7 ⟨o7,WA7,k7,_,W7⟩
      simp -implicitDefEqProofs only[go_sem,↓reduceIte,f160]
      unfold Xo
      refine⟨⟨f0,f4,f5,f134,f18,f19,m+1,o7,WA7,hlm,rfl,K6.trans (k7.mono fun t q=>by rcases q with rfl|rfl<;>simp[Xz]),N6.Zc k7 (by rintro t (rfl|rfl)<;>simp[Tg.of]),by rw[Qf,JR,←List.append_assoc];exact W7,z4.Zc k7,z5.Zc k7,zx.Zc k7⟩,?_⟩
      simp only[vi,Zk,↓reduceIte,f160];omega
theorem Uj.fn {o:Ow} {h:Hp} {wb i nb:Nat} {ra:Option RA} {v:Value} {p:Option Pnd} (s:Uj o h wb i nb ra v p):(p=none∧v=.nilFunc)∨(p.isSome=true∧∃f l,v=.func (.func f) #[] l):=by
 match p,s with
 | none,s=>exact .inl ⟨rfl,s⟩
 | some (.pro _ _ _ _),⟨_,_,_,_,e,_⟩=>exact .inr ⟨rfl,_,_,e⟩
 | some (.vot _ _ _),⟨_,_,_,_,e,_⟩=>exact .inr ⟨rfl,_,_,e⟩
 | some (.own _ _ _),⟨_,_,_,_,_,_,e,_⟩=>exact .inr ⟨rfl,_,_,e⟩
theorem ZqP (n:Nd) (r:Jg):(QH n r).n.Xg=n.Xg∧(QH n r).n.log=n.log∧(QH n r).n.me=n.me∧(QH n r).n.heard=n.heard∧(QH n r).n.own=n.own∧(QH n r).ts=[]:=by
 unfold QH
 split
 ·split<;>exact⟨rfl,rfl,rfl,rfl,rfl,rfl⟩
 ·split<;>exact⟨rfl,rfl,rfl,rfl,rfl,rfl⟩
theorem ZnJ (n:Nd) (r:Jg):(ZeA n r).length≤5:=by
 have:=U1 (fun (m:Nat)=>if Yp r.prom (m:Int)=none then [(⟨0,n.me,m,r.b,vt0,[]⟩:Y6)] else []) 1 5 (fun m=>by split<;>simp)
 exact this
theorem ZqQ (n:Nd) (r:Jg):(Zd4 n r).length≤200:=by
 have h1:∀s x m,(Zc8 n r s x m).length≤1:=fun s x m=>by unfold Zc8;split<;>simp
 have h2:∀s,(Zab n r s).length≤5:=fun s=>by
  unfold Zab
  split
  ·split
   ·exact U1 _ 1 5 (h1 s _)
   ·simp
  ·simp
 exact U1 _ 5 40 h2
theorem Zwf (n:Nd) (r:Jg):(QH n r).ls.length≤200:=by
 unfold QH
 split
 ·split<;>simp
 ·split
  ·have:=ZnJ n r;simp only;omega
  ·exact ZqQ n _
theorem ZnK (n:Nd):(still n).Xg=n.Xg∧(still n).log=n.log∧(still n).me=n.me∧(still n).heard=n.heard∧(still n).own=n.own∧(still n).queue=n.queue∧(still n).Zy=n.Zy∧(still n).data=n.data∧(still n).Y4=n.Y4:=by
 unfold still
 split
 ·split<;>exact⟨rfl,rfl,rfl,rfl,rfl,rfl,rfl,rfl,rfl⟩
 ·exact⟨rfl,rfl,rfl,rfl,rfl,rfl,rfl,rfl,rfl⟩
theorem Zly (n:Nd):(still n).Zh=none∨(still n).Zh=n.Zh:=by
 unfold still
 split
 ·split
  ·exact .inl rfl
  ·exact .inr rfl
 ·exact .inr rfl
theorem Zdd (n:Nd):(Yz n).n.Xg=n.Xg∧(Yz n).n.log=n.log∧(Yz n).n.me=n.me∧(Yz n).n.heard=n.heard∧(Yz n).n.own=n.own∧(Yz n).ts=[]:=by
 unfold Yz
 split
 ·exact ZqP _ _
 ·split<;>exact⟨rfl,rfl,rfl,rfl,rfl,rfl⟩
theorem Zlz (n:Nd):(Yz n).ls.length≤200+n.queue.length:=by
 unfold Yz
 split
 ·next r _=>have:=Zwf n r;omega
 ·split
  ·simp[Za6]
  ·simp
set_option maxHeartbeats 4000000 in
theorem Zwg (T:World) (h:Hp) (o:Ow) (wb i nb:Nat) (Z6:Nat→Nat) (a:NA) (n:Nd) (YE:WA) (fl:List Y6) (bad:Nat→Int) (told:List Tld) (d:Dom o h)
  (N:ZJ o h wb i nb a n) (W:ZF o h wb Z6 YE fl bad told) (tb:Tbs o h) (hp0:n.Zy=none) (Yn:fl.length≤800000000000) (hvl:n.own.l.length≤1000000) (hdl:n.data.length≤1000000)
  (hr:∀r,n.Zh=some r→(∀x∈r.prom,x.2.length≤1000000)∧(∀x∈r.prom,∀v∈x.2,v.slot≤1000000)∧r.prom.length≤1000000000000) (hl:n.log.length≤100000000000) (hq:n.queue.length≤10000000000) (ht:0≤n.Xg∧n.Xg<5) :
  Zd Tryz.prog T 42 #[Zn wb,Zn nb] h fun v' h'=>∃o' a' Xq,Kp (Xz i) o h o' h'∧ZJ o' h' wb i nb a' (ZaI n).n∧ZF o' h' wb Z6 Xq (fl++(ZaI n).ls) bad told:=by
 refine Zd.ZfC (args:=#[_,_]) Tryz.func42 rfl rfl rfl ?_
 obtain⟨Zxf,ZyE,sme,ZyF,ZqR,ZjF,ZtV,Zxg,ZGS⟩:=ZnK n
 refine VS.seq (VS.mono (N:=fun F' g'=>F' 0=.pointer (some ⟨wb,0,none⟩)∧F' 1=.pointer (some ⟨nb,0,none⟩)∧∃a1,Kp (Xz i) o h o g'∧ZJ o g' wb i nb a1 (still n)∧ZF o g' wb Z6 YE fl bad told) ?_ ?_ (fun _ _ _ h=>h) (fun _ _ h=>h))
 ·refine X3 _ _ _ _ _ _ rfl ?_
  unfold Zn
  have P:=Zw N.ZE.2 N.pt.store.len
  have hnb:=Za N.ZE.2
  have Pr:=P.Zh
  have Po:=P.Zll
  cases hra:a.Zh with
  | none=>
   rw[hra]at Pr
   have hn:n.Zh=none:=by
    have:=N.pt.Zh
    rw[hra]at this
    cases hx:n.Zh with
    | none=>rfl
    | some r=>rw[hx]at this;exact this.elim
   have es:still n=n:=by unfold still;rw[hn]
   rw[es]
   unfold Zda at Pr
   simp -implicitDefEqProofs only[go_sem,↓reduceIte,Pr]
   refine VS.mono (N:=fun F' g'=>Zf h.size h g'∧F' 0=.pointer (some ⟨wb,0,none⟩)∧F' 1=.pointer (some ⟨nb,0,none⟩)∧F' 26=.bool false) ?_ ?_ (fun _ _ _ h=>h) (fun _ _ h=>h)
   ·refine VS.z (h.size) [12] (.p 0 (.p 1 (.p 2 (.p 3 (.p 4 (.p 5 (.p 6 (.q 7 (.p 8 (.p 9 (.p 10 (.q 11 (.w 12 (.p 13 .nil)))))))))))))) mixed (by kernel_rfl) ?_
    simp -implicitDefEqProofs only[go_sem,↓reduceIte,Pr,Po,hnb]
    try exact Zf.refl _ _
   rintro F1 g1 ⟨b1,f0,f1,f26⟩
   have kb:=ZB d b1
   simp -implicitDefEqProofs only[go_sem,↓reduceIte,f26]
   exact⟨f0,f1,a,ZC kb,N.still kb,W.still kb⟩
  | some ra=>
   obtain⟨r,hn⟩:∃r,n.Zh=some r:=by
    have:=N.pt.Zh
    rw[hra]at this
    cases hx:n.Zh with
    | none=>rw[hx]at this;exact this.elim
    | some r=>exact⟨r,rfl⟩
   rw[hra]at Pr
   unfold Zda Zn at Pr
   have R:YH o i h ra r:=by have:=N.pt.Zh;rw[hra,hn]at this;exact this
   obtain⟨q0,_,_,_,_⟩:=R.rr
   have lrb:=Za R.ZE.2
   simp -implicitDefEqProofs only[go_sem,↓reduceIte,Pr]
   refine VS.mono (N:=fun F' g'=>Zf h.size h g'∧F' 0=.pointer (some ⟨wb,0,none⟩)∧F' 1=.pointer (some ⟨nb,0,none⟩)∧F' 26=.bool (decide (below r.b n.own.p))) ?_ ?_ (fun _ _ _ h=>h) (fun _ _ h=>h)
   ·refine VS.z (h.size) [12] (.p 0 (.p 1 (.p 2 (.p 3 (.p 4 (.p 5 (.p 6 (.q 7 (.p 8 (.p 9 (.p 10 (.q 11 (.w 12 (.p 13 .nil)))))))))))))) mixed (by kernel_rfl) ?_
    simp -implicitDefEqProofs only[go_sem,↓reduceIte,Pr,Po,q0,hnb,lrb]
    refine (Zd9 T h n.own.p r.b).use ?_
    rintro _ g ⟨rfl,b⟩
    simp -implicitDefEqProofs only[go_sem,↓reduceIte,b]
   rintro F1 g1 ⟨b1,f0,f1,f26⟩
   have kb:=ZB d b1
   have N1:=N.still kb
   have W1:=W.still kb
   by_cases c:below r.b n.own.p
   ·have es:still n = { n with Zh:=none }:=by unfold still;rw[hn];simp only;rw[if_pos c]
    rw[es]
    have hpn:a.Zy=.nilFunc:=by
     have:=N.pt.Zy
     rw[hp0]at this
     exact this
    have pn:Uj o g1 wb i nb none a.Zy n.Zy:=by rw[hp0];exact hpn
    obtain⟨g2,w2,N2,k2⟩:=ZS.write (a:={ a with Zh:=none }) (n:={ n with Zh:=none }) { N1.pt with Zh:=trivial,Zy:=pn } kb.ZU N1.ZE ((YP N1.ZE.2 N1.pt.store.len).Zh none)
    have JE:=Za N1.ZE.2
    unfold Zda at w2
    simp -implicitDefEqProofs only[go_sem,↓reduceIte,f0,f1,f26,c,w2,JE]
    exact⟨_,(ZC kb).trans (k2.mono fun t q=>.inr (.inr (.inr (by rw[q];rfl)))),N2,W1.Zc k2 (by rintro t rfl;simp[Tg.of])⟩
   ·have es:still n=n:=by unfold still;rw[hn];simp only;rw[if_neg c]
    rw[es]
    simp -implicitDefEqProofs only[go_sem,↓reduceIte,f26,c]
    exact⟨f0,f1,a,ZC kb,N1,W1⟩
 rintro F1 g1 ⟨f0,f1,a1,K1,N1,W1⟩
 obtain⟨s,hs⟩:=Zx (still n)
 rw[←hs]at N1 Zxf ZyE sme ZyF ZqR ZjF ZtV Zxg ZGS
 have srg:s.Zh=none∨s.Zh=n.Zh:=by rw[hs];exact Zly n
 obtain⟨Zxh,ZBB,eme,ZyG,ZGT,ets⟩:=Zdd s
 have els:=Zlz s
 unfold ZaI
 rw[←hs]
 clear hs
 refine VS.seq (VS.mono (N:=fun F' g'=>F' 0=.pointer (some ⟨wb,0,none⟩)∧F' 1=.pointer (some ⟨nb,0,none⟩)∧∃kb a1,F' 5=.pointer (some ⟨kb,0,none⟩)∧ZM o g' kb (.cells [.int .i64 n.own.p.r,.int .i64 n.own.p.n].toArray 60)∧Kp (Xz i) o h o g'∧ZJ o g' wb i nb a1 s∧ZF o g' wb Z6 YE fl bad told) ?_ ?_ (fun _ _ _ h=>h) (fun _ _ h=>h))
 ·refine X3 _ _ _ _ _ _ rfl ?_
  have P1:=Zw N1.ZE.2 N1.pt.store.len
  have P1o:=P1.Zll
  rw[ZqR]at P1o
  have hnb:=Za N1.ZE.2
  obtain⟨g2,QF⟩:=Zx (g1.push (.cells [.int .i64 n.own.p.r,.int .i64 n.own.p.n].toArray 60):Hp)
  have k2:Kp J9 o g1 o g2:=by rw[QF];exact ZV K1.ZU _
  have x5:ZM o g2 g1.size (.cells [.int .i64 n.own.p.r,.int .i64 n.own.p.n].toArray 60):=⟨K1.ZU _ (Nat.le_refl _),by rw[QF];exact Zb⟩
  have e2:=QF.symm
  simp -implicitDefEqProofs only[go_sem,↓reduceIte,f0,f1,P1o,hnb,e2]
  exact⟨_,a1,rfl,x5,K1.trans (ZC k2),N1.still k2,W1.still k2⟩
 clear f0 f1 K1 N1 W1
 rintro F2 g2 ⟨f0,f1,kb,a2,f5,x5,K2,N2,W2⟩
 have tb2:=tb.Zc K2
 refine VS.seq (VS.mono (N:=fun F' g'=>F' 0=.pointer (some ⟨wb,0,none⟩)∧F' 1=.pointer (some ⟨nb,0,none⟩)∧(Yz s).n.Zy=none∧∃o' a1 Xq,Kp (Xz i) o h o' g'∧ZJ o' g' wb i nb a1 (Yz s).n∧ZF o' g' wb Z6 Xq (fl++(Yz s).ls) bad told) ?_ ?_ (fun _ _ _ h=>h) (fun _ _ h=>h))
 ·refine X3 _ _ _ _ _ _ rfl ?_
  have P2:=Zw N2.ZE.2 N2.pt.store.len
  have P2r:=P2.Zh
  have ZqS:=P2.me
  have hnb:=Za N2.ZE.2
  have l5:=Za x5.2
  cases hra:a2.Zh with
  | some ra=>
   obtain⟨r,hn⟩:∃r,s.Zh=some r:=by
    have:=N2.pt.Zh
    rw[hra]at this
    cases hx:s.Zh with
    | none=>rw[hx]at this;exact this.elim
    | some r=>exact⟨r,rfl⟩
   have hnr:n.Zh=some r:=by
    rcases srg with e|e
    ·rw[e]at hn;cases hn
    ·rw[←e,hn]
   have e1:Yz s=QH s r:=by unfold Yz;rw[hn]
   have ea:a2 = { a2 with Zh:=some ra }:=by rw[←hra]
   have es:s = { s with Zh:=some r }:=by rw[←hn]
   obtain⟨hr1,hr2,hr3⟩:=hr r hnr
   rw[hra]at P2r
   unfold Zda Zn at P2r
   have cr:=Zwe T g2 o wb i nb Z6 a2 s ra r YE fl bad told K2.ZU (by rw[←ea,←es];exact N2) W2 tb2 (by omega) (by rw[ZqR];exact hvl) (by rw[Zxg];exact hdl) hr1 hr2 hr3 (by rw[ZyE];omega) (by rw[ZjF];omega)
   rw[←es,←e1]at cr
   unfold Zn at cr
   simp -implicitDefEqProofs only[go_sem,↓reduceIte,f0,f1,P2r]
   refine cr.use ?_
   rintro v' g3 ⟨o3,a3,WA3,k3,N3,W3⟩
   have P3:=(Zw N3.ZE.2 N3.pt.store.len).Zy
   rcases N3.pt.Zy.fn with⟨c1,c2⟩|⟨c1,f,l,c2⟩
   ·rw[c2]at P3
    simp -implicitDefEqProofs only[go_sem,↓reduceIte,f0,f1,P3]
    exact⟨c1,o3,a3,WA3,K2.trans k3,N3,W3⟩
   ·rw[c2]at P3
    simp -implicitDefEqProofs only[go_sem,↓reduceIte,f0,f1,P3]
    rw[if_pos c1]
    exact⟨o3,a3,WA3,K2.trans k3,N3,W3⟩
  | none=>
   have hn:s.Zh=none:=by
    have:=N2.pt.Zh
    rw[hra]at this
    cases hx:s.Zh with
    | none=>rfl
    | some r=>rw[hx]at this;exact this.elim
   rw[hra]at P2r
   unfold Zda at P2r
   have r5a:hc g2 ⟨kb,0,none⟩=some (.int .i64 n.own.p.r):=Zg x5.2
   have r5b:hc g2 ⟨kb,1,none⟩=some (.int .i64 n.own.p.n):=Zg x5.2
   rw[sme]at ZqS
   by_cases c:0<n.own.p.r∧n.own.p.n≠n.me
   case neg=>
    have e1:Yz s=⟨s,[],[]⟩:=by unfold Yz;rw[hn];simp only;rw[ZqR,sme,if_neg c]
    rw[e1]
    have hpd:s.Zy=none:=by rw[ZtV];exact hp0
    simp -implicitDefEqProofs only[go_sem,↓reduceIte,f0,f1,P2r]
    refine VS.mono (N:=fun F' g'=>Zf g2.size g2 g'∧F' 0=.pointer (some ⟨wb,0,none⟩)∧F' 1=.pointer (some ⟨nb,0,none⟩)∧F' 53=.bool false) ?_ ?_ (fun _ _ _ h=>h) (fun _ _ h=>h)
    ·refine VS.z (g2.size) [] (.p 0 (.q 1 (.p 2 (.p 3 (.p 4 (.q 5 (.p 6 (.p 7 (.p 8 (.q 9 (.p 10 (.p 11 (.p 12 .nil))))))))))))) mixed (by kernel_rfl) ?_
     by_cases c1:0<n.own.p.r
     ·have c2:n.own.p.n=n.me:=by
       rcases Decidable.em (n.own.p.n=n.me) with e|e
       ·exact e
       ·exact (c ⟨c1,e⟩).elim
      simp -implicitDefEqProofs only[go_sem,↓reduceIte,f0,f1,f5,r5a,r5b,ZqS,l5,hnb,c1,c2]
      try exact Zf.refl _ _
     ·simp -implicitDefEqProofs only[go_sem,↓reduceIte,f0,f1,f5,r5a,r5b,ZqS,l5,hnb,c1]
      try exact Zf.refl _ _
    rintro F3 g3 ⟨b3,f0,f1,f53⟩
    have kb3:=ZB K2.ZU b3
    simp -implicitDefEqProofs only[go_sem,↓reduceIte,f53]
    exact⟨f0,f1,hpd,o,a2,YE,K2.trans (ZC kb3),N2.still kb3,by rw[List.append_nil];exact W2.still kb3⟩
   have e1:Yz s=⟨s,Za6 s,[]⟩:=by unfold Yz;rw[hn];simp only;rw[ZqR,sme,if_pos c]
   rw[e1]
   have hpd:s.Zy=none:=by rw[ZtV];exact hp0
   obtain⟨c1,c2⟩:=c
   simp -implicitDefEqProofs only[go_sem,↓reduceIte,f0,f1,P2r]
   refine VS.mono (N:=fun F' g'=>Zf g2.size g2 g'∧F' 0=.pointer (some ⟨wb,0,none⟩)∧F' 1=.pointer (some ⟨nb,0,none⟩)∧F' 5=.pointer (some ⟨kb,0,none⟩)∧F' 53=.bool true) ?_ ?_ (fun _ _ _ h=>h) (fun _ _ h=>h)
   ·refine VS.z (g2.size) [] (.p 0 (.q 1 (.p 2 (.p 3 (.p 4 (.q 5 (.p 6 (.p 7 (.p 8 (.q 9 (.p 10 (.p 11 (.p 12 .nil))))))))))))) mixed (by kernel_rfl) ?_
    simp -implicitDefEqProofs only[go_sem,↓reduceIte,f0,f1,f5,r5a,r5b,ZqS,l5,hnb,c1,c2]
    try exact Zf.refl _ _
   clear f0 f1 f5
   rintro F3 g3 ⟨b3,f0,f1,f5,f53⟩
   have kb3:=ZB K2.ZU b3
   have N3:=N2.still kb3
   have W3:=W2.still kb3
   have K3:=K2.trans (ZC (S:=Xz i) kb3)
   have y5:=x5.Zc kb3
   obtain⟨pq,cq,hpq,_⟩:=YA.isSlice N3.pt.queue
   have hpq:a2.queue=.slice pq s.queue.length cq:=hpq
   have P3q:=(Zw N3.ZE.2 N3.pt.store.len).queue
   rw[hpq]at P3q
   simp -implicitDefEqProofs only[go_sem,↓reduceIte,f0,f1,f53,P3q]
   have hql:s.queue.length≤10000000000:=by rw[ZjF];exact hq
   refine VS.ZW (fun F g=>F 0=.pointer (some ⟨wb,0,none⟩)∧F 1=.pointer (some ⟨nb,0,none⟩)∧F 5=.pointer (some ⟨kb,0,none⟩)∧F 69=.slice pq s.queue.length cq∧F 70=.int .i64 s.queue.length∧∃(j:Nat) (o':Ow) (Xq:WA),j≤s.queue.length∧F 71=.int .i64 j∧Kp (Xz i) o h o' g∧ZJ o' g wb i nb a2 s∧ZF o' g wb Z6 Xq (fl++(Za6 s).take j) bad told∧ZM o' g kb (.cells [.int .i64 n.own.p.r,.int .i64 n.own.p.n].toArray 60))
    (fun F _=>s.queue.length-(vi (F 71)).toNat) rfl ⟨f0,f1,f5,rfl,rfl,0,o,YE,by omega,rfl,K3,N3,by simpa using W3,y5⟩ ?_
   clear f0 f1 f5 f53 P3q N3 W3 K3 y5 kb3 b3 x5 K2 N2 W2
   rintro F4 g4 ⟨f0,f1,f5,f69,f70,j,o4,WA4,hj,f71,K4,N4,W4,y5⟩
   have hfl:(Za6 s).length=s.queue.length:=by unfold Za6;simp
   by_cases ZD:j<s.queue.length
   ·have ZL:(j:Int)<s.queue.length:=by omega
    obtain⟨pz,cz,hz1,hz2⟩:=X7 N4.pt.queue.ts
    obtain⟨bb,oo,hz3,hbb,hrd⟩:=hz2 (by intro e;have:s.queue=[]:=e;rw[this]at ZD;simp at ZD)
    have hz1:a2.queue=.slice pz s.queue.length cz:=hz1
    rw[hpq]at hz1
    simp only[Value.slice.injEq]at hz1
    obtain⟨rfl,_,rfl⟩:=hz1
    subst hz3
    have re:rd g4 ⟨bb,oo+j*5,none⟩ 5=some (s.queue[j]).C:=hrd j ZD
    obtain⟨x,hx⟩:=Zx (s.queue[j])
    rw[←hx]at re
    have YN:(Za6 s).take (j+1)=(Za6 s).take j++[⟨4,s.me,n.own.p.n,Jf,ZbI 0 Jf x,[]⟩]:=by
     rw[Yi _ j (by rw[hfl];exact ZD)]
     congr 2
     unfold Za6
     rw[List.getElem_map,←hx,ZqR]
    obtain⟨g5,hg5⟩:=Zx (g4.push (.cells x.C.toArray 77):Hp)
    have k5:Kp J9 o4 g4 o4 g5:=by rw[hg5];exact ZV K4.ZU _
    have x7:ZM o4 g5 g4.size (.cells x.C.toArray 77):=⟨K4.ZU _ (Nat.le_refl _),by rw[hg5];exact Zb⟩
    have e5:=hg5.symm
    have N5:=N4.still k5
    have W5:=W4.still k5
    have z5:=y5.Zc k5
    have s5:hc g5 ⟨kb,1,none⟩=some (.int .i64 n.own.p.n):=Zg z5.2
    have sx:rd g5 ⟨g4.size,0,none⟩ 5=some [.int .i64 x.k,.int .i64 x.c,.int .i64 x.s,.int .i64 x.n,.int .i64 x.v]:=Zo x7.2 rfl
    have re:rd g4 ⟨bb,oo+j*5,none⟩ 5=some [.int .i64 x.k,.int .i64 x.c,.int .i64 x.s,.int .i64 x.n,.int .i64 x.v]:=re
    have e5:g4.push (.cells [.int .i64 x.k,.int .i64 x.c,.int .i64 x.s,.int .i64 x.n,.int .i64 x.v].toArray 77)=g5:=e5
    have P5:=Zw N5.ZE.2 N5.pt.store.len
    have Zdc:=Za N5.ZE.2
    simp -implicitDefEqProofs only[go_sem,↓reduceIte,f0,f1,f5,f69,f70,f71,ZL,re,e5,s5,sx]
    have rl:(fl++(Za6 s).take j).length≤1000000000000:=by
     rw[List.length_append,List.length_take];omega
    refine (UA T g5 o4 wb nb Z6 s.me WA4 _ bad told n.own.p.n ⟨4,0,0,Jf,ZbI 0 Jf x,[]⟩ (.slice none 0 0) k5.ZU W5 P5.me Zdc (Im.nil _ _ _ _) rl).use ?_
    rintro v' g6 ⟨o6,WA6,k6,_,W6⟩
    simp -implicitDefEqProofs only[go_sem,↓reduceIte,f71]
    unfold Xo
    refine⟨⟨f0,f1,f5,f69,f70,j+1,o6,WA6,ZD,rfl,(K4.trans (ZC k5)).trans (k6.mono fun t q=>by rcases q with rfl|rfl<;>simp[Xz]),N5.Zc k6 (by rintro t (rfl|rfl)<;>simp[Tg.of]),by rw[YN,←List.append_assoc];exact W6,z5.Zc k6⟩,?_⟩
    simp only[vi,Zk,↓reduceIte,f71];omega
   ·have YK:¬(j:Int)<s.queue.length:=by omega
    obtain rfl:j=s.queue.length:=by omega
    rw[List.take_of_length_le (by rw[hfl];exact Nat.le_refl _)]at W4
    simp -implicitDefEqProofs only[go_sem,↓reduceIte,f70,f71,YK]
    exact⟨f0,f1,hpd,o4,a2,WA4,K4,N4,W4⟩
 clear f0 f1 f5 x5 K2 N2 W2 tb2
 rintro F3 g3 ⟨f0,f1,hpd,o3,a3,WA3,K3,N3,W3⟩
 rw[if_neg (by rw[hpd];simp)]
 obtain⟨m,hm⟩:=Zx ((Yz s).n)
 obtain⟨ls,hls⟩:=Zx ((Yz s).ls)
 rw[←hm]at Zxh ZBB eme ZyG ZGT N3 hpd
 rw[←hls]at W3 els
 rw[←hm,←hls]
 clear hm hls
 have hmt:0≤m.Xg∧m.Xg<5:=by rw[Zxh,Zxf];exact ht
 have hml:m.log.length≤100000000000:=by rw[ZBB,ZyE];exact hl
 have hll:ls.length≤10000000200:=by rw[ZjF]at els;omega
 refine VS.seq (VS.mono (N:=fun F' g'=>F' 0=.pointer (some ⟨wb,0,none⟩)∧F' 1=.pointer (some ⟨nb,0,none⟩)∧Kp (Xz i) o h o3 g'∧ZJ o3 g' wb i nb a3 (Qc m)∧ZF o3 g' wb Z6 WA3 (fl++ls) bad told) ?_ ?_ (fun _ _ _ h=>h) (fun _ _ h=>h))
 ·refine X3 _ _ _ _ _ _ rfl ?_
  have P3:=Zw N3.ZE.2 N3.pt.store.len
  have P3t:=P3.Xg
  have hnb:=Za N3.ZE.2
  have et:(m.Xg+1).tmod 5=(m.Xg+1)%5:=Int.tmod_eq_emod_of_nonneg (by omega)
  obtain⟨g4,w4,N4,k4⟩:=ZS.write (a:=a3) (n:=Qc m) { N3.pt with } K3.ZU N3.ZE ((YP N3.ZE.2 N3.pt.store.len).Xg ((m.Xg+1)%5))
  simp -implicitDefEqProofs only[go_sem,↓reduceIte,f0,f1,P3t,et,w4,hnb]
  exact⟨K3.trans (k4.mono fun t q=>.inr (.inr (.inr (by rw[q];rfl)))),N4,W3.Zc k4 (by rintro t rfl;simp[Tg.of])⟩
 clear f0 f1 K3 N3 W3
 rintro F4 g4 ⟨f0,f1,K4,N4,W4⟩
 obtain⟨q,hq0⟩:=Zx (Qc m)
 have ql:q.log=m.log:=by rw[hq0];rfl
 rw[←hq0]at N4 ⊢
 clear hq0
 have P4:=Zw N4.ZE.2 N4.pt.store.len
 have P4t:=P4.Xg
 have ZyH:=P4.me
 have P4o:=P4.Zll
 have P4l:=P4.log
 obtain⟨pl,cl,hpl,_⟩:=YA.isSlice N4.pt.log
 have hpl:a3.log=.slice pl q.log.length cl:=hpl
 rw[hpl]at P4l
 have hnb:=Za N4.ZE.2
 rw[←ql]at hml
 refine X3 _ _ _ _ _ _ rfl ?_
 simp -implicitDefEqProofs only[go_sem,↓reduceIte]
 by_cases c:q.Xg≠q.me∧q.log.length<40
 case neg=>
  have e1:ZaH q=[]:=by unfold ZaH;rw[if_neg c]
  rw[e1,List.append_nil]
  refine VS.mono (N:=fun F' g'=>Zf g4.size g4 g'∧F' 109=.bool false) ?_ ?_ (fun _ _ _ h=>h) (fun _ _ h=>h)
  ·refine VS.z (g4.size) [] (.p 0 (.p 1 (.p 2 (.q 3 (.p 4 (.p 5 (.p 6 (.q 7 (.p 8 (.p 9 (.p 10 (.p 11 (.p 12 (.q 13 (.p 14 (.p 15 (.p 16 .nil))))))))))))))))) mixed (by kernel_rfl) ?_
   by_cases c1:q.Xg=q.me
   ·simp -implicitDefEqProofs only[go_sem,↓reduceIte,f0,f1,P4t,ZyH,P4l,hnb,c1]
    try exact Zf.refl _ _
   ·have c2:¬(q.log.length:Int)<40:=by
     intro e
     exact c ⟨c1,by omega⟩
    simp -implicitDefEqProofs only[go_sem,↓reduceIte,f0,f1,P4t,ZyH,P4l,hnb,c1,c2]
    try exact Zf.refl _ _
  rintro F5 g5 ⟨b5,f109⟩
  have kb5:=ZB K4.ZU b5
  simp -implicitDefEqProofs only[go_sem,↓reduceIte,f109]
  exact⟨o3,a3,WA3,K4.trans (ZC kb5),N4.still kb5,W4.still kb5⟩
 have e1:ZaH q=[⟨5,q.me,q.Xg,Uq q,ZbI q.log.length Jf cm0,[]⟩]:=by unfold ZaH;rw[if_pos c]
 rw[e1]
 obtain⟨c1,c2⟩:=c
 have c2:(q.log.length:Int)<40:=by omega
 refine VS.mono (N:=fun F' g'=>Zf g4.size g4 g'∧F' 0=.pointer (some ⟨wb,0,none⟩)∧F' 1=.pointer (some ⟨nb,0,none⟩)∧F' 109=.bool true) ?_ ?_ (fun _ _ _ h=>h) (fun _ _ h=>h)
 ·refine VS.z (g4.size) [] (.p 0 (.p 1 (.p 2 (.q 3 (.p 4 (.p 5 (.p 6 (.q 7 (.p 8 (.p 9 (.p 10 (.p 11 (.p 12 (.q 13 (.p 14 (.p 15 (.p 16 .nil))))))))))))))))) mixed (by kernel_rfl) ?_
  simp -implicitDefEqProofs only[go_sem,↓reduceIte,f0,f1,P4t,ZyH,P4l,hnb,c1,c2]
  try exact Zf.refl _ _
 clear f0 f1
 rintro F5 g5 ⟨b5,f0,f1,f109⟩
 have kb5:=ZB K4.ZU b5
 have N5:=N4.still kb5
 have W5:=W4.still kb5
 have K5:Kp (Xz i) o h o3 g5:=K4.trans (ZC kb5)
 have P5:=Zw N5.ZE.2 N5.pt.store.len
 have P5o:=P5.Zll
 have Zdc:=Za N5.ZE.2
 obtain⟨g6,hg6⟩:=Zx (g5.push (.cells [.int .i64 q.own.p.r,.int .i64 q.own.p.n].toArray 60):Hp)
 have k6:Kp J9 o3 g5 o3 g6:=by rw[hg6];exact ZV K5.ZU _
 have x8:ZM o3 g6 g5.size (.cells [.int .i64 q.own.p.r,.int .i64 q.own.p.n].toArray 60):=⟨K5.ZU _ (Nat.le_refl _),by rw[hg6];exact Zb⟩
 have e6:=hg6.symm
 have N6:=N5.still k6
 have W6:=W5.still k6
 have K6:Kp (Xz i) o h o3 g6:=K5.trans (ZC k6)
 have P6h:=(Zw N6.ZE.2 N6.pt.store.len).heard
 have ZtU:=Za N6.ZE.2
 have l8:=Za x8.2
 have r8:rd g6 ⟨g5.size,0,none⟩ 2=some [.int .i64 q.own.p.r,.int .i64 q.own.p.n]:=Zo x8.2 rfl
 obtain⟨kb,hkb⟩:=Zx (g5.size)
 simp -implicitDefEqProofs only[go_sem,↓reduceIte,f0,f1,f109,P5o,Zdc,e6]
 rw[←hkb]at x8 l8 r8 ⊢
 refine VS.mono (N:=fun F' g'=>Zf g6.size g6 g'∧F' 0=.pointer (some ⟨wb,0,none⟩)∧F' 1=.pointer (some ⟨nb,0,none⟩)∧F' 8=.pointer (some ⟨kb,0,none⟩)∧F' 120=.bool (decide (below q.own.p q.heard))) ?_ ?_ (fun _ _ _ h=>h) (fun _ _ h=>h)
 ·refine VS.z (g6.size) [5] (.p 0 (.p 1 (.p 2 (.q 3 (.q 4 (.w 5 .nil)))))) mixed (by kernel_rfl) ?_
  simp -implicitDefEqProofs only[go_sem,↓reduceIte,f0,f1,P6h,r8,ZtU,l8]
  refine (Zd9 T g6 q.heard q.own.p).use ?_
  rintro _ g ⟨rfl,b⟩
  simp -implicitDefEqProofs only[go_sem,↓reduceIte,b]
  exact⟨f0,f1⟩
 clear f0 f1
 rintro F7 g7 ⟨b7,f0,f1,f8,f120⟩
 have kb7:=ZB K6.ZU b7
 have N7:=N6.still kb7
 have W7:=W6.still kb7
 have K7:Kp (Xz i) o h o3 g7:=K6.trans (ZC kb7)
 have y8:=x8.Zc kb7
 have P7h:=(Zw N7.ZE.2 N7.pt.store.len).heard
 have ZyI:=Za N7.ZE.2
 have m8:=Za y8.2
 by_cases c6:below q.own.p q.heard
 all_goals
 first
 | (have eb:Uq q=q.heard:=by unfold Uq;rw[if_pos c6]
    obtain⟨g8,hg8⟩:=Zx (g7.setIfInBounds kb (.cells [.int .i64 q.heard.r,.int .i64 q.heard.n].toArray 60):Hp)
    have w8:wr g7 ⟨kb,0,none⟩ [.int .i64 q.heard.r,.int .i64 q.heard.n]=some g8:=by rw[ZQ y8.2 0 _,hg8];rfl
    have k8:Kp J9 o3 g5 o3 g8:=by rw[hg8];exact (k6.trans kb7).ZmN (by omega) _
    have z8:ZM o3 g8 kb (.cells [.int .i64 (Uq q).r,.int .i64 (Uq q).n].toArray 60):=⟨y8.1,by rw[hg8,eb];exact Zu y8.2⟩
    simp -implicitDefEqProofs only[go_sem,↓reduceIte,f0,f1,f8,f120,c6,P7h,ZyI,w8])
 | (have eb:Uq q=q.own.p:=by unfold Uq;rw[if_neg c6]
    obtain⟨g8,hg8⟩:=Zx (g7:Hp)
    have k8:Kp J9 o3 g5 o3 g8:=by rw[hg8];exact k6.trans kb7
    have z8:ZM o3 g8 kb (.cells [.int .i64 (Uq q).r,.int .i64 (Uq q).n].toArray 60):=⟨y8.1,by rw[hg8,eb];exact y8.2⟩
    simp -implicitDefEqProofs only[go_sem,↓reduceIte,f120,c6]
    rw[←hg8])
 all_goals
  have N8:=N5.still k8
  have W8:=W5.still k8
  have K8:Kp (Xz i) o h o3 g8:=K5.trans (ZC k8)
  have P8:=Zw N8.ZE.2 N8.pt.store.len
  have P8t:=P8.Xg
  have P8l:=P8.log
  rw[hpl]at P8l
  have Zwh:=Za N8.ZE.2
  have n8:=Za z8.2
  have s8:rd g8 ⟨kb,0,none⟩ 2=some [.int .i64 (Uq q).r,.int .i64 (Uq q).n]:=Zo z8.2 rfl
  refine VS.z (g8.size) [14] (.p 0 (.p 1 (.p 2 (.p 3 (.p 4 (.q 5 (.q 6 (.p 7 (.p 8 (.p 9 (.q 10 (.p 11 (.p 12 (.p 13 (.w 14 .nil))))))))))))))) mixed (by kernel_rfl) ?_
  simp -implicitDefEqProofs only[go_sem,↓reduceIte,f0,f1,f8,P8t,P8l,s8,Zwh,n8]
  have rl:(fl++ls).length≤1000000000000:=by rw[List.length_append];omega
  refine (UA T g8 o3 wb nb Z6 q.me WA3 _ bad told q.Xg ⟨5,0,0,Uq q,ZbI q.log.length Jf cm0,[]⟩ (.slice none 0 0) K8.ZU W8 P8.me Zwh (Im.nil _ _ _ _) rl).use ?_
  rintro v' g9 ⟨o9,WA9,k9,_,W9⟩
  simp -implicitDefEqProofs only[go_sem,↓reduceIte]
  exact⟨o9,a3,WA9,K8.trans (k9.mono fun t q=>by rcases q with rfl|rfl<;>simp[Xz]),N8.Zc k9 (by rintro t (rfl|rfl)<;>simp[Tg.of]),by rw[←List.append_assoc];exact W9⟩
structure ZnL (n:Nd) (l:Y6) (fl told:Nat):Prop where
 kind:0≤l.kind∧l.kind≤7
 room:fl≤1000000000000
 YM:n.own.l.length≤1000000
 data:n.data.length≤1000000
 known:n.known.length≤100000000000
 log:n.log.length≤100000000000
 told:told≤100000000000
 queue:n.queue.length≤1000000000000
 waiting:n.waiting.length≤1000000000000
 Za9:∀r s,n.Zh=some r→((Yp r.Xp s).getD []).length≤1000000
structure ZtW (n:Nd) (fl:Nat):Prop where
 room:fl≤800000000000
 YM:n.own.l.length≤1000000
 data:n.data.length≤1000000
 rgn:∀r,n.Zh=some r→(∀x∈r.prom,x.2.length≤1000000)∧(∀x∈r.prom,∀v∈x.2,v.slot≤1000000)∧r.prom.length≤1000000000000
 log:n.log.length≤100000000000
 queue:n.queue.length≤10000000000
 Xg:0≤n.Xg∧n.Xg<5
def Zcs:Nd→List Y6→Nat→Nat→Prop
 | _,[],_,_=>True
 | n,l :: k,f,t=>n.Zy.isSome=true∨(ZnL { n with inbox:=k } l f t∧Zcs (handle { n with inbox:=k } l).n k (f+(handle { n with inbox:=k } l).ls.length) (t+(handle { n with inbox:=k } l).ts.length))
structure ZnM (n:Nd) (fl told:Nat):Prop where
 data:n.data.length≤1000000
 room:fl≤1000000000000
 dr:n.Zy=none→Zcs n n.inbox fl told
 du:n.Zy=none→(drain n n.inbox).n.Zy=none→ZtW (drain n n.inbox).n (fl+(drain n n.inbox).ls.length)
theorem ZjG (n:Nd) (l:Y6) (k:List Y6):(handle { n with inbox:=k } l).n.inbox=k:=by
 have hL:∀(m:Nat) (x:Nd),(Yy m x).1.inbox=x.inbox:=by
  intro m
  induction m with
  | zero=>intro x;rfl
  | succ m ih=>
   intro x
   unfold Yy
   split
   ·rfl
   ·simp only;rw[ih];rfl
 have hl:∀(x:Nd) s c,(UX x s c).n.inbox=x.inbox:=fun x s c=>by unfold UX;simp only;rw[hL];rfl
 have hn:∀x:Nd,(notes x l).inbox=x.inbox:=fun x=>by unfold notes;split<;>rfl
 unfold handle
 split
 ·unfold YW;split;· rfl
  split;· rfl
  split<;>rfl
 split
 ·unfold Yv
  split
  ·rfl
  ·split
   ·split<;>rfl
   ·split;· rfl
    split
    ·rw[hl];rfl
    ·rfl
 split
 ·unfold asked;split;· rfl
  split;· rfl
  split<;>rfl
 split
 ·unfold add;simp only;split<;>rfl
 split
 ·unfold Zat;split
  ·simp only;rw[hn]
  ·simp only;rw[hn]
 split
 ·rw[hl]
 ·simp only;rw[hn]
theorem Zwi {o:Ow} {t:Tg} {h:Hp} {v:Value} {l:Y6} {k:List Y6} (s:QJ o t h v (l :: k)) :
  ∃w b off c,v=.slice (some ⟨b,off,none⟩) (k.length+1) c∧k.length+1≤c∧rd h ⟨b,off,none⟩ 14=some (YX l w)∧ImV o h w l.vs∧QJ o t h (.slice (if c=1 then some ⟨b,off,none⟩ else some ⟨b,off+14,none⟩) k.length (c-1)) k:=by
 obtain⟨xs,h1,h2,h3⟩:=s
 cases xs with
 | nil=>cases h1
 | cons x xs=>
  obtain⟨l',w⟩:=x
  simp only[List.map_cons,List.cons.injEq]at h1
  obtain⟨rfl,rfl⟩:=h1
  have h2':=h2
  rcases h2 with⟨_,e,_⟩|⟨b,off,cap,pre,spare,g1,rfl,g3,g4,g5,g6,g7⟩
  ·cases e
  refine⟨w,b,off,cap,by rw[List.length_map];rfl,by rw[List.length_map];exact g7,?_,h3 (l',w) (by simp),?_⟩
  ·have e1:Zz lwC ((l',w) :: xs)=YX l' w++Zz lwC xs:=by simp[Zz,lwC]
   have g5':(Zz lwC ((l',w) :: xs)).length=(xs.length+1)*14:=g5
   rw[Z4 g3 (by simp only[List.length_append];omega),←g4,List.drop_left,e1,List.append_assoc]
   rfl
  ·refine⟨xs,rfl,?_,fun x hx=>h3 x (by simp[hx])⟩
   have tl:=h2'.tail (k:=1) (by simp)
   have e1:Zz lwC ((l',w) :: xs)=YX l' w++Zz lwC xs:=by simp[Zz,lwC]
   rw[e1]at tl
   have e2:(YX l' w++Zz lwC xs).drop (1*14)=Zz lwC xs:=rfl
   rw[e2]at tl
   simpa [YV] using tl
def ZlA (nb:Nat) (g:Hp):Nat:=match hc g ⟨nb,54,none⟩ with
 | some (.slice _ m _)=>m
 | _=>0
theorem ZlB {o:Ow} {h:Hp} {wb i nb:Nat} {a:NA} {n:Nd} (N:ZJ o h wb i nb a n):ZlA nb h=n.inbox.length:=by
 obtain⟨xs,h1,h2,_⟩:=N.pt.inbox
 obtain⟨p,c,h3,_⟩:=h2.isSlice
 have:=(Zw N.ZE.2 N.pt.store.len).inbox
 unfold ZlA
 rw[this,h3,←h1,List.length_map]
theorem ZlC {i:Nat} (t:Tg) (q:ZyB i t):Xz i t:=by
 rcases q with rfl|rfl|rfl|rfl|rfl
 ·exact .inl rfl
 ·exact .inr (.inl rfl)
 all_goals exact .inr (.inr (.inr rfl))
set_option maxHeartbeats 4000000 in
theorem ZtX (T:World) (h:Hp) (o:Ow) (wb i nb:Nat) (Z6:Nat→Nat) (a:NA) (n:Nd) (YE:WA) (fl:List Y6) (bad:Nat→Int) (told:List Tld) (d:Dom o h)
  (N:ZJ o h wb i nb a n) (W:ZF o h wb Z6 YE fl bad told) (tb:Tbs o h) (ok:ZnM n fl.length told.length) :
  Zd Tryz.prog T 25 #[Zn wb,Zn nb] h fun v' h'=>∃o' a' Xq,Kp (Xz i) o h o' h'∧ZJ o' h' wb i nb a' (step n).n∧ZF o' h' wb Z6 Xq (fl++(step n).ls) bad (told++(step n).ts):=by
 refine Zd.Zi (args:=[_,_]) Tryz.func25 rfl rfl rfl rfl ?_
 unfold Zn
 have P:=Zw N.ZE.2 N.pt.store.len
 have hnb:=Za N.ZE.2
 have Pu:=P.up
 cases hu:n.up with
 | false=>
  have e1:step n=⟨n,[],[]⟩:=by unfold step;rw[hu];rfl
  rw[hu]at Pu
  rw[e1,List.append_nil,List.append_nil]
  simp -implicitDefEqProofs only[go_sem,↓reduceIte,Pu]
  exact⟨o,a,YE,Kp.refl d _,N,W⟩
 | true=>
 rw[hu]at Pu
 have Pp:=P.Zy
 cases hp:n.Zy with
 | some p=>
  have e1:step n=finish (synced n) p:=by unfold step;rw[hu,hp];rfl
  rw[e1]
  have Pn:=N.pt.Zy
  rw[hp]at Pn
  obtain⟨f,l,hf⟩:∃f l,a.Zy=.func (.func f) #[] l:=by
   rcases Pn.fn with⟨c,_⟩|⟨_,c⟩
   ·cases c
   ·exact c
  have Pp':=Pp
  rw[hf]at Pp'
  obtain⟨pd,cd,hpd⟩:=N.pt.data.1.isSlice
  have hpd:a.data=.slice pd n.data.length cd:=hpd
  have Pt:=P.tape
  rw[hpd]at Pt
  have Nd:=N.pt.data
  rw[hpd]at Nd
  simp -implicitDefEqProofs only[go_sem,↓reduceIte,Pu,Pp',Pt]
  refine (Zvz T h _ n.Y4 n.data Nd.bs (by have:=ok.data;omega)).use ?_
  rintro v1 h1 ⟨b1,s1⟩
  have kb:=ZB d b1
  have N1:=N.still kb
  have W1:=W.still kb
  obtain⟨p1,c1,rfl,i1⟩:∃p1 c1,v1=.tuple [.agg [.slice p1 (synced n).data.length c1,.int .i64 (synced n).Y4].toArray,.int .i64 (if YJ n.data n.Y4 then 0 else 5)].toArray∧ImB o h1 (.slice p1 (synced n).data.length c1) (synced n).data:=by
   unfold Zm3 at s1
   by_cases c:YJ n.data n.Y4
   ·rw[if_pos (show n.data.length≤100000∧0≤n.Y4∧n.Y4≤n.data.length from c)]at s1
    obtain⟨w,rfl,o1⟩:=s1
    obtain⟨p1,c1,rfl,_⟩:=o1.bs.open
    have e2:(synced n).data=n.data:=by unfold synced;simp only;rw[if_pos c]
    have e3:(synced n).Y4=n.data.length:=by unfold synced;simp only;rw[if_pos c]
    rw[e2,e3,if_pos c]
    exact⟨p1,c1,rfl,Im.QV o1.own (fun b hb=>d b hb),o1.byte⟩
   ·rw[if_neg (show ¬(n.data.length≤100000∧0≤n.Y4∧n.Y4≤n.data.length) from c)]at s1
    have e2:(synced n).data=[]:=by unfold synced;simp only;rw[if_neg c]
    have e3:(synced n).Y4=0:=by unfold synced;simp only;rw[if_neg c]
    rw[e2,e3,if_neg c]
    exact⟨none,0,s1,Im.nil _ _ _ _,fun x hx=>by cases hx⟩
  obtain⟨g2,w2,N2,k2⟩:=ZS.write (a:={ a with data:=.slice p1 (synced n).data.length c1 }) (n:={ n with data:=(synced n).data,Y4:=(synced n).Y4 }) { N1.pt with data:=i1 } kb.ZU N1.ZE ((YP N1.ZE.2 N1.pt.store.len).tape (.slice p1 (synced n).data.length c1) (synced n).Y4 rfl)
  have JE:=Za N1.ZE.2
  have JH:=Za N2.ZE.2
  have P2p:hc g2 ⟨nb,55,none⟩=some a.Zy:=(Zw N2.ZE.2 N2.pt.store.len).Zy
  have pn:Uj o g2 wb i nb a.Zh .nilFunc none:=rfl
  obtain⟨g3,w3,N3,k3⟩:=ZS.write (a:={ a with data:=.slice p1 (synced n).data.length c1,Zy:=.nilFunc }) (n:=synced n) { N2.pt with Zy:=pn } k2.ZU N2.ZE ((YP N2.ZE.2 N2.pt.store.len).Zy .nilFunc rfl)
  have K3:Kp (Xz i) o h o g3:=((ZC kb).trans (k2.mono fun t q=>.inr (.inr (.inr (by rw[q];rfl))))).trans (k3.mono fun t q=>.inr (.inr (.inr (by rw[q];rfl))))
  have W3:=(W1.Zc k2 (by rintro t rfl;simp[Tg.of])).Zc k3 (by rintro t rfl;simp[Tg.of])
  have Pn3:Uj o g3 wb i nb a.Zh a.Zy (some p):=((Pn.Zc kb (by rintro⟨⟩)).Zc k2 (by intro e;cases e)).Zc k3 (by intro e;cases e)
  clear hf Pp'
  rw[show (finish (synced n) p).ts=[] from by cases p<;>rfl,List.append_nil]
  have rm:=ok.room
  have hns:(synced n).Zy=none:=rfl
  cases p with
  | pro acc to b vs=>
   obtain⟨b6,b4,b9,u,h1',h2',h3',h4',h5'⟩:=Pn3
   have cf:=Zv6 T g3 o wb i nb Z6 YE fl bad told _ (synced n) acc to b vs b6 b4 b9 u k3.ZU N3 W3 rm h2' h3' h4' h5'
   rw[h1']at P2p
   unfold fnV at P2p
   simp only[List.map]at P2p
   unfold Zn at P2p cf
   simp -implicitDefEqProofs only[go_sem,↓reduceIte,w2,JE,P2p,w3,JH]
   refine cf.use ?_
   rintro v' h' ⟨o',a',Xq,k,N',W'⟩
   simp -implicitDefEqProofs only[go_sem,↓reduceIte]
   exact⟨o',a',Xq,K3.trans (k.mono ZlC),N',W'⟩
  | vot acc to x=>
   obtain⟨b6,b4,b9,u,h1',h2',h3',h4',h5'⟩:=Pn3
   have cf:=Zv7 T g3 o wb i nb Z6 YE fl bad told _ (synced n) acc to x b6 b4 b9 u k3.ZU N3 W3 rm h2' h3' h4' h5'
   rw[h1']at P2p
   unfold fnV at P2p
   simp only[List.map]at P2p
   unfold Zn at P2p cf
   simp -implicitDefEqProofs only[go_sem,↓reduceIte,w2,JE,P2p,w3,JH]
   refine cf.use ?_
   rintro v' h' ⟨o',a',Xq,k,N',W'⟩
   simp -implicitDefEqProofs only[go_sem,↓reduceIte]
   exact⟨o',a',Xq,K3.trans (k.mono ZlC),N',W'⟩
  | own acc vs cur=>
   obtain⟨b6,b4,b7,b5,h1',cf⟩:=Zv8 T g3 o wb i nb _ (synced n) acc vs cur a.Zy k3.ZU N3 hns Pn3
   rw[h1']at P2p
   unfold fnV at P2p
   simp only[List.map]at P2p
   unfold Zn at P2p cf
   rw[show (finish (synced n) (.own acc vs cur)).ls=[] from rfl,List.append_nil]
   simp -implicitDefEqProofs only[go_sem,↓reduceIte,w2,JE,P2p,w3,JH]
   refine cf.use ?_
   rintro v' h' ⟨o',a',k,N'⟩
   simp -implicitDefEqProofs only[go_sem,↓reduceIte]
   exact⟨o',a',YE,K3.trans (k.mono fun t q=>by rcases q with rfl|rfl|rfl<;>exact .inr (.inr (.inr rfl))),N',W3.Zc k (fun t q=>by rcases q with rfl|rfl|rfl<;>simp[Tg.of])⟩
 | none=>
  have Pp0:a.Zy=.nilFunc:=by have:=N.pt.Zy;rw[hp]at this;exact this
  have Pp1:=P.Zy
  rw[Pp0]at Pp1
  simp -implicitDefEqProofs only[go_sem,↓reduceIte,Pu,Pp1]
  obtain⟨D,hD⟩:=Zx (drain n n.inbox)
  have dr:=ok.dr hp
  have du:=ok.du hp
  have e1:step n=if D.n.Zy.isSome=true then D else ⟨(ZaI D.n).n,D.ls++(ZaI D.n).ls,D.ts++(ZaI D.n).ts⟩:=by unfold step;rw[hu,hp,hD];rfl
  rw[←hD]at du
  rw[e1]
  refine VS.ZW (fun F g=>F 0=.pointer (some ⟨wb,0,none⟩)∧F 1=.pointer (some ⟨nb,0,none⟩)∧∃(o':Ow) (a':NA) (Xq:WA) (m:Nd) (ls:List Y6) (ts:List Tld),Kp (Xz i) o h o' g∧ZJ o' g wb i nb a' m∧ZF o' g wb Z6 Xq (fl++ls) bad (told++ts)∧D=⟨(drain m m.inbox).n,ls++(drain m m.inbox).ls,ts++(drain m m.inbox).ts⟩∧Zcs m m.inbox (fl.length+ls.length) (told.length+ts.length))
   (fun _ g=>ZlA nb g) rfl ⟨rfl,rfl,o,a,YE,n,[],[],Kp.refl d _,N,by simpa using W,by rw[hD];rfl,by simpa using dr⟩ ?_
  clear Pu Pp Pp0 Pp1 P hnb N W d
  rintro F1 g1 ⟨f0,f1,o1,a1,WA1,m,ls,ts,K1,N1,W1,hDm,dr1⟩
  have P1:=Zw N1.ZE.2 N1.pt.store.len
  have JE:=Za N1.ZE.2
  have P1i:=P1.inbox
  have P1p:=P1.Zy
  have stop:(m.inbox=[]∨m.Zy.isSome=true)→D=⟨m,ls,ts⟩:=by
   intro q
   have e2:drain m m.inbox=⟨m,[],[]⟩:=by
    cases hmi:m.inbox with
    | nil=>unfold drain;rw[←hmi]
    | cons l k=>
     rcases q with q|q
     ·rw[hmi]at q;cases q
     ·unfold drain;rw[if_pos q,←hmi]
   rw[hDm,e2];simp
  rcases N1.pt.Zy.fn with⟨c1,c2⟩|⟨c1,f,fl',c2⟩
  ·rw[c2]at P1p
   cases hmi:m.inbox with
   | nil=>
    have eD:=stop (.inl hmi)
    obtain⟨p,c,hi⟩:∃p c,a1.inbox=.slice p 0 c:=by
     have:=N1.pt.inbox
     rw[hmi]at this
     obtain⟨xs,h1,h2,_⟩:=this
     obtain⟨p,c,h3,_⟩:=h2.isSlice
     rw[List.map_eq_nil_iff]at h1
     subst h1
     exact⟨p,c,h3⟩
    rw[hi]at P1i
    have dok:=du (by rw[eD];exact c1)
    rw[eD]at dok
    rw[eD,if_neg (by rw[c1];simp)]
    have cd:=Zwg T g1 o1 wb i nb Z6 a1 m WA1 (fl++ls) bad (told++ts) K1.ZU N1 W1 (tb.Zc K1) c1 (by rw[List.length_append];exact dok.room) dok.YM dok.data dok.rgn dok.log dok.queue dok.Xg
    unfold Zn at cd
    simp -implicitDefEqProofs only[go_sem,↓reduceIte,f0,f1,P1i,P1p]
    refine cd.use ?_
    rintro v' g2 ⟨o2,a2,WA2,k2,N2,W2⟩
    simp -implicitDefEqProofs only[go_sem,↓reduceIte]
    have edt:(ZaI m).ts=[]:=by
     unfold ZaI
     split
     ·exact (Zdd _).2.2.2.2.2
     ·rfl
    refine⟨o2,a2,WA2,K1.trans k2,N2,?_⟩
    rw[edt,List.append_nil,←List.append_assoc]
    exact W2
   | cons l k=>
    have NI:=N1.pt.inbox
    rw[hmi]at NI
    obtain⟨w,b,off,c,hi,hc1,hrd,iv,tl⟩:=Zwi NI
    rw[hi]at P1i
    rw[hmi]at dr1
    have hk:ZnL { m with inbox:=k } l (fl.length+ls.length) (told.length+ts.length)∧Zcs (handle { m with inbox:=k } l).n k (fl.length+ls.length+(handle { m with inbox:=k } l).ls.length) (told.length+ts.length+(handle { m with inbox:=k } l).ts.length):=by
     rcases dr1 with q|q
     ·rw[c1]at q;cases q
     ·exact q
    obtain⟨hk,dr2⟩:=hk
    have hD2:D=⟨(drain (handle { m with inbox:=k } l).n k).n,(ls++(handle { m with inbox:=k } l).ls)++(drain (handle { m with inbox:=k } l).n k).ls,(ts++(handle { m with inbox:=k } l).ts)++(drain (handle { m with inbox:=k } l).n k).ts⟩:=by
     rw[hDm,hmi]
     have e2:drain m (l :: k)=⟨(drain (handle { m with inbox:=k } l).n k).n,(handle { m with inbox:=k } l).ls++(drain (handle { m with inbox:=k } l).n k).ls,(handle { m with inbox:=k } l).ts++(drain (handle { m with inbox:=k } l).n k).ts⟩:=by
      rw[drain];rw[if_neg (by rw[c1];simp)]
     rw[e2];simp
    have hib:=ZjG m l k
    clear stop dr1 hDm
    obtain⟨pw,cw,rfl⟩:=iv.isSlice
    obtain⟨g2,QF⟩:=Zx (g1.push (.cells (YX l (.slice pw l.vs.length cw)).toArray 98):Hp)
    have k2:Kp J9 o1 g1 o1 g2:=by rw[QF];exact ZV K1.ZU _
    have x5:ZM o1 g2 g1.size (.cells (YX l (.slice pw l.vs.length cw)).toArray 98):=⟨K1.ZU _ (Nat.le_refl _),by rw[QF];exact Zb⟩
    have e2:=QF.symm
    have N2:=N1.still k2
    have W2:=W1.still k2
    have P2i:=(Zw N2.ZE.2 N2.pt.store.len).inbox
    rw[hi]at P2i
    have JH:=Za N2.ZE.2
    obtain⟨vi',hvi⟩:∃v:Value,v=.slice (if c=1 then some ⟨b,off,none⟩ else some ⟨b,off+14,none⟩) k.length (c-1):=⟨_,rfl⟩
    have tl2:QJ o1 (.inbox i) g2 vi' k:=by rw[hvi];exact tl.Zc k2 (fun q=>q.elim)
    obtain⟨g3,w3,N3,k3⟩:=ZS.write (a:={ a1 with inbox:=vi' }) (n:={ m with inbox:=k }) { N2.pt with inbox:=tl2 } k2.ZU N2.ZE ((YP N2.ZE.2 N2.pt.store.len).inbox vi' (by rw[hvi];rfl))
    rw[hvi]at w3
    have y5:=x5.Zc k3
    have W3:=W2.Zc k3 (by rintro t rfl;simp[Tg.of])
    have r5:rd g3 ⟨g1.size,0,none⟩ 14=some (YX l (.slice pw l.vs.length cw)):=Zo y5.2 rfl
    have K3:Kp (Xz i) o h o1 g3:=(K1.trans (ZC k2)).trans (k3.mono fun t q=>.inr (.inr (.inr (by rw[q];rfl))))
    have hc2:(1:Int)≤c:=by omega
    have ch:=ZqJ T g3 o1 wb i nb Z6 _ { m with inbox:=k } WA1 (fl++ls) bad (told++ts) l (.slice pw l.vs.length cw) k3.ZU N3 W3 ((iv.Zc k2).Zc k3) (tb.Zc K3) hk.kind (by rw[List.length_append];exact hk.room) hk.YM hk.data hk.known hk.log (by rw[List.length_append];exact hk.told) hk.queue hk.waiting hk.Za9
    unfold Zn YX at ch
    unfold YX at hrd e2 r5
    simp -implicitDefEqProofs only[go_sem,↓reduceIte,f0,f1,P1i,P1p,hrd,e2,P2i,JH,w3,hc1,hc2,r5,Nat.add_sub_cancel]
    refine ch.use ?_
    rintro v' g4 ⟨o4,a4,WA4,k4,N4,W4⟩
    simp -implicitDefEqProofs only[go_sem,↓reduceIte]
    unfold Xo
    have in4:=ZlB N4
    have in1:=ZlB N1
    rw[hib]at in4
    rw[hmi]at in1
    refine⟨⟨f0,f1,o4,a4,WA4,(handle { m with inbox:=k } l).n,ls++(handle { m with inbox:=k } l).ls,ts++(handle { m with inbox:=k } l).ts,K3.trans k4,N4,by rw[←List.append_assoc,←List.append_assoc];exact W4,by rw[hib];exact hD2,by rw[hib,List.length_append,List.length_append,←Nat.add_assoc,←Nat.add_assoc];exact dr2⟩,?_⟩
    show ZlA nb g4<ZlA nb g1
    rw[in4,in1]
    simp
  ·rw[c2]at P1p
   have eD:=stop (.inr c1)
   rw[eD,if_pos c1]
   obtain⟨p,c,hi⟩:∃p c,a1.inbox=.slice p m.inbox.length c:=by
    obtain⟨xs,h1,h2,_⟩:=N1.pt.inbox
    obtain⟨p,c,h3,_⟩:=h2.isSlice
    rw[←h1,List.length_map]
    exact⟨p,c,h3⟩
   rw[hi]at P1i
   by_cases hz:0<m.inbox.length
   ·have hz':(0:Int)<m.inbox.length:=by omega
    simp -implicitDefEqProofs only[go_sem,↓reduceIte,f0,f1,P1i,P1p,hz']
    exact⟨o1,a1,WA1,K1,N1,W1⟩
   ·have hz':¬(0:Int)<m.inbox.length:=by omega
    simp -implicitDefEqProofs only[go_sem,↓reduceIte,f0,f1,P1i,P1p,hz']
    exact⟨o1,a1,WA1,K1,N1,W1⟩
def Zbd (t:Tg):Prop:=True
def ZBC (t:Tg):Prop:=∃i,t.of=some i
theorem Yb {S:Tg→Prop} {o o':Ow} {h h':Hp} (k:Kp S o h o' h'):Kp Zbd o h o' h':=k.mono fun _ _=>trivial
structure X8 (o:Ow) (h:Hp) (wb:Nat) (Z6:Nat→Nat) (YE:WA) (w:Wd):Prop where
 wd:ZF o h wb Z6 YE w.Zl w.bad w.told
 nd:∀i,i<5→∃a,ZJ o h wb i (Z6 i) a (w.nodes i)
theorem X8.still {o:Ow} {h h':Hp} {wb:Nat} {Z6:Nat→Nat} {YE:WA} {w:Wd} {o':Ow} (A:X8 o h wb Z6 YE w) (k:Kp J9 o h o' h'):X8 o' h' wb Z6 YE w:=
 ⟨A.wd.still k,fun i hi=>by obtain⟨a,N⟩:=A.nd i hi;exact⟨a,N.still k⟩⟩
theorem X8.Xg {o o':Ow} {h h':Hp} {wb:Nat} {Z6:Nat→Nat} {YE WA1:WA} {w:Wd} {i:Nat} {a:NA} {n:Nd} {fl:List Y6} {bad:Nat→Int} {told:List Tld} (A:X8 o h wb Z6 YE w) (k:Kp (Xz i) o h o' h')
  (N:ZJ o' h' wb i (Z6 i) a n) (W:ZF o' h' wb Z6 WA1 fl bad told):X8 o' h' wb Z6 WA1 { nodes:=fun j=>if j=i then n else w.nodes j,Zl:=fl,bad:=bad,told:=told }:=by
 refine⟨W,fun j hj=>?_⟩
 by_cases e:j=i
 ·subst e
  exact⟨a,by simpa using N⟩
 ·obtain⟨b,M⟩:=A.nd j hj
  refine⟨b,?_⟩
  simp only[if_neg e]
  refine M.Zc k fun t q hq=>?_
  rcases q with rfl|rfl|rfl|q
  ·cases hq
  ·cases hq
  ·cases hq
  ·rw[hq]at q;exact e (Option.some.inj q)
theorem U2 {o:Ow} {h:Hp} {wb:Nat} {Z6:Nat→Nat} {YE:WA} {fl:List Y6} {bad:Nat→Int} {told:List Tld} (W:ZF o h wb Z6 YE fl bad told) :
  ∃b off c,YE.nodes=.slice (some ⟨b,off,none⟩) 5 c∧5≤c∧b<h.size∧∀i,i<5→hc h ⟨b,off+i,none⟩=some (Zn (Z6 i)):=by
 rcases W.nodes with⟨_,e,_⟩|⟨b,off,cap,pre,spare,g1,g2,g3,g4,g5,g6,g7⟩
 ·cases e
 refine⟨b,off,cap,g2,g7,Za g3,fun i hi=>?_⟩
 rw[Zg g3,Yl,←g4,List.getElem?_append_right (by omega),Nat.add_sub_cancel_left]
 match i,hi with
 | 0,_=>rfl
 | 1,_=>rfl
 | 2,_=>rfl
 | 3,_=>rfl
 | 4,_=>rfl
theorem ZqT {T:World} {K:Value→Hp→Prop} {ty:TypeId} {o:Ow} {t:Tg} {h:Hp} {v:Value} {l:List Y6} {x:Y6} {w:Value} {bx:Nat} {cb:Array Bool} (s:QJ o t h v l) (d:Dom o h) (iv:ImV o h w x.vs) (hb:h[bx]? = some (.cells (YX x w).toArray 98)) (hr:l.length≤1000000000000)
  (H:∀p c o' h',QJ o' t h' (.slice p (l.length+1) c) (l++[x])→Kp (fun u=>u=t) o h o' h'→K (.slice p (l.length+1) c) h') :
  vBi Tryz.prog T .append #[53,53] ty cb [v,.slice (some ⟨bx,0,none⟩) 1 1] K h:=by
 have src:Sl 14 h (.slice (some ⟨bx,0,none⟩) 1 1) 1 (YX x w):=⟨_,1,rfl,rfl,fun _=>⟨bx,0,rfl,fun i hi=>by
  rw[Zg hb,Yl,Nat.zero_add];exact List.getElem?_eq_getElem hi⟩⟩
 obtain⟨p,c,hw⟩:=iv.isSlice
 have Xf:Z8 w=true:=by rw[hw];rfl
 obtain⟨xs,Qu,hx2,hx3⟩:=s
 have hxl:xs.length=l.length:=by rw[←Qu,List.length_map]
 refine Ju (E:=98) (n:=14) (bytes:=128) (k:=1) Zok Tryz.underlying53 ZxX Zvm rfl ZAr hx2 d src (by rw[YX,List.all_eq_true];intro x hx;simp at hx;rcases hx with rfl|rfl|rfl|rfl|rfl|rfl|rfl|rfl|rfl|rfl|rfl|rfl|rfl|rfl<;>first|rfl|exact Xf) (by omega) (by omega) ?_
 intro v' o' h' w' k _
 obtain⟨p',c',rfl,_⟩:=w'.isSlice
 rw[hxl]
 refine H p' c' o' h' ⟨xs++[(x,w)],by rw[List.map_append,Qu];rfl,?_,fun y hy=>?_⟩ k
 ·rw[Yh,Q9,List.length_append,←hxl]
  exact w'
 ·rcases List.mem_append.1 hy with hy|hy
  ·exact (hx3 y hy).Zc k
  ·have:y=(x,w):=by simpa using hy
   subst this
   exact iv.Zc k
theorem Zbe {o:Ow} {t:Tg} {h:Hp} {v:Value} {l:List Y6} (s:QJ o t h v l):∃p c,v=.slice p l.length c∧l.length≤c:=by
 obtain⟨xs,h1,h2,_⟩:=s
 obtain⟨p,c,h3,h4⟩:=h2.isSlice
 rw[←h1,List.length_map]
 exact⟨p,c,h3,h4⟩
set_option maxHeartbeats 4000000 in
theorem ZjH (T:World) (h:Hp) (o:Ow) (wb:Nat) (Z6:Nat→Nat) (YE:WA) (w:Wd) (l:Y6) (v:Value) (d:Dom o h) (A:X8 o h wb Z6 YE w) (iv:ImV o h v l.vs) (hto:0≤l.to∧l.to<5)
  (hib:∀i,i<5→(w.nodes i).inbox.length≤1000000000000) :
  Zd Tryz.prog T 27 #[Zn wb,.agg (YX l v).toArray] h fun v' h'=>∃o',Kp ZBC o h o' h'∧X8 o' h' wb Z6 YE (UM w l):=by
 obtain⟨pw,cw,rfl⟩:=iv.isSlice
 obtain⟨j,hj⟩:∃j:Nat,(j:Int)=l.to:=⟨l.to.toNat,by omega⟩
 have hj5:j<5:=by omega
 have hjn:l.to.toNat=j:=by omega
 refine Zd.Zi (args:=[_,_]) Tryz.func27 rfl rfl rfl rfl ?_
 unfold Zn YX
 obtain⟨h1,YF⟩:=Zx (h.push (.cells (YX l (.slice pw l.vs.length cw)).toArray 98):Hp)
 have k1:Kp J9 o h o h1:=by rw[YF];exact ZV d _
 have x3:ZM o h1 h.size (.cells (YX l (.slice pw l.vs.length cw)).toArray 98):=⟨d _ (Nat.le_refl _),by rw[YF];exact Zb⟩
 have e0:=YF.symm
 unfold YX at e0
 have A1:=A.still k1
 have R1:=YY A1.wd.ZE.2
 obtain⟨b,off,c,hn,hc5,hb,hrd⟩:=U2 A1.wd
 have Rn:=R1.nodes
 rw[hn]at Rn
 have hwb:=Za A1.wd.ZE.2
 have r3:hc h1 ⟨h.size,2,none⟩=some (.int .i64 j):=by rw[hj];exact Zg x3.2
 have l3:=Za x3.2
 have rj:=hrd j hj5
 unfold Zn at rj
 have ZGU:(j:Int)<5:=by omega
 simp -implicitDefEqProofs only[go_sem,↓reduceIte,e0]
 refine VS.mono (N:=fun F' g'=>Zf h1.size h1 g'∧F' 3=.pointer (some ⟨h.size,0,none⟩)∧F' 4=.pointer (some ⟨Z6 j,0,none⟩)) ?_ ?_ (fun _ _ _ h=>h) (fun _ _ h=>h)
 ·refine VS.z (h1.size) [] (.p 0 (.p 1 (.p 2 (.q 3 (.p 4 (.q 5 (.p 6 (.q 7 (.p 8 .nil))))))))) mixed (by kernel_rfl) ?_
  simp -implicitDefEqProofs only[go_sem,↓reduceIte,Rn,r3,hwb,l3,hb,ZGU,rj]
  try exact Zf.refl _ _
 rintro F1 g1 ⟨b1,f3,f4⟩
 have kb:=ZB k1.ZU b1
 have A2:=A1.still kb
 have K2:=k1.trans kb
 have y3:=x3.Zc kb
 obtain⟨a,N2⟩:=A2.nd j hj5
 have P2:=Zw N2.ZE.2 N2.pt.store.len
 have P2u:=P2.up
 have hnb:=Za N2.ZE.2
 unfold UM
 rw[hjn]
 cases hu:(w.nodes j).up with
 | false=>
  rw[hu]at P2u
  rw[if_neg (by simp)]
  simp -implicitDefEqProofs only[go_sem,↓reduceIte,f4,P2u]
  exact⟨o,ZC K2,A2⟩
 | true=>
  rw[hu]at P2u
  rw[if_pos rfl]
  obtain⟨pi,ci,hi,_⟩:=Zbe N2.pt.inbox
  have P2i:=P2.inbox
  rw[hi]at P2i
  have r3:rd g1 ⟨h.size,0,none⟩ 14=some (YX l (.slice pw l.vs.length cw)):=Zo y3.2 rfl
  unfold YX at r3
  have l3:=Za y3.2
  simp -implicitDefEqProofs only[go_sem,↓reduceIte,f4,P2u]
  refine VS.z (g1.size) [7,10] (.p 0 (.p 1 (.p 2 (.p 3 (.q 4 (.q 5 (.s 6 (.w 7 (.p 8 (.p 9 (.w 10 .nil))))))))))) mixed (by kernel_rfl) ?_
  simp -implicitDefEqProofs only[go_sem,↓reduceIte,f3,f4,P2i,r3,hnb,l3]
  obtain⟨g2,QF⟩:=Zx (g1.push (.cells (YX l (.slice pw l.vs.length cw)).toArray 98):Hp)
  have k2:Kp J9 o g1 o g2:=by rw[QF];exact ZV K2.ZU _
  have e2:=QF.symm
  unfold YX at e2
  rw[e2]
  have N3:=N2.still k2
  have A3:=A2.still k2
  have K3:=K2.trans k2
  have LI:=N3.pt.inbox
  rw[hi]at LI
  refine ZqT LI K3.ZU ((iv.Zc K2).Zc k2) (by rw[QF];exact Zb) (hib j hj5) ?_
  intro p3 c3 o3 g3 L3 k3
  have k3:Kp (fun t=>t=.inbox j) o g2 o3 g3:=k3
  have N4:=ZS.ZqD N3.pt k3 L3
  have B4:=N3.ZE.Zc k3 (by intro e;cases e)
  have W4:=A3.wd.Zc k3 (by rintro t rfl;simp[Tg.of])
  obtain⟨g5,w5,N5,k5⟩:=ZS.write N4 k3.ZU B4 ((YP B4.2 N3.pt.store.len).inbox (.slice p3 ((w.nodes j).inbox.length+1) c3) rfl)
  have Zfx:=Za B4.2
  simp -implicitDefEqProofs only[go_sem,↓reduceIte,w5,Zfx]
  have W5:=W4.Zc k5 (by rintro t rfl;simp[Tg.of])
  have kk:Kp (fun t=>t.of=some j) o g2 o3 g5:=(k3.mono fun t q=>by rw[q];rfl).trans (k5.mono fun t q=>by rw[q];rfl)
  exact⟨o3,(ZC K3).trans (kk.mono fun t q=>⟨j,q⟩),A3.Xg (kk.mono fun t q=>.inr (.inr (.inr q))) N5 W5⟩
theorem ZoP {o:Ow} {t:Tg} {h:Hp} {v:Value} {l:List Y6} (s:QJ o t h v l) (k:Nat) (hk:k<l.length) :
  ∃w b off c,v=.slice (some ⟨b,off,none⟩) l.length c∧l.length≤c∧b<h.size∧rd h ⟨b,off+k*14,none⟩ 14=some (YX l[k] w)∧ImV o h w l[k].vs:=by
 obtain⟨xs,rfl,h2,h3⟩:=s
 rw[List.length_map]at hk
 rcases h2 with⟨_,e,_⟩|⟨b,off,cap,pre,spare,g1,rfl,g3,g4,g5,g6,g7⟩
 ·omega
 refine⟨xs[k].2,b,off,cap,by rw[List.length_map],by rw[List.length_map];exact g7,Za g3,?_,?_⟩
 ·have hlen:∀x,(lwC x).length=14:=fun x=>rfl
  have hle:k*14+14≤xs.length*14:=by omega
  rw[Z4 g3 (by simp only[List.length_append];omega),←g4,List.drop_append,List.drop_of_length_le (by omega),List.nil_append,Nat.add_sub_cancel_left]
  rw[List.drop_append_of_le_length (by omega),List.take_append_of_le_length (by rw[List.length_drop];omega)]
  rw[Zbc hlen xs k (by omega),List.drop_eq_getElem_cons hk]
  have e1:Zz lwC (xs[k] :: xs.drop (k+1))=YX xs[k].1 xs[k].2++Zz lwC (xs.drop (k+1)):=by simp[Zz,lwC]
  rw[e1,List.getElem_map]
  rfl
 ·rw[List.getElem_map]
  exact h3 _ (List.getElem_mem hk)
theorem ZqU {o':Ow} {t:Tg} {h':Hp} {xs:List (Y6 × Value)} {v:Value} {k:Nat} (hk:k<xs.length) (h2:YA o' t 98 14 h' v (xs.length-1) ((Zz lwC xs).take (k*14)++(Zz lwC xs).drop ((k+1)*14))) (h3:∀x∈xs,ImV o' h' x.2 x.1.vs) :
  QJ o' t h' v ((xs.map (·.1)).eraseIdx k):=by
 have hlen:∀x,(lwC x).length=14:=fun x=>rfl
 have el:(xs.eraseIdx k).length=xs.length-1:=by rw[List.length_eraseIdx_of_lt hk]
 refine⟨xs.eraseIdx k,?_,?_,fun x hx=>h3 x (List.mem_of_mem_eraseIdx hx)⟩
 ·rw[List.eraseIdx_eq_take_drop_succ,List.eraseIdx_eq_take_drop_succ,List.map_append,List.map_take,List.map_drop]
 ·rw[el]
  have e1:Zz lwC (xs.eraseIdx k)=(Zz lwC xs).take (k*14)++(Zz lwC xs).drop ((k+1)*14):=by
   rw[Zbb hlen xs k (by omega),Zbc hlen xs (k+1) (by omega),←Yh,List.eraseIdx_eq_take_drop_succ]
  rw[e1]
  exact h2
theorem ZF.ZiD {o o1:Ow} {h h1:Hp} {wb:Nat} {nb:Nat→Nat} {a:WA} {fl fl':List Y6} {bad:Nat→Int} {told:List Tld} {v:Value} (W:ZF o h wb nb a fl bad told) (k:Kp (fun t=>t=.Zl) o h o1 h1)
  (hv:QJ o1 .Zl h1 v fl') {e:Option Hp} (w:e=some (h1.setIfInBounds wb (.cells (Y9 bad { a with Zl:=v }).toArray 55))) :
  ∃g,e=some g∧ZF o1 g wb nb { a with Zl:=v } fl' bad told∧Kp (fun t=>t=.world) o1 h1 o1 g:=by
 have b:=W.ZE.Zc k (by intro e;cases e)
 have kk:Kp (fun t=>t=.world) o1 h1 o1 (h1.setIfInBounds wb (.cells (Y9 bad { a with Zl:=v }).toArray 55)):=(Kp.refl k.ZU (fun t=>t=.world)).set b.1 rfl _
 exact⟨_,w,⟨⟨b.1,Zu b.2⟩,(W.nodes.Zc k (by intro e;cases e)).Zc kk (by intro e;cases e),hv.Zc kk (by intro e;cases e),(W.told.Zc k (by intro e;cases e)).Zc kk (by intro e;cases e)⟩,kk⟩
theorem X8.Zwj {S:Tg→Prop} {o o':Ow} {h h':Hp} {wb:Nat} {Z6:Nat→Nat} {YE WA1:WA} {w:Wd} {fl:List Y6} {bad:Nat→Int} {told:List Tld} (A:X8 o h wb Z6 YE w) (k:Kp S o h o' h') (hn:∀t,S t→t.of=none) (W:ZF o' h' wb Z6 WA1 fl bad told) :
  X8 o' h' wb Z6 WA1 { w with Zl:=fl,bad:=bad,told:=told }:=
 ⟨W,fun i hi=>by obtain⟨a,N⟩:=A.nd i hi;exact⟨a,N.Zc k fun t q e=>by rw[hn t q]at e;cases e⟩⟩
theorem Zwk {o:Ow} {h:Hp}:∀(xs:List (Y6 × Value)),(∀x∈xs,ImV o h x.2 x.1.vs)→(Zz lwC xs).all Z8=true:=by
 intro xs
 induction xs with
 | nil=>intro _;rfl
 | cons x xs ih=>
  intro hx
  have e1:Zz lwC (x :: xs)=lwC x++Zz lwC xs:=by simp[Zz]
  obtain⟨p,c,hw⟩:=(hx x (by simp)).isSlice
  rw[e1,List.all_append,ih (fun y hy=>hx y (by simp[hy])),Bool.and_true]
  unfold lwC
  rw[hw];rfl
set_option maxHeartbeats 4000000 in
theorem ZtY (T:World) (h:Hp) (o:Ow) (wb:Nat) (Z6:Nat→Nat) (YE:WA) (w:Wd) (at':Nat) (comes stays:Bool) (d:Dom o h) (A:X8 o h wb Z6 YE w) (hto:∀l∈w.Zl,0≤l.to∧l.to<5)
  (hfl:w.Zl.length≤1000000000000) (hib:∀i,i<5→(w.nodes i).inbox.length≤1000000000000) :
  Zd Tryz.prog T 26 #[Zn wb,.int .i64 at',.bool comes,.bool stays] h fun v' h'=>∃o' Xq,Kp Zbd o h o' h'∧X8 o' h' wb Z6 Xq (pick w at' comes stays):=by
 refine Zd.Zi (args:=[_,_,_,_]) Tryz.func26 rfl rfl rfl rfl ?_
 unfold Zn
 have R:=YY A.wd.ZE.2
 have Rf:=R.Zl
 have hwb:=Za A.wd.ZE.2
 obtain⟨pf,cf,hf,hfc⟩:=Zbe A.wd.Zl
 rw[hf]at Rf
 by_cases hz:w.Zl.length=0
 ·have hp:pick w at' comes stays=w:=by
   unfold pick
   rw[List.getElem?_eq_none (by rw[hz];exact Nat.zero_le _)]
  rw[hp]
  have hz':(w.Zl.length:Int)=0:=by omega
  simp -implicitDefEqProofs only[go_sem,↓reduceIte,Rf,hz']
  exact⟨o,YE,Kp.refl d _,A⟩
 have hz':¬(w.Zl.length:Int)=0:=by omega
 obtain⟨k,hk⟩:=Zx (at'%w.Zl.length)
 have hkl:k<w.Zl.length:=by rw[hk];exact Nat.mod_lt _ (by omega)
 have ek:(at':Int).tmod (w.Zl.length:Int)=(k:Int):=by rw[hk];rfl
 have ZyJ:(k:Int)<w.Zl.length:=by omega
 obtain⟨v,b,off,c,hv,hvc,hb,hrd,iv⟩:=ZoP A.wd.Zl k hkl
 rw[hf]at hv
 simp only[Value.slice.injEq]at hv
 obtain⟨rfl,_,rfl⟩:=hv
 obtain⟨l,hl⟩:=Zx (w.Zl[k])
 rw[←hl]at hrd iv
 have hlm:l∈w.Zl:=by rw[hl];exact List.getElem_mem hkl
 obtain⟨pw,cw,rfl⟩:=iv.isSlice
 obtain⟨h1,YF⟩:=Zx (h.push (.cells (YX l (.slice pw l.vs.length cw)).toArray 98):Hp)
 have k1:Kp J9 o h o h1:=by rw[YF];exact ZV d _
 have x9:ZM o h1 h.size (.cells (YX l (.slice pw l.vs.length cw)).toArray 98):=⟨d _ (Nat.le_refl _),by rw[YF];exact Zb⟩
 have e0:=YF.symm
 unfold YX at e0 hrd
 have A1:=A.still k1
 have R1:=YY A1.wd.ZE.2
 have R1f:=R1.Zl
 rw[hf]at R1f
 have ZyK:=Za A1.wd.ZE.2
 have r9:rd h1 ⟨h.size,0,none⟩ 14=some (YX l (.slice pw l.vs.length cw)):=Zo x9.2 rfl
 unfold YX at r9
 have eg:w.Zl[at'%w.Zl.length]? = some l:=by rw[←hk,hl];exact List.getElem?_eq_getElem hkl
 have ep:pick w at' comes stays=if comes=true then UM (if stays=true then w else { w with Zl:=w.Zl.eraseIdx k }) l else (if stays=true then w else { w with Zl:=w.Zl.eraseIdx k }):=by
  unfold pick;rw[eg,hk]
 rw[ep]
 cases stays with
 | true=>
  rw[if_pos rfl]
  cases comes with
  | false=>
   rw[if_neg (by simp)]
   simp -implicitDefEqProofs only[go_sem,↓reduceIte,Rf,hz',ek,ZyJ,hrd,e0]
   exact⟨o,YE,Yb k1,A1⟩
  | true=>
   rw[if_pos rfl]
   have cc:=ZjH T h1 o wb Z6 YE w l (.slice pw l.vs.length cw) k1.ZU A1 (iv.Zc k1) (hto l hlm) hib
   unfold Zn YX at cc
   simp -implicitDefEqProofs only[go_sem,↓reduceIte,Rf,hz',ek,ZyJ,hrd,e0,r9]
   refine cc.use ?_
   rintro v' g ⟨o',kk,A'⟩
   simp -implicitDefEqProofs only[go_sem,↓reduceIte]
   exact⟨o',YE,(Yb k1).trans (Yb kk),A'⟩
 | false=>
  rw[if_neg (show ¬(false=true) by simp)]
  obtain⟨xs,Qu,hx2,hx3⟩:=A1.wd.Zl
  have hxl:xs.length=w.Zl.length:=by rw[←Qu,List.length_map]
  have cd:=Zln T h1 o .Zl YE.Zl xs.length k (Zz lwC xs) hx2 k1.ZU (Zwk xs hx3) (by omega) (by omega)
  rw[hf]at cd
  have ek2:(k:Int)+1=((k:Int)+1):=rfl
  simp -implicitDefEqProofs only[go_sem,↓reduceIte,Rf,hz',ek,ZyJ,hrd,e0,R1f]
  refine cd.use ?_
  rintro v2 g2 ⟨L2,k2⟩
  have k2:Kp (fun t=>t=.Zl) o h1 o g2:=k2
  have L3:QJ o .Zl g2 v2 (w.Zl.eraseIdx k):=by
   rw[←Qu]
   exact ZqU (by omega) L2 (fun x hx=>(hx3 x hx).Zc k2)
  have B2:=A1.wd.ZE.Zc k2 (by intro e;cases e)
  obtain⟨p2,c2,rfl,_⟩:=Zbe L3
  obtain⟨g3,w3,W3,k3⟩:=A1.wd.ZiD k2 L3 ((YY B2.2).ZjD (.slice p2 (w.Zl.eraseIdx k).length c2) rfl)
  have A3:X8 o g3 wb Z6 { YE with Zl:=.slice p2 (w.Zl.eraseIdx k).length c2 } { w with Zl:=w.Zl.eraseIdx k }:=
   A1.Zwj (S:=fun t=>t=.Zl∨t=.world) ((k2.mono fun t q=>.inl q).trans (k3.mono fun t q=>.inr q)) (by rintro t (rfl|rfl)<;>rfl) W3
  have ZyL:=Za B2.2
  have y9:=(x9.Zc k2).Zc k3
  have r9:rd g3 ⟨h.size,0,none⟩ 14=some (YX l (.slice pw l.vs.length cw)):=Zo y9.2 rfl
  unfold YX at r9
  have K3:Kp Zbd o h o g3:=((Yb k1).trans (Yb k2)).trans (Yb k3)
  cases comes with
  | false=>
   rw[if_neg (show ¬(false=true) by simp)]
   simp -implicitDefEqProofs only[go_sem,↓reduceIte,w3,ZyL]
   exact⟨o,_,K3,A3⟩
  | true=>
   rw[if_pos rfl]
   have cc:=ZjH T g3 o wb Z6 _ _ l (.slice pw l.vs.length cw) k3.ZU A3 (((iv.Zc k1).Zc k2).Zc k3) (hto l hlm) hib
   unfold Zn YX at cc
   simp -implicitDefEqProofs only[go_sem,↓reduceIte,w3,ZyL,r9]
   refine cc.use ?_
   rintro v' g ⟨o',kk,A'⟩
   simp -implicitDefEqProofs only[go_sem,↓reduceIte]
   exact⟨o',_,K3.trans (Yb kk),A'⟩
theorem Zwl (rc:List Nat) (now:Int):Zlk rc now=(Ui rc now).C:=by
 unfold Zlk Ui
 split<;>rfl
theorem ZyM {h:Hp} {wb:Nat} {bad:Nat→Int} {a:WA} (H:h[wb]? = some (.cells (Y9 bad a).toArray 55)) (i:Nat) (hi:i<5) :
  hc h ⟨wb,9+i,none⟩=some (.int .i64 (bad i))∧∀k,Jp h ⟨wb,9+i,none⟩ (.int .i64 k)=some (h.setIfInBounds wb (.cells (Y9 (fun j=>if j=i then k else bad j) a).toArray 55)):=by
 match i,hi with
 | 0,_=>exact⟨Zg H,fun k=>by rw[Yu H,if_pos ⟨by simp[Y9],rfl⟩];rfl⟩
 | 1,_=>exact⟨Zg H,fun k=>by rw[Yu H,if_pos ⟨by simp[Y9],rfl⟩];rfl⟩
 | 2,_=>exact⟨Zg H,fun k=>by rw[Yu H,if_pos ⟨by simp[Y9],rfl⟩];rfl⟩
 | 3,_=>exact⟨Zg H,fun k=>by rw[Yu H,if_pos ⟨by simp[Y9],rfl⟩];rfl⟩
 | 4,_=>exact⟨Zg H,fun k=>by rw[Yu H,if_pos ⟨by simp[Y9],rfl⟩];rfl⟩
theorem ZtZ {i:Nat} (t:Tg) (q:ZyA i t):Xz i t:=by
 rcases q with rfl|rfl<;>exact .inr (.inr (.inr rfl))
theorem add_same (n:Nd) (x:Cm):(add n x).waiting=n.waiting∧(add n x).me=n.me:=by
 unfold add;split<;>exact⟨rfl,rfl⟩
set_option maxHeartbeats 4000000 in
theorem ZqV (T:World) (h:Hp) (o:Ow) (wb:Nat) (Z6:Nat→Nat) (YE:WA) (w:Wd) (i:Nat) (rc:List Nat) (v:Value) (d:Dom o h) (A:X8 o h wb Z6 YE w) (hi:i<5) (hme:(w.nodes i).me=i) (iv:ImB o h v rc) (JO:Cap v) (hrl:rc.length≤140737488355328) (tb:Tbs o h)
  (hq:(w.nodes i).queue.length≤1000000000000) (hl:(w.nodes i).log.length≤1000000000000) (hwt:(w.nodes i).waiting.length≤1000000000000) (ht:w.told.length≤1000000000000) (hb:0≤w.bad i∧w.bad i≤1000000000000) :
  Zd Tryz.prog T 23 #[Zn wb,Zn (Z6 i),v] h fun v' h'=>∃o' Xq,Kp Zbd o h o' h'∧X8 o' h' wb Z6 Xq (Zc9 w i rc):=by
 obtain⟨pv,cv,rfl⟩:=iv.1.isSlice
 refine Zd.Zi (args:=[_,_,_]) Tryz.func23 rfl rfl rfl rfl ?_
 unfold Zn
 obtain⟨a,N⟩:=A.nd i hi
 obtain⟨n,hn⟩:=Zx (w.nodes i)
 unfold Zc9
 rw[←hn]at N hme hq hl hwt ⊢
 have P:=Zw N.ZE.2 N.pt.store.len
 have hnb:=Za N.ZE.2
 have Pu:=P.up
 cases hu:n.up with
 | false=>
  rw[hu]at Pu
  rw[if_neg (by simp)]
  simp -implicitDefEqProofs only[go_sem,↓reduceIte,Pu]
  exact⟨o,YE,Kp.refl d _,A⟩
 | true=>
 rw[hu]at Pu
 rw[if_pos rfl]
 have Pl:=P.log
 obtain⟨pl,cl,hpl,_⟩:=YA.isSlice N.pt.log
 have hpl:a.log=.slice pl n.log.length cl:=hpl
 rw[hpl]at Pl
 obtain⟨E,hE⟩:=Zx (Y8 rc n.log.length)
 obtain⟨x,hx⟩:=Zx (Ui rc n.log.length)
 have co:=Ztw T h (.slice pv rc.length cv) rc n.log.length iv.bs JO hrl tb.tk tb.tn
 rw[Zwl,←hE,←hx]at co
 rw[←hE,←hx]
 simp -implicitDefEqProofs only[go_sem,↓reduceIte,Pu,Pl]
 refine co.use ?_
 rintro _ g ⟨rfl,b⟩
 have kb:=ZB d b
 obtain⟨g1,hg1⟩:=Zx (g.push (.cells x.C.toArray 77):Hp)
 have e1:=hg1.symm
 have k1:Kp J9 o h o g1:=by rw[hg1];exact kb.push _
 have x6:ZM o g1 g.size (.cells x.C.toArray 77):=⟨kb.ZU _ (Nat.le_refl _),by rw[hg1];exact Zb⟩
 have A1:=A.still k1
 have N1:=N.still k1
 have P1:=Zw N1.ZE.2 N1.pt.store.len
 have ZyN:=P1.me
 rw[hme]at ZyN
 have JE:=Za N1.ZE.2
 have ZyK:=Za A1.wd.ZE.2
 obtain⟨br,bw⟩:=ZyM A1.wd.ZE.2 i hi
 have r6:rd g1 ⟨g.size,0,none⟩ 5=some x.C:=Zo x6.2 rfl
 have l6:=Za x6.2
 have hi5:(i:Int)<5:=by omega
 by_cases hz:E=0
 case neg=>
  rw[if_pos (by simpa using hz)]
  simp -implicitDefEqProofs only[go_sem,↓reduceIte,e1,hz]
  refine VS.z (g1.size) [15] (.p 0 (.p 1 (.p 2 (.p 3 (.q 4 (.p 5 (.p 6 (.p 7 (.p 8 (.q 9 (.p 10 (.p 11 (.p 12 (.p 13 (.p 14 (.w 15 .nil)))))))))))))))) mixed (by kernel_rfl) ?_
  simp -implicitDefEqProofs only[go_sem,↓reduceIte,ZyN,JE,ZyK,hi5,br,bw]
  have kk:Kp (fun t=>t=.world) o g1 o (g1.setIfInBounds wb (.cells (Y9 (fun j=>if j=i then w.bad i+1 else w.bad j) YE).toArray 55)):=(Kp.refl k1.ZU (fun t=>t=.world)).set A1.wd.ZE.1 rfl _
  exact⟨o,YE,(Yb k1).trans (Yb kk),A1.Zwj kk (by rintro t rfl;rfl) ⟨⟨A1.wd.ZE.1,Zu A1.wd.ZE.2⟩,A1.wd.nodes.Zc kk (by intro e;cases e),A1.wd.Zl.Zc kk (by intro e;cases e),A1.wd.told.Zc kk (by intro e;cases e)⟩⟩
 rw[if_neg (by simpa using hz)]
 have P1l:hc g1 ⟨Z6 i,11,none⟩=some a.log:=P1.log
 simp -implicitDefEqProofs only[go_sem,↓reduceIte,e1,hz]
 obtain⟨J,hJ⟩:=Zx (Zba n.log x)
 refine VS.mono (N:=fun F' g'=>Zf g1.size g1 g'∧F' 0=.pointer (some ⟨wb,0,none⟩)∧F' 1=.pointer (some ⟨Z6 i,0,none⟩)∧F' 6=.pointer (some ⟨g.size,0,none⟩)∧F' 8=.int .i64 J) ?_ ?_ (fun _ _ _ h=>h) (fun _ _ h=>h)
 ·refine VS.z (g1.size) [5] (.p 0 (.p 1 (.p 2 (.q 3 (.q 4 (.w 5 (.p 6 .nil))))))) mixed (by kernel_rfl) ?_
  simp -implicitDefEqProofs only[go_sem,↓reduceIte,P1l,r6,JE,l6]
  refine (Zg0 T g1 _ n.log x N1.pt.log.ts (by omega)).use ?_
  rintro _ g2 ⟨rfl,b2⟩
  simp -implicitDefEqProofs only[go_sem,↓reduceIte,b2,hJ]
 rintro F2 g2 ⟨b2,f0,f1,f6,f8⟩
 have kb2:=ZB k1.ZU b2
 have A2:=A1.still kb2
 have N2:=N1.still kb2
 have y6:=x6.Zc kb2
 have K2:Kp J9 o h o g2:=k1.trans kb2
 have P2:=Zw N2.ZE.2 N2.pt.store.len
 have ZqS:=P2.me
 rw[hme]at ZqS
 have JH:=Za N2.ZE.2
 have ZyL:=Za A2.wd.ZE.2
 have r62:rd g2 ⟨g.size,0,none⟩ 5=some x.C:=Zo y6.2 rfl
 have l62:=Za y6.2
 clear r6 l6 JE ZyK br bw P1 ZyN P1l e1
 by_cases hm:x∈n.log
 ·have hJ0:0≤J:=by rw[hJ];exact (Zd8 _ _).2 hm
  rw[if_pos hm]
  have call:=fun G=>ZoH T G n.store N2.pt.store x
  have P2s:rd g2 ⟨Z6 i,12,none⟩ 40=some n.store:=P2.store
  obtain⟨D,hDe⟩:=Zx (ZjB n.store x)
  obtain⟨E2,hE2⟩:=Zx (Zd3 n.store x)
  obtain⟨c1,hc1⟩:=Zx (Zc6 n.store x)
  obtain⟨c2,hc2⟩:=Zx (ZgV n.store x)
  have hD:=N2.pt.store.do x
  rw[←hDe]at hD
  rw[←hDe,←hE2,←hc1,←hc2]at call
  rw[←hc1,←hc2]
  have hD1:=hD.len
  have hD2:=hD.one
  unfold cmA at call
  have hl2:=ZN (zs:=Jx) (vs:=D) (by rw[hD1];rfl)
  unfold Jx at hl2
  simp only[rep,List.cons_append,List.nil_append]at hl2
  have wA:∀(G:Hp) (k:Nat),G[k]? = some (.cells Jx.toArray 72)→wr G ⟨k,0,none⟩ D=some (G.setIfInBounds k (.cells D.toArray 72)):=fun G k hx=>by
   rw[ZQ hx 0 D,ZN (by rw[hD1];rfl),if_pos ⟨by rw[hD1];simp[Jx,rep],hD2⟩]
  have wB:∀(G:Hp) (k:Nat),G[k]? = some (.cells [.int .i64 0,.int .i64 0].toArray 68)→wr G ⟨k,0,none⟩ [.int .i64 c1,.int .i64 c2]=some (G.setIfInBounds k (.cells [.int .i64 c1,.int .i64 c2].toArray 68)):=fun G k hx=>by
   rw[ZQ hx 0 _];rfl
  have gl:∀(G:Hp) (X Y:Obj),((G.push X).push Y)[G.size]? = some X:=fun G X Y=>by rw[Zq (by simp),Zb]
  have gs:∀(G:Hp) (k:Nat) (X Y:Obj),((G.setIfInBounds k X).push Y)[G.size]? = some Y:=fun G k X Y=>by
   have:=Zb (h:=G.setIfInBounds k X) (o:=Y);rwa [Array.size_setIfInBounds]at this
  have gl':=gs
  have gr:∀(G:Hp) (X Y:Obj),((G.push X).push Y)[G.size+1]? = some Y:=fun G X Y=>by
   have:=Zb (h:=G.push X) (o:=Y);rwa [Array.size_push]at this
  simp -implicitDefEqProofs only[go_sem,↓reduceIte,f8,hJ0]
  refine VS.mono (N:=fun F' g'=>Zf g2.size g2 g'∧F' 0=.pointer (some ⟨wb,0,none⟩)∧F' 1=.pointer (some ⟨Z6 i,0,none⟩)∧F' 6=.pointer (some ⟨g.size,0,none⟩)∧∃B,F' 10=.pointer (some ⟨B,0,none⟩)∧g2.size≤B∧g'[B]? = some (.cells [.int .i64 c1,.int .i64 c2].toArray 68)) ?_ ?_ (fun _ _ _ h=>h) (fun _ _ h=>h)
  ·refine VS.z (g2.size) [5,12,13] (.p 0 (.p 1 (.p 2 (.q 3 (.q 4 (.or 5 (.p 6 (.p 7 (.p 8 (.p 9 (.or 10 (.s 11 (.w 12 (.w 13 (.p 14 .nil)))) (.s 11 (.s 10 (.w 12 (.w 13 (.p 14 .nil)))))))))) (.or 10 (.or 5 (.p 6 (.p 7 (.p 8 (.p 9 (.s 11 (.w 12 (.w 13 (.p 14 .nil)))))))) (.s 11 (.w 5 (.p 6 (.p 7 (.p 8 (.p 9 (.w 12 (.w 13 (.p 14 .nil)))))))))) (.s 11 (.or 5 (.p 6 (.p 7 (.p 8 (.p 9 (.s 10 (.w 12 (.w 13 (.p 14 .nil)))))))) (.s 10 (.w 5 (.p 6 (.p 7 (.p 8 (.p 9 (.w 12 (.w 13 (.p 14 .nil)))))))))))))))))) mixed (by kernel_rfl) ?_
   simp -implicitDefEqProofs only[go_sem,↓reduceIte,f0,f1,f6,P2s,JH,l62,r62]
   repeat' (first|with_reducible exact Zf.refl _ _|with_reducible exact Zf.push (by omega) _|with_reducible refine And.intro ?_ ?_)
   all_goals first
    | (refine (call g2).use ?_
       rintro _ g5 ⟨rfl,b5⟩
       have s5:=b5.size
       simp -implicitDefEqProofs only[go_sem,↓reduceIte,b5,hD1,hD2,hl2]
       refine⟨⟨f0,f1,f6,_,rfl,by omega,gr _ _ _⟩,⟨f0,f1,f6,_,rfl,s5,gl _ _ _⟩⟩)
    | (refine (call (g2.push (.cells _ 72))).use ?_
       rintro _ g5 ⟨rfl,b5⟩
       have s5:=b5.size
       rw[Array.size_push]at s5
       have B5:Zf g2.size g2 g5:=(Zf.push (Nat.le_refl _) _).trans (b5.mono (by simp))
       have xA:=b5.get (k:=g2.size) (by simp) Zb
       have wA5:=wA _ _ xA
       have zA:=Za xA
       simp -implicitDefEqProofs only[go_sem,↓reduceIte,B5,hD1,hD2,wA5,zA]
       exact⟨f0,f1,f6,_,rfl,by omega,gs _ _ _ _⟩)
    | (refine (call (g2.push (.cells _ 68))).use ?_
       rintro _ g5 ⟨rfl,b5⟩
       have s5:=b5.size
       rw[Array.size_push]at s5
       have B5:Zf g2.size g2 g5:=(Zf.push (Nat.le_refl _) _).trans (b5.mono (by simp))
       have xB:=b5.get (k:=g2.size) (by simp) Zb
       have wB5:=wB _ _ xB
       have zB:=Za xB
       have gB:=Zu (o:=.cells [.int .i64 c1,.int .i64 c2].toArray 68) xB
       simp -implicitDefEqProofs only[go_sem,↓reduceIte,B5,hD1,hD2,wB5,hl2,zB]
       exact⟨f0,f1,f6,_,rfl,Nat.le_refl _,by rw[Zq (by simpa using zB)];exact gB⟩)
    | (refine (call ((g2.push (.cells _ 72)).push (.cells _ 68))).use ?_
       rintro _ g5 ⟨rfl,b5⟩
       have s5:=b5.size
       rw[Array.size_push,Array.size_push]at s5
       have B5:Zf g2.size g2 g5:=((Zf.push (Nat.le_refl _) _).Ye (by simp) _).trans (b5.mono (by simp;omega))
       have xA:=b5.get (k:=g2.size) (by simp;omega) (gl _ _ _)
       have xB:=b5.get (k:=g2.size+1) (by simp) (gr _ _ _)
       have wA5:=wA _ _ xA
       have zA:=Za xA
       have xB':=(Yf (o:=.cells D.toArray 72) (show g2.size≠g2.size+1 by omega)).trans xB
       have wB5:=wB _ _ xB'
       have zB:=Za xB'
       simp -implicitDefEqProofs only[go_sem,↓reduceIte,B5,hD1,hD2,wA5,zA,wB5,zB]
       exact⟨f0,f1,f6,_,rfl,by omega,Zu xB'⟩)
    | (refine (call ((g2.push (.cells _ 68)).push (.cells _ 72))).use ?_
       rintro _ g5 ⟨rfl,b5⟩
       have s5:=b5.size
       rw[Array.size_push,Array.size_push]at s5
       have B5:Zf g2.size g2 g5:=((Zf.push (Nat.le_refl _) _).Ye (by simp) _).trans (b5.mono (by simp;omega))
       have xB:=b5.get (k:=g2.size) (by simp;omega) (gl _ _ _)
       have xA:=b5.get (k:=g2.size+1) (by simp) (gr _ _ _)
       have wA5:=wA _ _ xA
       have zA:=Za xA
       have xB':=(Yf (o:=.cells D.toArray 72) (show g2.size+1≠g2.size by omega)).trans xB
       have wB5:=wB _ _ xB'
       have zB:=Za xB'
       simp -implicitDefEqProofs only[go_sem,↓reduceIte,B5,hD1,hD2,wA5,zA,wB5,zB]
       exact⟨f0,f1,f6,_,rfl,by omega,Zu xB'⟩)
  clear f0 f1 f6 f8
  rintro F5 g5 ⟨b5,f0,f1,f6,B,f10,hB,yB⟩
  have kb5:=ZB K2.ZU b5
  have A5:=A2.still kb5
  have N5:=N2.still kb5
  have z6:=y6.Zc kb5
  have K5:Kp J9 o h o g5:=K2.trans kb5
  have xB:ZM o g5 B (.cells [.int .i64 c1,.int .i64 c2].toArray 68):=⟨K2.ZU _ hB,yB⟩
  have ZGV:=(Zw N5.ZE.2 N5.pt.store.len).me
  have Zdc:=Za N5.ZE.2
  have U5:=YY A5.wd.ZE.2
  have ZnN:=Za A5.wd.ZE.2
  have rx1:hc g5 ⟨g.size,1,none⟩=some (.int .i64 x.c):=Zg z6.2
  have rx2:hc g5 ⟨g.size,2,none⟩=some (.int .i64 x.s):=Zg z6.2
  have rB:rd g5 ⟨B,0,none⟩ 2=some [.int .i64 c1,.int .i64 c2]:=Zo yB rfl
  have zx:=Za z6.2
  have zB:=Za yB
  refine VS.z (g5.size) [17,21] (.p 0 (.p 1 (.p 2 (.p 3 (.p 4 (.q 5 (.p 6 (.p 7 (.p 8 (.q 9 (.p 10 (.q 11 (.p 12 (.q 13 (.q 14 (.p 15 (.s 16 (.w 17 (.p 18 (.p 19 (.p 20 (.w 21 .nil)))))))))))))))))))))) mixed (by kernel_rfl) ?_
  simp -implicitDefEqProofs only[go_sem,↓reduceIte,f0,f1,f6,f10,U5.told,ZGV,rx1,rx2,rB,Zdc,ZnN,zx,zB]
  have k6:=ZV K5.ZU (.cells (ZgZ ⟨n.me,x.c,x.s,c1,c2⟩).toArray 116)
  have A6:=A5.still k6
  refine Zfj (l:=w.told) (x:=⟨n.me,x.c,x.s,c1,c2⟩) A6.wd.told k6.ZU Zb ht ?_
  intro p7 c7 o7 g7 q7 k7
  have b7:=A6.wd.ZE.Zc k7 (by intro e;cases e)
  obtain⟨g8,w8,W8,k8⟩:=A6.wd.ZoI k7 q7 ((YY b7.2).Zxd (.slice p7 _ c7) rfl)
  have z7:=Za b7.2
  simp -implicitDefEqProofs only[go_sem,↓reduceIte,w8,z7]
  have A8:=A6.Zwj (S:=fun t=>t=.told∨t=.world) ((k7.mono fun t q=>.inl q).trans (k8.mono fun t q=>.inr q)) (by rintro t (rfl|rfl)<;>rfl) W8
  exact⟨o7,_,(((Yb K5).trans (Yb k6)).trans (Yb k7)).trans (Yb k8),A8⟩
 ·have hJ0:¬0≤J:=by rw[hJ];exact fun e=>hm ((Zd8 _ _).1 e)
  rw[if_neg hm]
  have ca:=ZtF T g2 o wb i (Z6 i) a n x K2.ZU N2 hq hl
  unfold Zn cmA at ca
  simp -implicitDefEqProofs only[go_sem,↓reduceIte,f1,f6,f8,hJ0,r62]
  refine ca.use ?_
  rintro v3 g3 ⟨o3,a3,k3,N3⟩
  have k3a:Kp (Xz i) o g2 o3 g3:=k3.mono ZtZ
  obtain⟨aw,am⟩:=add_same n x
  obtain⟨m,hm2⟩:=Zx (add n x)
  rw[←hm2]at N3 aw am ⊢
  have W3:=A2.wd.Zc k3 (by rintro t (rfl|rfl)<;>simp[Tg.of])
  have z6:=y6.Zc k3
  have P3:=Zw N3.ZE.2 N3.pt.store.len
  have P3w:hc g3 ⟨Z6 i,53,none⟩=some a3.waiting:=P3.waiting
  have Zdb:=Za N3.ZE.2
  have r63:rd g3 ⟨g.size,0,none⟩ 5=some x.C:=Zo z6.2 rfl
  have l63:=Za z6.2
  have hmw:m.waiting.length≤1000000000000:=by rw[aw];exact hwt
  have K3:Kp Zbd o h o3 g3:=(Yb K2).trans (Yb k3)
  simp -implicitDefEqProofs only[go_sem,↓reduceIte]
  refine VS.mono (N:=fun F' g'=>Zf g3.size g3 g'∧F' 1=.pointer (some ⟨Z6 i,0,none⟩)∧F' 6=.pointer (some ⟨g.size,0,none⟩)∧F' 92=.bool (!decide (x∈m.waiting))) ?_ ?_ (fun _ _ _ h=>h) (fun _ _ h=>h)
  ·refine VS.z (g3.size) [5] (.p 0 (.p 1 (.p 2 (.q 3 (.q 4 (.w 5 (.p 6 .nil))))))) mixed (by kernel_rfl) ?_
   simp -implicitDefEqProofs only[go_sem,↓reduceIte,f1,f6,P3w,r63,Zdb,l63]
   refine (ZaK T g3 _ m.waiting x N3.pt.waiting.ts (by omega)).use ?_
   rintro _ g4 ⟨rfl,b4⟩
   simp -implicitDefEqProofs only[go_sem,↓reduceIte,b4]
   exact⟨f1,f6⟩
  clear f0 f1 f6
  rintro F4 g4 ⟨b4,f1,f6,f92⟩
  have kb4:=ZB K3.ZU b4
  have N4:=N3.still kb4
  have W4:=W3.still kb4
  have k4a:Kp (Xz i) o g2 o3 g4:=k3a.trans (ZC kb4)
  have K4:Kp Zbd o h o3 g4:=K3.trans (Yb kb4)
  by_cases Zwm:x∈m.waiting
  ·have e5:ZeB m x=m:=by unfold ZeB;rw[if_pos Zwm]
   rw[e5]
   simp -implicitDefEqProofs only[go_sem,↓reduceIte,f92,Zwm]
   exact⟨o3,_,K4,A2.Xg k4a N4 W4⟩
  ·have e5:ZeB m x = { m with waiting:=m.waiting++[x] }:=by unfold ZeB;rw[if_neg Zwm]
   rw[e5]
   have q6:=z6.Zc kb4
   have P4w:=(Zw N4.ZE.2 N4.pt.store.len).waiting
   obtain⟨pw,cw,hpw,_⟩:=YA.isSlice N4.pt.waiting
   have hpw:a3.waiting=.slice pw m.waiting.length cw:=hpw
   have P4w:hc g4 ⟨Z6 i,53,none⟩=some (.slice pw m.waiting.length cw):=by rw[←hpw];exact P4w
   have Zfx:=Za N4.ZE.2
   have r64:rd g4 ⟨g.size,0,none⟩ 5=some x.C:=Zo q6.2 rfl
   have l64:=Za q6.2
   simp -implicitDefEqProofs only[go_sem,↓reduceIte,f92,Zwm]
   refine VS.z (g4.size) [7,10] (.p 0 (.p 1 (.p 2 (.p 3 (.q 4 (.q 5 (.s 6 (.w 7 (.p 8 (.p 9 (.w 10 .nil))))))))))) mixed (by kernel_rfl) ?_
   simp -implicitDefEqProofs only[go_sem,↓reduceIte,f1,f6,P4w,r64,Zfx,l64]
   have k5:=ZV K4.ZU (.cells x.C.toArray 77)
   have N5:=N4.still k5
   have W5:=W4.still k5
   have Q5:=N5.pt.waiting
   rw[hpw]at Q5
   refine ZeD (l:=m.waiting) Q5 k5.ZU Zb hmw ?_
   intro p6 c6 o6 g6 q7 k6
   have b6:=N5.ZE.Zc k6 (by intro e;cases e)
   obtain⟨g7,w7,N7,k7⟩:=(N5.pt.Zfh k6 q7).write k6.ZU b6 ((YP b6.2 N5.pt.store.len).waiting (.slice p6 (m.waiting.length+1) c6) rfl)
   have ZtU:=Za b6.2
   simp -implicitDefEqProofs only[go_sem,↓reduceIte,w7,ZtU]
   have kk:Kp (Xz i) o g2 o6 g7:=((k4a.trans (ZC k5)).trans (k6.mono fun t q=>.inr (.inr (.inr (by rw[q];rfl))))).trans (k7.mono fun t q=>.inr (.inr (.inr (by rw[q];rfl))))
   exact⟨o6,_,(Yb K2).trans (Yb kk),A2.Xg kk N7 ((W5.Zc k6 (by rintro t rfl;simp[Tg.of])).Zc k7 (by rintro t rfl;simp[Tg.of]))⟩
def Zg7 (i:Nat) (t:Tg):Prop:=t=.node i∨t=.known i
set_option maxHeartbeats 4000000 in
theorem Zg8 (T:World) (h:Hp) (o:Ow) (wb i:Nat) (dv:Value) (dat:List Nat) (Y4:Int) (vv:Value) (acp:Qt) (d:Dom o h) (iD:ImB o h dv dat) (iV:ImV o h vv acp.l) :
  Zd Tryz.prog T 22 #[.int .i64 i,.agg #[dv,.int .i64 Y4],.agg #[.int .i64 acp.p.r,.int .i64 acp.p.n,vv]] h fun v' h'=>∃nb o' a',v'=Zn nb∧Zf h.size h h'∧Kp (Zg7 i) o h o' h'∧ZJ o' h' wb i nb a' (blank i true dat Y4 acp):=by
 obtain⟨pd,cd,rfl⟩:=iD.1.isSlice
 obtain⟨pv,cv,rfl⟩:=iV.isSlice
 refine Zd.Zi (args:=[_,_,_]) Tryz.func22 rfl rfl rfl rfl ?_
 unfold Zn
 obtain⟨h1,YF⟩:=Zx ((h.push (.cells [.slice pd dat.length cd,.int .i64 Y4].toArray 58)).push (.cells [.int .i64 acp.p.r,.int .i64 acp.p.n,.slice pv acp.l.length cv].toArray 63):Hp)
 have k1:Kp J9 o h o h1:=by rw[YF];exact ((Kp.refl d _).push _).push _
 have x4:ZM o h1 h.size (.cells [.slice pd dat.length cd,.int .i64 Y4].toArray 58):=⟨d _ (Nat.le_refl _),by rw[YF];exact gl2 _ _ _⟩
 have x5:ZM o h1 (h.size+1) (.cells [.int .i64 acp.p.r,.int .i64 acp.p.n,.slice pv acp.l.length cv].toArray 63):=⟨d _ (by omega),by rw[YF];exact gr2 _ _ _⟩
 have e0:=YF.symm
 have r4:rd h1 ⟨h.size,0,none⟩ 2=some [.slice pd dat.length cd,.int .i64 Y4]:=Zo x4.2 rfl
 have r5:rd h1 ⟨h.size+1,0,none⟩ 3=some [.int .i64 acp.p.r,.int .i64 acp.p.n,.slice pv acp.l.length cv]:=Zo x5.2 rfl
 simp -implicitDefEqProofs only[go_sem,↓reduceIte,e0,r4,r5]
 obtain⟨A,hA⟩:∃A:NA,A=⟨.slice pd dat.length cd,.slice pv acp.l.length cv,none,h1.size,.slice none 0 0,.slice none 0 0,.slice none 0 0,.slice none 0 0,.nilFunc⟩:=⟨_,rfl⟩
 obtain⟨h2,hh2⟩:=Zx (h1.push (Xk []):Hp)
 obtain⟨h3,hh3⟩:=Zx (h2.push (Xc (blank i true dat Y4 acp) A):Hp)
 have s2:h2.size=h1.size+1:=by rw[hh2];simp
 have ee:h3=(h1.push (.map #[] 0)).push (Xc (blank i true dat Y4 acp) A):=by rw[hh3,hh2];rfl
 rw[hA]at ee
 refine⟨h1.size+1,Jr (Jr o h1.size (.known i)) (h1.size+1) (.node i),A,rfl,?_⟩
 have k2:Kp (Zg7 i) o h1 (Jr o h1.size (.known i)) h2:=by rw[hh2];exact ((Kp.refl k1.ZU _).push _).ZbQ (Nat.le_refl _) (by simp) (.inr rfl)
 have k3:Kp (Zg7 i) o h1 (Jr (Jr o h1.size (.known i)) (h1.size+1) (.node i)) h3:=by rw[hh3];exact (k2.push _).ZbQ (by omega) (by rw[Array.size_push];omega) (.inl rfl)
 have kx:Kp (fun t=>t=.node i) (Jr o h1.size (.known i)) h2 (Jr (Jr o h1.size (.known i)) (h1.size+1) (.node i)) h3:=by rw[hh3];exact ((Kp.refl k2.ZU _).push _).ZbQ (by omega) (by rw[Array.size_push];omega) rfl
 have m2:Qo (Jr o h1.size (.known i)) (.known i) h2 h1.size (Uo cmA []):=⟨YZ,by rw[hh2];exact Zb⟩
 have iD3:=(iD.Zc k1).Zc k3
 have iV3:=(iV.Zc k1).Zc k3
 have K3:Kp (Zg7 i) o h (Jr (Jr o h1.size (.known i)) (h1.size+1) (.node i)) h3:=(ZC k1).trans k3
 have st:Zd6 Jx:=Zd6.ZtH (by kernel_rfl)
 show Zf h.size h ((h1.push (.map #[] 0)).push (Xc (blank i true dat Y4 acp) ⟨.slice pd dat.length cd,.slice pv acp.l.length cv,none,h1.size,.slice none 0 0,.slice none 0 0,.slice none 0 0,.slice none 0 0,.nilFunc⟩))∧Kp (Zg7 i) o h _ ((h1.push (.map #[] 0)).push (Xc (blank i true dat Y4 acp) ⟨.slice pd dat.length cd,.slice pv acp.l.length cv,none,h1.size,.slice none 0 0,.slice none 0 0,.slice none 0 0,.slice none 0 0,.nilFunc⟩))∧ZJ _ ((h1.push (.map #[] 0)).push (Xc (blank i true dat Y4 acp) ⟨.slice pd dat.length cd,.slice pv acp.l.length cv,none,h1.size,.slice none 0 0,.slice none 0 0,.slice none 0 0,.slice none 0 0,.nilFunc⟩)) wb i (h1.size+1) A (blank i true dat Y4 acp)
 rw[←ee]
 refine⟨by rw[hh3,hh2,YF];exact ((((Zf.refl _ _).add _).add _).add _).add _,K3,⟨YZ,by rw[hh3,←s2];exact Zb⟩,?_⟩
 rw[hA]
 exact⟨iD3,iV3,trivial,m2.Zc kx (by intro e;cases e),YA.nil _ _ _ _ _,YA.nil _ _ _ _ _,YA.nil _ _ _ _ _,⟨[],rfl,YA.nil _ _ _ _ _,fun x hx=>by cases hx⟩,rfl,st⟩
theorem ZlD {S:Tg→Prop} {o o':Ow} {h h':Hp} (k:Kp S o h o' h') {b:Nat} {t u:Tg} (hb:o' b=some t) (ht:S t) (hu:S u):Kp S o h (Jr o' b u) h':=by
 refine⟨k.size,fun c hc hn=>⟨(k.Zc c hc hn).1,?_⟩,fun c hc v hv hs=>?_,fun c hc v hv=>?_,fun c hc=>?_⟩
 ·by_cases e:c=b
  ·subst e
   have:=(k.Zc c hc hn).2
   rw[hb]at this
   exact (hn t this.symm ht).elim
  ·rw[Y2 e];exact (k.Zc c hc hn).2
 ·by_cases e:c=b
  ·subst e;exact⟨u,YZ,hu⟩
  ·rw[Y2 e];exact k.stay c hc v hv hs
 ·by_cases e:c=b
  ·subst e;rw[YZ]at hv;cases hv;exact hu
  ·rw[Y2 e]at hv;exact k.new c hc v hv
 ·by_cases e:c=b
  ·subst e;rw[k.ZU c hc]at hb;cases hb
  ·rw[Y2 e];exact k.ZU c hc
def Zg9 (i:Nat) (t:Tg):Prop:=t=.Zh i∨t=.prom i∨t=.Xb i
theorem ZqW {o:Ow} {h:Hp} {wb i nb:Nat} {a:NA} {n:Nd} (d:Dom o h) (N:ZJ o h wb i nb a n) :
  ∃o',Kp (Zg9 i) o h o' h∧ZS o' h wb i nb { a with Zh:=none } { n with Zh:=none,Zy:=Xb n.Zy }∧o' nb=some (.node i):=by
 have key:∀o',Kp (Zg9 i) o h o' h→Uj o' h wb i nb none a.Zy (Xb n.Zy)→ZS o' h wb i nb { a with Zh:=none } { n with Zh:=none,Zy:=Xb n.Zy }:=fun o' k p=>
  ⟨N.pt.data.Zc k,N.pt.YM.Zc k,trivial,N.pt.known.Zc k (by rintro (e|e|e)<;>cases e),N.pt.log.Zc k (by rintro (e|e|e)<;>cases e),N.pt.queue.Zc k (by rintro (e|e|e)<;>cases e),N.pt.waiting.Zc k (by rintro (e|e|e)<;>cases e),N.pt.inbox.Zc k (by rintro (e|e|e)<;>cases e),p,N.pt.store⟩
 have hp:=N.pt.Zy
 have hR:=N.pt.Zh
 cases hra:a.Zh with
 | none=>
  rw[hra]at hp
  refine⟨o,Kp.refl d _,key o (Kp.refl d _) ?_,N.ZE.1⟩
  match hn:n.Zy,hp with
  | none,hp=>exact hp
  | some (.pro _ _ _ _),hp=>exact hp
  | some (.vot _ _ _),hp=>exact hp
  | some (.own _ _ false),hp=>exact hp
  | some (.own _ _ true),⟨b6,b4,b7,b5,w,rb,h1,h2,h3,h4,h5,h6,a',h7,_⟩=>cases h7
 | some ra=>
  rw[hra]at hp hR
  obtain⟨r,hr⟩:∃r,n.Zh=some r:=by
   cases hx:n.Zh with
   | none=>rw[hx]at hR;exact hR.elim
   | some r=>exact⟨r,rfl⟩
  rw[hr]at hR
  have hR:YH o i h ra r:=hR
  have Ys:ra.rb≠ra.pb:=fun e=>by
   have h1:=hR.ZE.1;have h2:=hR.prom.1
   rw[e,h2]at h1;cases h1
  have k1:Kp (Zg9 i) o h (Jr o ra.rb (.Xb i)) h:=ZlD (Kp.refl d (Zg9 i)) hR.ZE.1 (.inl rfl) (.inr (.inr rfl))
  have hp1:Jr o ra.rb (.Xb i) ra.pb=some (.prom i):=by rw[Y2 (fun e=>Ys e.symm)];exact hR.prom.1
  have k2:Kp (Zg9 i) o h (Jr (Jr o ra.rb (.Xb i)) ra.pb (.Xb i)) h:=ZlD k1 hp1 (.inr (.inl rfl)) (.inr (.inr rfl))
  obtain⟨o2,ho2⟩:=Zx (Jr (Jr o ra.rb (.Xb i)) ra.pb (.Xb i))
  rw[←ho2]at k2
  have s1:o2 ra.rb=some (.Xb i):=by rw[ho2,Y2 Ys];exact YZ
  have s2:o2 ra.pb=some (.Xb i):=by rw[ho2];exact YZ
  have so:∀b,b≠ra.rb→b≠ra.pb→o2 b=o b:=fun b e1 e2=>by rw[ho2,Y2 e2,Y2 e1]
  have sst:∀b,o b=some (.Xb i)→o2 b=some (.Xb i):=fun b hb=>by
   by_cases e1:b=ra.rb
   ·rw[e1];exact s1
   ·by_cases e2:b=ra.pb
    ·rw[e2];exact s2
    ·rw[so b e1 e2];exact hb
  have hnb:o2 nb=some (.node i):=by
   rw[so nb (fun e=>by have:=N.ZE.1;rw[e,hR.ZE.1]at this;cases this) (fun e=>by have:=N.ZE.1;rw[e,hR.prom.1]at this;cases this)]
   exact N.ZE.1
  refine⟨o2,k2,key o2 k2 ?_,hnb⟩
  match hn:n.Zy,hp with
  | none,hp=>exact hp
  | some (.pro a to b vs),⟨b6,b4,b9,u,h1,h2,h3,h4,h5⟩=>exact⟨b6,b4,b9,u,h1,h2.Zc k2,h3.Zc k2,h4.Zc k2,h5.Zc k2⟩
  | some (.vot a to x),⟨b6,b4,b9,u,h1,h2,h3,h4,h5⟩=>exact⟨b6,b4,b9,u,h1,h2.Zc k2,h3.Zc k2,h4.Zc k2,h5.Zc k2⟩
  | some (.own a vs cur),⟨b6,b4,b7,b5,w,rb,h1,h2,h3,h4,h5,h6,h7⟩=>
   refine⟨b6,b4,b7,b5,w,rb,h1,h2.Zc k2,h3.Zc k2,h4.Zc k2,h5.Zc k2,h6.Zc k2,?_⟩
   rw[if_neg (by simp)]
   cases cur with
   | false=>
    rw[if_neg (by simp)]at h7
    obtain⟨cs,pb,pv,g1,g2,g3⟩:=h7
    exact⟨cs,pb,pv,⟨sst _ g1.1,g1.2⟩,g2,sst _ g3.1,g3.2⟩
   | true=>
    rw[if_pos rfl]at h7
    obtain⟨a',q1,q2⟩:=h7
    obtain rfl:=Option.some.inj q1
    rw[←q2]
    exact⟨_,ra.pb,ra.pv,⟨s1,hR.ZE.2⟩,rfl,s2,hR.prom.2⟩
theorem Zwn {o:Ow} {h:Hp} {wb i nb:Nat} {ra:Option RA} {v:Value} {p:Option Pnd} (s:Uj o h wb i nb none v (Xb p)):Uj o h wb i nb ra v (Xb p):=by
 match p,s with
 | none,s=>exact s
 | some (.pro _ _ _ _),s=>exact s
 | some (.vot _ _ _),s=>exact s
 | some (.own _ _ _),s=>exact s
set_option maxHeartbeats 4000000 in
theorem Zwo (T:World) (h:Hp) (o:Ow) (wb i nb:Nat) (a:NA) (n:Nd) (d:Dom o h) (N:ZJ o h wb i nb a n) (hb:n.own.p.r≤1000000000000∧n.heard.r≤1000000000000 ∧ -1000000000000≤n.own.p.r ∧ -1000000000000≤n.heard.r)
  (hr:∀r,n.Zh=some r→r.b.r≤1000000000000 ∧ -1000000000000≤r.b.r) :
  Zd Tryz.prog T 24 #[Zn wb,Zn nb] h fun v' h'=>∃o' a',Kp (fun t=>t.of=some i) o h o' h'∧ZJ o' h' wb i nb a' (lead n):=by
 refine Zd.ZfC (args:=#[_,_]) Tryz.func24 rfl rfl rfl ?_
 obtain⟨M,hM⟩:=Zx (max n.own.p.r n.heard.r+1)
 refine VS.seq (VS.mono (N:=fun F' g'=>F' 1=.pointer (some ⟨nb,0,none⟩)∧Zf h.size h g'∧∃kb,h.size≤kb∧F' 4=.pointer (some ⟨kb,0,none⟩)∧g'[kb]? = some (.cells [.int .i64 M,.int .i64 n.me].toArray 60)) ?_ ?_ (fun _ _ _ h=>h) (fun _ _ h=>h))
 ·refine X3 _ _ _ _ _ _ rfl ?_
  unfold Zn
  have P:=Zw N.ZE.2 N.pt.store.len
  have hnb:=Za N.ZE.2
  simp -implicitDefEqProofs only[go_sem,↓reduceIte]
  refine VS.z (h.size) [19] (.p 0 (.p 1 (.p 2 (.p 3 (.p 4 (.q 5 (.p 6 (.p 7 (.p 8 (.p 9 (.q 10 (.p 11 (.p 12 (.p 13 (.p 14 (.p 15 (.q 16 (.p 17 (.s 18 (.w 19 .nil)))))))))))))))))))) mixed (by kernel_rfl) ?_
  simp -implicitDefEqProofs only[go_sem,↓reduceIte,P.ZGz,P.Zyx,P.me,hnb]
  have em:(if n.heard.r>n.own.p.r then n.heard.r else n.own.p.r)+1=M:=by
   rw[hM]
   split<;>omega
  rw[em]
  exact⟨_,Nat.le_refl _,rfl,Zb⟩
 rintro F1 g1 ⟨f1,b1,kb,hkb,f4,y4⟩
 refine VS.seq (VS.mono (N:=fun F' g'=>F' 1=.pointer (some ⟨nb,0,none⟩)∧F' 4=.pointer (some ⟨kb,0,none⟩)∧Zf h.size h g'∧g'[kb]? = some (.cells [.int .i64 (Xv n).r,.int .i64 n.me].toArray 60)) ?_ ?_ (fun _ _ _ h=>h) (fun _ _ h=>h))
 ·refine X3 _ _ _ _ _ _ rfl ?_
  have k1:=ZB d b1
  have N1:=N.still k1
  have P1:=Zw N1.ZE.2 N1.pt.store.len
  have P1r:=P1.Zh
  have JE:=Za N1.ZE.2
  have l4:=Za y4
  have r4:hc g1 ⟨kb,0,none⟩=some (.int .i64 M):=Zg y4
  cases hra:a.Zh with
  | none=>
   rw[hra]at P1r
   unfold Zda at P1r
   have hn:n.Zh=none:=by
    have:=N.pt.Zh
    rw[hra]at this
    cases hx:n.Zh with
    | none=>rfl
    | some r=>rw[hx]at this;exact this.elim
   have e1:(Xv n).r=M:=by unfold Xv;rw[hn,hM]
   rw[e1]
   simp -implicitDefEqProofs only[go_sem,↓reduceIte,f1,P1r]
   exact⟨f4,b1,y4⟩
  | some ra=>
   rw[hra]at P1r
   unfold Zda Zn at P1r
   obtain⟨r,hn⟩:∃r,n.Zh=some r:=by
    have:=N.pt.Zh
    rw[hra]at this
    cases hx:n.Zh with
    | none=>rw[hx]at this;exact this.elim
    | some r=>exact⟨r,rfl⟩
   have R1:YH o i g1 ra r:=by have:=N1.pt.Zh;rw[hra,hn]at this;exact this
   have lrb:=Za R1.ZE.2
   have rr0:hc g1 ⟨ra.rb,0,none⟩=some (.int .i64 r.b.r):=Zg R1.ZE.2
   have e1:(Xv n).r=max M (r.b.r+1):=by unfold Xv;rw[hn,hM]
   obtain⟨hr1,hr2⟩:=hr r hn
   obtain⟨Z,hZ⟩:=Zx ((Xv n).r)
   have hz:(if r.b.r+1>M then r.b.r+1 else M)=Z:=by
    rw[hZ,e1];split<;>omega
   rw[←hZ]
   have w4:Jp g1 ⟨kb,0,none⟩ (.int .i64 Z)=some (g1.setIfInBounds kb (.cells [.int .i64 Z,.int .i64 n.me].toArray 60)):=by rw[Yu y4 0 _];rfl
   simp -implicitDefEqProofs only[go_sem,↓reduceIte,f1,P1r]
   refine VS.z (g1.size) [10] (.p 0 (.q 1 (.p 2 (.p 3 (.p 4 (.p 5 (.q 6 (.p 7 (.p 8 (.p 9 (.w 10 .nil))))))))))) mixed (by kernel_rfl) ?_
   simp -implicitDefEqProofs only[go_sem,↓reduceIte,f1,f4,P1r,r4,rr0,lrb,l4,hz,w4]
   exact⟨b1.Zj hkb _,Zu y4⟩
 clear f1 f4 y4 b1
 rintro F3 g3 ⟨f1,f4,b3,y4⟩
 refine X3 _ _ _ _ _ _ rfl ?_
 have k3:=ZB d b3
 have N3:=N.still k3
 have P3:=Zw N3.ZE.2 N3.pt.store.len
 have P3u:=P3.up
 have Zdb:=Za N3.ZE.2
 have l4:=Za y4
 have r4a:hc g3 ⟨kb,0,none⟩=some (.int .i64 (Xv n).r):=Zg y4
 cases hu:n.up with
 | false=>
  rw[hu]at P3u
  have e1:lead n=n:=by unfold lead;rw[if_pos (.inl hu)]
  rw[e1]
  simp -implicitDefEqProofs only[go_sem,↓reduceIte,f1,P3u]
  exact⟨o,a,ZC k3,N3⟩
 | true=>
 rw[hu]at P3u
 by_cases c:65536<(Xv n).r
 ·have e1:lead n=n:=by unfold lead;rw[if_pos (.inr c)]
  rw[e1]
  have c':(Xv n).r>65536:=c
  simp -implicitDefEqProofs only[go_sem,↓reduceIte,f1,f4,P3u,r4a,c,c']
  exact⟨o,a,ZC k3,N3⟩
 have e1:lead n = { n with Zh:=some ⟨Xv n,[],false,[],[]⟩,Zy:=Xb n.Zy }:=by
  unfold lead;rw[if_neg];rintro (e|e)
  ·rw[hu]at e;cases e
  ·exact c e
 rw[e1]
 have c':¬(Xv n).r>65536:=c
 have r4:rd g3 ⟨kb,0,none⟩ 2=some [.int .i64 (Xv n).r,.int .i64 n.me]:=Zo y4 rfl
 obtain⟨o2,k2,pt2,JH⟩:=ZqW k3.ZU N3
 obtain⟨ra,hra⟩:∃ra:RA,ra=⟨g3.size+3,g3.size,g3.size+1,g3.size+2,[],[]⟩:=⟨_,rfl⟩
 obtain⟨r,hr0⟩:∃r:Jg,r=⟨Xv n,[],false,[],[]⟩:=⟨_,rfl⟩
 obtain⟨p1,hp1⟩:=Zx (g3.push (Xk []):Hp)
 obtain⟨p2,hp2⟩:=Zx (p1.push (Xk []):Hp)
 obtain⟨p3,hp3⟩:=Zx (p2.push (Xk []):Hp)
 obtain⟨p4,hp4⟩:=Zx (p3.push (.cells (ZnD r ra).toArray 122):Hp)
 have s1:p1.size=g3.size+1:=by rw[hp1];simp
 have s2:p2.size=g3.size+2:=by rw[hp2,Array.size_push,s1]
 have s3:p3.size=g3.size+3:=by rw[hp3,Array.size_push,s2]
 have s4:p4.size=g3.size+4:=by rw[hp4,Array.size_push,s3]
 have q1:p4[g3.size]? = some (Xk []):=by rw[hp4,Zq (by omega),hp3,Zq (by omega),hp2,Zq (by omega),hp1];exact Zb
 have q2:p4[g3.size+1]? = some (Xk []):=by rw[hp4,Zq (by omega),hp3,Zq (by omega),hp2,←s1];exact Zb
 have q3:p4[g3.size+2]? = some (Xk []):=by rw[hp4,Zq (by omega),hp3,←s2];exact Zb
 have q4:p4[g3.size+3]? = some (.cells (ZnD r ra).toArray 122):=by rw[hp4,←s3];exact Zb
 have kp:Kp (XD i) o2 g3 o2 p4:=by rw[hp4,hp3,hp2,hp1];exact ((((Kp.refl k2.ZU _).push _).push _).push _).push _
 have ka:=kp.ZbQ (b:=g3.size) (t:=.prom i) (Nat.le_refl _) (by omega) (.inr (.inl rfl))
 have kb':=ka.ZbQ (b:=g3.size+1) (t:=.prop i) (by omega) (by omega) (.inr (.inr (.inl rfl)))
 have kc:=kb'.ZbQ (b:=g3.size+2) (t:=.Xp i) (by omega) (by omega) (.inr (.inr (.inr (.inl rfl))))
 have k5:=kc.ZbQ (b:=g3.size+3) (t:=.Zh i) (by omega) (by omega) (.inl rfl)
 obtain⟨o5,ho5⟩:=Zx (Jr (Jr (Jr (Jr o2 g3.size (.prom i)) (g3.size+1) (.prop i)) (g3.size+2) (.Xp i)) (g3.size+3) (.Zh i))
 rw[←ho5]at k5
 clear ka kb' kc kp
 have t1:o5 g3.size=some (.prom i):=by rw[ho5,Y2 (by omega),Y2 (by omega),Y2 (by omega)];exact YZ
 have t2:o5 (g3.size+1)=some (.prop i):=by rw[ho5,Y2 (by omega),Y2 (by omega)];exact YZ
 have t3:o5 (g3.size+2)=some (.Xp i):=by rw[ho5,Y2 (by omega)];exact YZ
 have t4:o5 (g3.size+3)=some (.Zh i):=by rw[ho5];exact YZ
 have R5:YH o5 i p4 ra r:=by
  rw[hra,hr0]
  rw[hra,hr0]at q4
  exact⟨⟨t4,q4⟩,⟨t1,q1⟩,.nil,⟨t2,q2⟩,⟨t3,q3⟩,.nil,by simp⟩
 have en:∀t:Tg,(t=.known i∨t=.log i∨t=.queue i∨t=.waiting i∨t=.inbox i∨t=.Xb i∨t=.node i)→¬XD i t:=by
  intro t ht hr
  rcases ht with rfl|rfl|rfl|rfl|rfl|rfl|rfl<;>rcases hr with e|e|e|e|⟨s,e⟩<;>cases e
 have pn:Uj o5 p4 wb i nb (some ra) a.Zy (Xb n.Zy):=Zwn (pt2.Zy.Zc k5 (en _ (by simp)))
 have pt5:ZS o5 p4 wb i nb { a with Zh:=some ra } { n with Zh:=some r,Zy:=Xb n.Zy }:=
  ⟨pt2.data.Zc k5,pt2.YM.Zc k5,R5,pt2.known.Zc k5 (en _ (by simp)),pt2.log.Zc k5 (en _ (by simp)),pt2.queue.Zc k5 (en _ (by simp)),pt2.waiting.Zc k5 (en _ (by simp)),pt2.inbox.Zc k5 (en _ (by simp)),pn,pt2.store⟩
 have B5:QK o5 (.node i) p4 nb (Xc n a):=QK.Zc (o:=o2) ⟨JH,N3.ZE.2⟩ k5 (en _ (by simp))
 obtain⟨g6,w6,N6,k6⟩:=ZS.write pt5 k5.ZU B5 ((YP B5.2 N.pt.store.len).Zh (some ra))
 have Zdc:=Za B5.2
 have ee:p4=(((g3.push (.map #[] 0)).push (.map #[] 0)).push (.map #[] 0)).push (.cells #[.int .i64 (Xv n).r,.int .i64 n.me,.map (some g3.size),.bool false,.map (some (g3.size+1)),.map (some (g3.size+2))] 122):=by
  rw[hp4,hp3,hp2,hp1,hra,hr0];rfl
 have w6':Jp p4 ⟨nb,9,none⟩ (.pointer (some ⟨g3.size+3,0,none⟩))=some g6:=by rw[←w6,hra];rfl
 have ee':=ee.symm
 rw[hr0]at N6
 simp -implicitDefEqProofs only[go_sem,↓reduceIte,f1,f4,P3u,r4a,c,c',r4,ee',w6',Zdc]
 refine⟨o5,_,((ZC k3).trans (k2.mono fun t q=>?_)).trans ((k5.mono fun t q=>ZeC q).trans (k6.mono fun t q=>by rw[q];rfl)),N6⟩
 rcases q with rfl|rfl|rfl<;>rfl
end Go.Proofs.YtnhbpmoeaodmnaaGreatDoor
