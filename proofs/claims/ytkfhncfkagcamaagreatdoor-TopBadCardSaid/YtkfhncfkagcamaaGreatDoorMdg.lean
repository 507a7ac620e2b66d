/- What a leader does of its own. -/
import Derived.Test.YtkfhncfkagcamaaGreatDoorMoy
namespace Go.Proofs.YtkfhncfkagcamaaGreatDoor
open Go Go.V
set_option linter.unusedSimpArgs false
set_option linter.unusedVariables false
set_option maxRecDepth 100000
theorem J9 {α:Type} (f:Nat→List α) (m:Nat):(List.range (m+1)).flatMap f=(List.range m).flatMap f++f m:=by
 rw[List.range_succ,List.flatMap_append];simp
theorem U7 {α:Type} (f:Nat→List α) (k m:Nat) (h:∀i,(f i).length≤k):((List.range m).flatMap f).length≤m*k:=by
 induction m with
 | zero=>simp
 | succ m ih=>rw[J9,List.length_append,Nat.add_mul];have:=h m;omega
theorem iq {n n':Nd} (hk:n.known=n'.known) (r:Qn) (x:Cm):∀k s,Up n r x k s=Up n' r x k s:=by
 intro k
 induction k with
 | zero=>intro s;rfl
 | succ k ih=>intro s;unfold Up;rw[hk,ih]
theorem Fh {n n':Nd} (hk:n.known=n'.known) (hl:n.log=n'.log) (r:Qn) (x:Cm):free n r x=free n' r x:=by
 unfold free;rw[hl,iq hk]
theorem oK {n n':Nd} (hk:n.known=n'.known) (hl:n.log=n'.log) (r:Qn) (x:Cm):VH n r x=VH n' r x:=by
 unfold VH;rw[Fh hk hl]
theorem ao {n n':Nd} (hk:n.known=n'.known) (hl:n.log=n'.log):∀(l:List Cm) (r:Qn),JJ n r l=JJ n' r l:=by
 intro l
 induction l with
 | nil=>intro r;rfl
 | cons x l ih=>intro r;show JJ n (VH n r x) l=JJ n' (VH n' r x) l;rw[oK hk hl,ih]
theorem iu {n n':Nd} (hk:n.known=n'.known) (LL:List (List Vt)):QU n LL=QU n' LL:=by
 funext pr s;unfold QU;rw[hk]
theorem iw {n n':Nd} (hk:n.known=n'.known) (hl:n.log=n'.log) (r:Qn):Se n r=Se n' r:=by
 unfold Se;rw[hl,iu hk]
theorem uS {n n':Nd} (hk:n.known=n'.known) (hm:n.me=n'.me) (r:Qn):W0 n r=W0 n' r:=by
 funext s;unfold W0 Oa;rw[hk,hm]
theorem oL {n n':Nd} (hk:n.known=n'.known) (hm:n.me=n'.me) (r:Qn):Km n r=Km n' r:=by
 unfold Km;rw[uS hk hm]
set_option maxHeartbeats 4000000 in
theorem uT (T:World) (h:Hp) (o:Ow) (wb i nb:Nat) (Z7:Nat→Nat) (a:NA) (n:Nd) (ra:RA) (r:Qn) (YC:WA) (fl:List Y9) (bad:Nat→Int) (told:List Sd) (d:Ug o h)
  (N:ZI o h wb i nb { a with Zl:=some ra } { n with Zl:=some r }) (W:ZE o h wb Z7 YC fl bad told) (tb:Fb o h) (Ym:fl.length≤900000000000) (nz:n.own.l.length≤1000000) (gE:n.data.length≤1000000)
  (hp:∀x∈r.prom,x.2.length≤1000000) (hs:∀x∈r.prom,∀v∈x.2,v.slot≤1000000) (M1:r.prom.length≤1000000000000) (hl:n.log.length≤1000000000000) (hq:n.queue.length≤1000000000000) :
  Zd Tryz.prog T 112 #[Zn wb,Zn nb,Zn ra.rb] h fun v' h'=>∃o' a' Xn,Kp (Xw i) o h o' h'∧ZI o' h' wb i nb a' (QH { n with Zl:=some r } r).n∧ZE o' h' wb Z7 Xn (fl++(QH { n with Zl:=some r } r).ls) bad told:=by
 refine Zd.Zi (args:=[_,_,_]) Tryz.func112 rfl rfl rfl rfl ?_
 obtain⟨h1,YF⟩:=Zu ((h.push (.cells [Zn nb].toArray 124)).push (.cells [Zn ra.rb].toArray 132):Hp)
 have k1:Kp JK o h o h1:=by rw[YF];exact ((Kp.refl d _).push _).push _
 have x4:ZL o h1 h.size (.cells [Zn nb].toArray 124):=⟨d _ (Nat.le_refl _),by rw[YF];exact hQ _ _ _⟩
 have x5:ZL o h1 (h.size+1) (.cells [Zn ra.rb].toArray 132):=⟨d _ (by omega),by rw[YF];exact jy _ _ _⟩
 have e0:=YF.symm
 unfold Zn at e0 ⊢
 have N1:=N.still k1
 have W1:=W.still k1
 have R1:YG o i h1 ra r:=N1.pt.Zl
 obtain⟨q0,q2,q3,q4,q5⟩:=R1.rr
 have P1:=Zy N1.ZD.2 N1.pt.store.len
 have l4:=Za x4.2
 have l5:=Za x5.2
 have CO:=Za R1.ZD.2
 have JF:=Za N1.ZD.2
 have r4:hc h1 ⟨h.size,0,none⟩=some (Zn nb):=Zg x4.2
 have r5:hc h1 ⟨h.size+1,0,none⟩=some (Zn ra.rb):=Zg x5.2
 unfold Zn at r4 r5
 have uU:rd h1 ⟨nb,4,none⟩ 2=some (X9 n.own.p):=P1.DM
 simp -implicitDefEqProofs only[go_sem,↓reduceIte,e0]
 refine VS.mono (N:=fun F' g'=>Ze h1.size h1 g'∧F' 0=.pointer (some ⟨wb,0,none⟩)∧F' 4=.pointer (some ⟨h.size,0,none⟩)∧F' 5=.pointer (some ⟨h.size+1,0,none⟩)∧F' 35=.bool (decide (below n.own.p r.b))) ?_ ?_ (fun _ _ _ h=>h) (fun _ _ h=>h)
 ·refine VS.z (h1.size) [9] (.q 0 (.p 1 (.p 2 (.q 3 (.q 4 (.p 5 (.p 6 (.p 7 (.q 8 (.w 9 .nil)))))))))) mixed (by kernel_rfl) ?_
  simp -implicitDefEqProofs only[go_sem,↓reduceIte,r4,r5,q0,uU,l4,l5,CO,JF]
  refine (Of T h1 r.b n.own.p).use ?_
  rintro _ g ⟨rfl,b⟩
  simp -implicitDefEqProofs only[go_sem,↓reduceIte,b]
 rintro F1 g1 ⟨b1,f0,f4,f5,f35⟩
 have kb:=Zs k1.ZV b1
 replace N1:=N1.still kb
 replace W1:=W1.still kb
 replace k1:=k1.trans kb
 replace x4:=x4.Zc kb
 replace x5:=x5.Zc kb
 have qp:=tb.Zc k1
 clear R1 q0 q2 q3 q4 q5 P1 uU l4 l5 CO JF r4 r5 e0
 have R1:YG o i g1 ra r:=N1.pt.Zl
 obtain⟨q0,q2,q3,q4,q5⟩:=R1.rr
 have P1:=Zy N1.ZD.2 N1.pt.store.len
 have l4:=Za x4.2
 have l5:=Za x5.2
 have CO:=Za R1.ZD.2
 have JF:=Za N1.ZD.2
 have r4:hc g1 ⟨h.size,0,none⟩=some (Zn nb):=Zg x4.2
 have r5:hc g1 ⟨h.size+1,0,none⟩=some (Zn ra.rb):=Zg x5.2
 unfold Zn at r4 r5
 by_cases c1:below n.own.p r.b
 ·have oM:=P1.own
  obtain⟨pv,cv,DT⟩:=N1.pt.YL.isSlice
  have DT:a.YL=.slice pv n.own.l.length cv:=DT
  have oM:rd g1 ⟨nb,4,none⟩ 3=some [.int .i64 n.own.p.r,.int .i64 n.own.p.n,.slice pv n.own.l.length cv]:=by rw[←DT];exact oM
  have N1v:Wc o g1 (.slice pv n.own.l.length cv) n.own.l:=by rw[←DT];exact N1.pt.YL
  unfold X9 at q0
  have call:∀G,Ze g1.size g1 G→Zd Tryz.prog T 114 #[.agg #[.int .i64 n.own.p.r,.int .i64 n.own.p.n,.slice pv n.own.l.length cv],.agg #[.int .i64 r.b.r,.int .i64 r.b.n]] G fun v' h'=>EN G.size h' v' n.own.p n.own.l r.b∧Ze G.size G h':=fun G hG=>
   Tc T G n.own.p _ n.own.l r.b (N1v.ts.Z4 hG) (by omega)
  obtain⟨E,hE⟩:=Zu (Yv n.own.p n.own.l r.b)
  have wA:∀(G:Hp) (k:Nat) (r m:Int) (p:Option Addr) (L c:Nat),G[k]? = some (.cells [.int .i64 0,.int .i64 0,.slice none 0 0].toArray 131)→wr G ⟨k,0,none⟩ [.int .i64 r,.int .i64 m,.slice p L c]=some (G.setIfInBounds k (.cells [.int .i64 r,.int .i64 m,.slice p L c].toArray 131)):=fun G k r m p L c hx=>by
   rw[ZP hx 0 _];rfl
  have wB:∀(G:Hp) (k:Nat) (p:Option Addr) (L c:Nat),G[k]? = some (.cells [.slice none 0 0].toArray 129)→Jn G ⟨k,0,none⟩ (.slice p L c)=some (G.setIfInBounds k (.cells [.slice p L c].toArray 129)):=fun G k p L c hx=>by
   rw[Yq hx 0 _];rfl
  simp -implicitDefEqProofs only[go_sem,↓reduceIte,f35,c1]
  refine VS.mono (N:=fun F' g'=>Ze g1.size g1 g'∧F' 4=.pointer (some ⟨h.size,0,none⟩)∧F' 5=.pointer (some ⟨h.size+1,0,none⟩)∧di g1.size g' (F' 6) (F' 7) n.own.p n.own.l r.b) ?_ ?_ (fun _ _ _ h=>h) (fun _ _ h=>h)
  ·refine VS.z (g1.size) [8,15,16] (.q 0 (.p 1 (.p 2 (.q 3 (.q 4 (.p 5 (.p 6 (.q 7 (.or 8 (.p 9 (.p 10 (.p 11 (.p 12 (.or 13 (.s 14 (.w 15 (.w 16 (.p 17 .nil)))) (.s 14 (.s 13 (.w 15 (.w 16 (.p 17 .nil)))))))))) (.or 13 (.or 8 (.p 9 (.p 10 (.p 11 (.p 12 (.s 14 (.w 15 (.w 16 (.p 17 .nil)))))))) (.s 14 (.w 8 (.p 9 (.p 10 (.p 11 (.p 12 (.w 15 (.w 16 (.p 17 .nil)))))))))) (.s 14 (.or 8 (.p 9 (.p 10 (.p 11 (.p 12 (.s 13 (.w 15 (.w 16 (.p 17 .nil)))))))) (.s 13 (.w 8 (.p 9 (.p 10 (.p 11 (.p 12 (.w 15 (.w 16 (.p 17 .nil))))))))))))))))))))) mixed (by kernel_rfl) ?_
   simp -implicitDefEqProofs only[go_sem,↓reduceIte,f4,f5,r4,r5,oM,q0,JF,CO,l4,l5]
   unfold di Zn YJ
   repeat' (first|with_reducible exact Ze.refl _ _|with_reducible exact Ze.push (by omega) _|with_reducible refine And.intro ?_ ?_)
   all_goals first
    | (refine (call g1 (Ze.refl _ _)).use ?_
       rintro _ g5 ⟨⟨w1,w2,rfl,o1,o2⟩,b5⟩
       obtain⟨p1,c1,rfl,_⟩:=o1.open
       obtain⟨p2,c2,rfl,_⟩:=o2.open
       rw[←hE]at *
       have s5:=b5.size
       unfold YJ
       simp -implicitDefEqProofs only[go_sem,↓reduceIte,b5]
       refine⟨⟨f4,f5,_,_,_,_,rfl,rfl,s5,by omega,hQ _ _ _,jy _ _ _,(o1.push _).push _,(o2.push _).push _⟩,⟨f4,f5,_,_,_,_,rfl,rfl,by omega,s5,jy _ _ _,hQ _ _ _,(o1.push _).push _,(o2.push _).push _⟩⟩)
    | (refine (call (g1.push (.cells _ 131)) (Ze.push (Nat.le_refl _) _)).use ?_
       rintro _ g5 ⟨⟨w1,w2,rfl,o1,o2⟩,b5⟩
       obtain⟨p1,c1,rfl,_⟩:=o1.open
       obtain⟨p2,c2,rfl,_⟩:=o2.open
       rw[←hE]at *
       have s5:=b5.size
       rw[Array.size_push]at s5
       have B5:Ze g1.size g1 g5:=(Ze.push (Nat.le_refl _) _).trans (b5.mono (by simp))
       have xA:=b5.get (k:=g1.size) (by simp) Zb
       have Tx:=wA _ _ (if E=0 then r.b else ⟨0,0⟩).r (if E=0 then r.b else ⟨0,0⟩).n p1 (if E=0 then n.own.l else []).length c1 xA
       have zA:=Za xA
       unfold YJ
       simp -implicitDefEqProofs only[go_sem,↓reduceIte,B5,Tx,zA]
       exact⟨f4,f5,_,_,_,_,rfl,rfl,Nat.le_refl _,by omega,by rw[Zq (by simpa using zA)];exact Zw xA,gs2 _ _ _ _,((o1.ZQ (by simp) _).push _).mono (by simp),((o2.ZQ (by simp) _).push _).mono (by simp)⟩)
    | (refine (call (g1.push (.cells _ 129)) (Ze.push (Nat.le_refl _) _)).use ?_
       rintro _ g5 ⟨⟨w1,w2,rfl,o1,o2⟩,b5⟩
       obtain⟨p1,c1,rfl,_⟩:=o1.open
       obtain⟨p2,c2,rfl,_⟩:=o2.open
       rw[←hE]at *
       have s5:=b5.size
       rw[Array.size_push]at s5
       have B5:Ze g1.size g1 g5:=(Ze.push (Nat.le_refl _) _).trans (b5.mono (by simp))
       have xB:=b5.get (k:=g1.size) (by simp) Zb
       have Kw:=wB _ _ p2 (if E=0 then n.own.l else []).length c2 xB
       have zB:=Za xB
       unfold YJ
       simp -implicitDefEqProofs only[go_sem,↓reduceIte,B5,Kw,zB]
       exact⟨f4,f5,_,_,_,_,rfl,rfl,by omega,Nat.le_refl _,gs2 _ _ _ _,by rw[Zq (by simpa using zB)];exact Zw xB,((o1.ZQ (by simp) _).push _).mono (by simp),((o2.ZQ (by simp) _).push _).mono (by simp)⟩)
    | (refine (call ((g1.push (.cells _ 131)).push (.cells _ 129)) ((Ze.push (Nat.le_refl _) _).Yg (by simp) _)).use ?_
       rintro _ g5 ⟨⟨w1,w2,rfl,o1,o2⟩,b5⟩
       obtain⟨p1,c1,rfl,_⟩:=o1.open
       obtain⟨p2,c2,rfl,_⟩:=o2.open
       rw[←hE]at *
       have s5:=b5.size
       rw[Array.size_push,Array.size_push]at s5
       have B5:Ze g1.size g1 g5:=((Ze.push (Nat.le_refl _) _).Yg (by simp) _).trans (b5.mono (by simp;omega))
       have xA:=b5.get (k:=g1.size) (by simp;omega) (hQ _ _ _)
       have xB:=b5.get (k:=g1.size+1) (by simp) (jy _ _ _)
       have Tx:=wA _ _ (if E=0 then r.b else ⟨0,0⟩).r (if E=0 then r.b else ⟨0,0⟩).n p1 (if E=0 then n.own.l else []).length c1 xA
       have zA:=Za xA
       have OU:=fun o:Obj=>(Yh (o:=o) (show g1.size≠g1.size+1 by omega)).trans xB
       have Kw:=fun o:Obj=>wB _ _ p2 (if E=0 then n.own.l else []).length c2 (OU o)
       have zB:g1.size+1<g5.size:=Za xB
       unfold YJ
       simp -implicitDefEqProofs only[go_sem,↓reduceIte,B5,Tx,zA,Kw,zB]
       exact⟨f4,f5,_,_,_,_,rfl,rfl,by omega,by omega,(Yh (by omega)).trans (Zw xA),Zw (OU _),((o1.ZQ (by simp;omega) _).ZQ (by simp) _).mono (by simp;omega),((o2.ZQ (by simp;omega) _).ZQ (by simp) _).mono (by simp;omega)⟩)
    | (refine (call ((g1.push (.cells _ 129)).push (.cells _ 131)) ((Ze.push (Nat.le_refl _) _).Yg (by simp) _)).use ?_
       rintro _ g5 ⟨⟨w1,w2,rfl,o1,o2⟩,b5⟩
       obtain⟨p1,c1,rfl,_⟩:=o1.open
       obtain⟨p2,c2,rfl,_⟩:=o2.open
       rw[←hE]at *
       have s5:=b5.size
       rw[Array.size_push,Array.size_push]at s5
       have B5:Ze g1.size g1 g5:=((Ze.push (Nat.le_refl _) _).Yg (by simp) _).trans (b5.mono (by simp;omega))
       have xB:=b5.get (k:=g1.size) (by simp;omega) (hQ _ _ _)
       have xA:=b5.get (k:=g1.size+1) (by simp) (jy _ _ _)
       have Tx:=wA _ _ (if E=0 then r.b else ⟨0,0⟩).r (if E=0 then r.b else ⟨0,0⟩).n p1 (if E=0 then n.own.l else []).length c1 xA
       have zA:=Za xA
       have OU:=fun o:Obj=>(Yh (o:=o) (show g1.size+1≠g1.size by omega)).trans xB
       have Kw:=fun o:Obj=>wB _ _ p2 (if E=0 then n.own.l else []).length c2 (OU o)
       have zB:g1.size<g5.size:=Za xB
       unfold YJ
       simp -implicitDefEqProofs only[go_sem,↓reduceIte,B5,Tx,zA,Kw,zB]
       exact⟨f4,f5,_,_,_,_,rfl,rfl,by omega,by omega,(Yh (by omega)).trans (Zw xA),Zw (OU _),((o1.ZQ (by simp) _).ZQ (by simp;omega) _).mono (by simp;omega),((o2.ZQ (by simp) _).ZQ (by simp;omega) _).mono (by simp;omega)⟩)
  rintro F2 g2 ⟨b2,f4,f5,ka,kc,w1,w2,fA,fC,ge1,ge2,yA,yC,o1,o2⟩
  rw[←hE]at yA o1 o2
  obtain⟨A,hA⟩:∃A:Vi,A=if E=0 then ⟨r.b,n.own.l⟩ else QG:=⟨_,rfl⟩
  obtain⟨V,hV⟩:∃V:List Vt,V=if E=0 then n.own.l else []:=⟨_,rfl⟩
  have hAp:(if E=0 then r.b else ⟨0,0⟩)=A.p:=by rw[hA];split<;>rfl
  have xW:(if E=0 then n.own.l else [])=A.l:=by rw[hA];split<;>rfl
  have hVl:(if E=0 then n.own.l else [])=V:=hV.symm
  rw[hAp]at yA
  rw[xW]at o1
  rw[hVl]at o2
  have SW:=Zs k1.ZV b2
  have N2:=N1.still SW
  have W2:=W1.still SW
  have K2:=k1.trans SW
  have z4:=x4.Zc SW
  have z5:=x5.Zc SW
  have Hb:=qp.Zc SW
  have R2:YG o i g2 ra r:=N2.pt.Zl
  obtain⟨u0,_,_,_,_⟩:=R2.rr
  unfold X9 at u0
  have iv7:Wc o g2 w2 V:=Im.Qy o2.own (fun b hb=>k1.ZV b hb)
  have iv6:Wc o g2 w1 A.l:=Im.Qy o1.own (fun b hb=>k1.ZV b hb)
  have z6:ZL o g2 ka _:=⟨k1.ZV ka ge1,yA⟩
  have z7:ZL o g2 kc _:=⟨k1.ZV kc ge2,yC⟩
  have P2:=Zy N2.ZD.2 N2.pt.store.len
  have m4:=Za z4.2
  have m5:=Za z5.2
  have mr:=Za R2.ZD.2
  have JL:=Za N2.ZD.2
  have s4:hc g2 ⟨h.size,0,none⟩=some (Zn nb):=Zg z4.2
  have s5:hc g2 ⟨h.size+1,0,none⟩=some (Zn ra.rb):=Zg z5.2
  unfold Zn at s4 s5 fA fC
  have ov:=P2.tape
  obtain⟨pd,cd,Rg⟩:=N2.pt.data.1.isSlice
  have Rg:a.data=.slice pd n.data.length cd:=Rg
  have ov:rd g2 ⟨nb,2,none⟩ 2=some [.slice pd n.data.length cd,.int .i64 n.Xs]:=by rw[←Rg];exact ov
  have N2d:Ti o g2 (.slice pd n.data.length cd) n.data:=by rw[←Rg];exact N2.pt.data
  obtain⟨E2,ib⟩:=Zu (Qv n.data n.Xs r.b)
  have call2:∀G,Ze g2.size g2 G→Zd Tryz.prog T 123 #[.agg #[.slice pd n.data.length cd,.int .i64 n.Xs],.agg #[.int .i64 r.b.r,.int .i64 r.b.n]] G fun v' h'=>Te G.size h' v' n.data n.Xs E2 (Y4 (Qw r.b))∧Ze G.size G h':=fun G hG=>by
   rw[ib]
   exact NS T G _ n.Xs n.data r.b (N2d.bs.Z4 hG) (by omega) (Hb.tk.Js hG)
  have wT:∀(G:Hp) (k:Nat) (m:Int) (p:Option Addr) (L c:Nat),G[k]? = some (.cells [.slice none 0 0,.int .i64 0].toArray 126)→wr G ⟨k,0,none⟩ [.slice p L c,.int .i64 m]=some (G.setIfInBounds k (.cells [.slice p L c,.int .i64 m].toArray 126)):=fun G k m p L c hx=>by
   rw[ZP hx 0 _];rfl
  refine VS.mono (N:=fun F' g'=>Ze g2.size g2 g'∧F' 4=.pointer (some ⟨h.size,0,none⟩)∧F' 5=.pointer (some ⟨h.size+1,0,none⟩)∧F' 6=.pointer (some ⟨ka,0,none⟩)∧F' 7=.pointer (some ⟨kc,0,none⟩)∧F' 10=.int .i64 E2∧HI g2.size g' (F' 9) n.data n.Xs E2 (Y4 (Qw r.b))) ?_ ?_ (fun _ _ _ h=>h) (fun _ _ h=>h)
  ·refine VS.z (g2.size) [8,13] (.q 0 (.p 1 (.p 2 (.q 3 (.q 4 (.p 5 (.p 6 (.q 7 (.or 8 (.p 9 (.p 10 (.p 11 (.s 12 (.w 13 (.p 14 .nil)))))) (.s 12 (.w 8 (.p 9 (.p 10 (.p 11 (.w 13 (.p 14 .nil)))))))))))))))) mixed (by kernel_rfl) ?_
   simp -implicitDefEqProofs only[go_sem,↓reduceIte,f4,f5,fA,fC,s4,s5,ov,u0,m4,m5,mr,JL]
   unfold HI
   repeat' (first|with_reducible exact Ze.refl _ _|with_reducible exact Ze.push (by omega) _|with_reducible refine And.intro ?_ ?_)
   all_goals first
    | (refine (call2 g2 (Ze.refl _ _)).use ?_
       rintro _ g5 ⟨⟨w,rfl,o1⟩,b5⟩
       obtain⟨p1,c1,rfl,_⟩:=o1.bs.open
       have s5:=b5.size
       simp -implicitDefEqProofs only[go_sem,↓reduceIte,b5]
       exact⟨f4,f5,fA,fC,_,_,rfl,s5,Zb,o1.push _⟩)
    | (refine (call2 (g2.push (.cells _ 126)) (Ze.push (Nat.le_refl _) _)).use ?_
       rintro _ g5 ⟨⟨w,rfl,o1⟩,b5⟩
       obtain⟨p1,c1,rfl,_⟩:=o1.bs.open
       have B5:Ze g2.size g2 g5:=(Ze.push (Nat.le_refl _) _).trans (b5.mono (by simp))
       have xA:=b5.get (k:=g2.size) (by simp) Zb
       have Tx:=wT _ _ (if E2=0 then n.Xs else 0) p1 (if E2=0 then n.data++Y4 (Qw r.b) else []).length c1 xA
       have zA:=Za xA
       simp -implicitDefEqProofs only[go_sem,↓reduceIte,B5,Tx,zA]
       exact⟨f4,f5,fA,fC,_,_,rfl,Nat.le_refl _,Zw xA,(o1.ZQ (by simp) _).mono (by simp)⟩)
  rintro F3 g3 ⟨b3,f4,f5,f6,f7,f10,kt,wt,fT,ge3,yT,oT⟩
  have We:=Zs K2.ZV b3
  have N4:=N2.still We
  have W4:=W2.still We
  have K4:Kp JK o h o g3:=K2.Z4 b3
  by_cases e2:E2=0
  case neg=>
   have eP:QH { n with Zl:=some r } r=⟨{ n with Zl:=some r },[],[]⟩:=by unfold QH;rw[if_pos c1,if_pos (by rw[←ib];exact e2)]
   rw[eP,List.append_nil]
   simp -implicitDefEqProofs only[go_sem,↓reduceIte,f10,e2]
   exact⟨o,_,YC,ZC K4,N4,W4⟩
  rw[if_pos e2]at yT oT
  have u4:=z4.Zc We
  have u5:=z5.Zc We
  have u6:=z6.Zc We
  have u7:=z7.Zc We
  have iu6:=iv6.Zc We
  have iu7:=iv7.Zc We
  have iT:Ti o g3 wt (n.data++Y4 (Qw r.b)):=⟨Im.Qy oT.own (fun b hb=>K2.ZV b hb),oT.byte⟩
  have eP:QH { n with Zl:=some r } r=⟨{ n with Zl:=some r,data:=n.data++Y4 (Qw r.b),ZT:=some (.own A V true) },[],[]⟩:=by
   unfold QH
   rw[if_pos c1,if_neg (by rw[←ib];simpa using e2),hA,hV,hE]
  rw[eP,List.append_nil]
  obtain⟨pt,ct,rfl,_⟩:=oT.bs.open
  have v4:hc g3 ⟨h.size,0,none⟩=some (Zn nb):=Zg u4.2
  have vT:rd g3 ⟨kt,0,none⟩ 2=some [.slice pt (n.data++Y4 (Qw r.b)).length ct,.int .i64 n.Xs]:=Zo yT rfl
  have Mt:=Za N4.ZD.2
  obtain⟨g4,w4,N5,k5⟩:=ZS.write (a:={ a with Zl:=some ra,data:=.slice pt (n.data++Y4 (Qw r.b)).length ct }) (n:={ n with Zl:=some r,data:=n.data++Y4 (Qw r.b) }) { N4.pt with data:=iT } K4.ZV N4.ZD ((YO N4.ZD.2 N4.pt.store.len).tape (.slice pt (n.data++Y4 (Qw r.b)).length ct) n.Xs rfl)
  have v4':hc g4 ⟨h.size,0,none⟩=some (Zn nb):=Zg (u4.Zc k5).2
  have RN:=Za N5.ZD.2
  have pn:Uf o g4 wb i nb (some ra) (Wj 131 [ka,h.size,kc,h.size+1]) (some (.own A V true)):=
   ⟨ka,h.size,kc,h.size+1,w2,ra.rb,rfl,⟨_,u6.Zc k5,iu6.Zc k5⟩,u4.Zc k5,u7.Zc k5,iu7.Zc k5,u5.Zc k5,by rw[if_pos rfl];exact⟨ra,rfl,rfl⟩⟩
  obtain⟨g6,w6,N6,k6⟩:=ZS.write (a:={ a with Zl:=some ra,data:=.slice pt (n.data++Y4 (Qw r.b)).length ct,ZT:=Wj 131 [ka,h.size,kc,h.size+1] }) (n:={ n with Zl:=some r,data:=n.data++Y4 (Qw r.b),ZT:=some (.own A V true) }) { N5.pt with ZT:=pn } k5.ZV N5.ZD ((YO N5.ZD.2 N5.pt.store.len).ZT (Wj 131 [ka,h.size,kc,h.size+1]) rfl)
  unfold Wj at w6
  simp only[List.map]at w6
  unfold Zn at v4 v4' w6
  simp -implicitDefEqProofs only[go_sem,↓reduceIte,f10,e2,f4,f5,f6,f7,fT,v4,vT,w4,Mt,v4',w6,RN]
  have K6:Kp (Xw i) o h o g6:=((ZC K4).trans (k5.mono fun t q=>.inr (.inr (.inr (by rw[q];rfl))))).trans (k6.mono fun t q=>.inr (.inr (.inr (by rw[q];rfl))))
  exact⟨o,_,YC,K6,N6,(W4.Zc k5 (by rintro t rfl;simp[Tg.of])).Zc k6 (by rintro t rfl;simp[Tg.of])⟩
 by_cases c2:5<2*r.prom.length
 case neg=>
  have eP:QH { n with Zl:=some r } r=⟨{ n with Zl:=some r },Kl n r,[]⟩:=by unfold QH;rw[if_neg c1,if_pos c2];rfl
  rw[eP]
  have lm:=fun (K:Value→Hp→Prop) (cs:Array Bool) (ty:TypeId)=>VX (T:=T) (K:=K) (ty:=ty) (cs:=cs) NX R1.prom.2
  rw[R1.Si.length]at lm
  simp -implicitDefEqProofs only[go_sem,↓reduceIte,f0,f4,f5,f35,c1,r4,r5,q2,lm]
  refine (MO T g1 r.prom.length M1).use ?_
  rintro _ _ ⟨rfl,rfl⟩
  simp -implicitDefEqProofs only[go_sem,↓reduceIte,c2,f0,f4,f5]
  obtain⟨pf,hpf⟩:∃pf:Nat→List Y9,pf=fun (m:Nat)=>if Xe r.prom (m:Int)=none then [⟨0,n.me,m,r.b,T9,[]⟩] else []:=⟨_,rfl⟩
  have ZfM:Kl n r=(List.range 5).flatMap pf:=by rw[hpf];rfl
  have ZoH:∀m,(pf m).length≤1:=fun m=>by rw[hpf];simp only;split<;>simp
  rw[ZfM]
  clear r4 r5 q0 q2 q3 q4 q5 l4 l5 CO JF P1 R1 lm ZfM
  refine VS.ZU (fun F g=>F 0=.pointer (some ⟨wb,0,none⟩)∧F 4=.pointer (some ⟨h.size,0,none⟩)∧F 5=.pointer (some ⟨h.size+1,0,none⟩)∧∃(m:Nat) (o':Ow) (Xn:WA),m≤5∧F 78=.int .i64 m∧Kp cY o h o' g∧ZI o' g wb i nb { a with Zl:=some ra } { n with Zl:=some r }∧ZE o' g wb Z7 Xn (fl++(List.range m).flatMap pf) bad told∧ZL o' g h.size (.cells [Zn nb].toArray 124)∧ZL o' g (h.size+1) (.cells [Zn ra.rb].toArray 132))
   (fun F _=>5-(vi (F 78)).toNat) rfl ⟨f0,f4,f5,0,o,YC,by omega,rfl,ZC k1,N1,by simpa using W1,x4,x5⟩ ?_
  rintro F2 g2 ⟨f0,f4,f5,m,o2,WA2,hm,f78,K2,N2,W2,x4,x5⟩
  by_cases ZA:m<5
  ·have ZH:(m:Int)<5:=by omega
   have R2:YG o2 i g2 ra r:=N2.pt.Zl
   obtain⟨q0,q2,q3,q4,q5⟩:=R2.rr
   have P2:=Zy N2.ZD.2 N2.pt.store.len
   have l4:=Za x4.2
   have l5:=Za x5.2
   have CO:=Za R2.ZD.2
   have JL:=Za N2.ZD.2
   have r4:hc g2 ⟨h.size,0,none⟩=some (Zn nb):=Zg x4.2
   have r5:hc g2 ⟨h.size+1,0,none⟩=some (Zn ra.rb):=Zg x5.2
   unfold Zn at r4 r5
   unfold X9 at q0
   have lk:=fun (K:Value→Hp→Prop)=>Yn (K:=K) (n:=(m:Int)) (c:=true) NX nQ R2.prom.2
   have hpm:pf m=if Xe r.prom (m:Int)=none then [⟨0,n.me,m,r.b,T9,[]⟩] else []:=by rw[hpf]
   rcases R2.Si.Xe (m:Int) with⟨z1,z2⟩|⟨w,vs,z1,z2,iv⟩
   ·rw[if_pos z2]at hpm
    simp only[z1,Option.getD_none,Option.isSome_none,↓reduceIte]at lk
    simp -implicitDefEqProofs only[go_sem,↓reduceIte,f0,f4,f5,f78,ZH,r5,q2,lk]
    refine VS.z (g2.size) [8] (.p 0 (.q 1 (.p 2 (.q 3 (.p 4 (.p 5 (.q 6 (.p 7 (.w 8 .nil))))))))) mixed (by kernel_rfl) ?_
    simp -implicitDefEqProofs only[go_sem,↓reduceIte,f0,f4,f5,f78,r4,r5,q0,l4,l5,CO]
    have rl:(fl++(List.range m).flatMap pf).length≤1000000000000:=by
     have:=U7 pf 1 m ZoH
     rw[List.length_append];omega
    refine (UI T g2 o2 wb nb Z7 n.me WA2 _ bad told (m:Int) ⟨0,0,0,r.b,T9,[]⟩ (.slice none 0 0) K2.ZV W2 P2.me JL (Im.nil _ _ _ _) rl).use ?_
    rintro v' g3 ⟨o3,qJ,k3,_,W3⟩
    simp -implicitDefEqProofs only[go_sem,↓reduceIte,f78]
    unfold Yy
    refine⟨⟨f0,f4,f5,m+1,o3,qJ,ZA,rfl,K2.trans k3,N2.Zc k3 (by rintro t (rfl|rfl)<;>simp[Tg.of]),by rw[J9,hpm,←List.append_assoc];exact W3,x4.Zc k3,x5.Zc k3⟩,?_⟩
    simp only[vi,Zh,↓reduceIte,f78];omega
   ·rw[if_neg (by rw[z2];simp)]at hpm
    obtain⟨pw,cw,rfl⟩:=iv.isSlice
    simp only[z1,Option.getD_some,Option.isSome_some,↓reduceIte]at lk
    simp -implicitDefEqProofs only[go_sem,↓reduceIte,f0,f4,f5,f78,ZH,r5,q2,lk]
    unfold Yy
    refine⟨⟨f0,f4,f5,m+1,o2,WA2,ZA,rfl,K2,N2,by rw[J9,hpm,List.append_nil];exact W2,x4,x5⟩,?_⟩
    simp only[vi,Zh,↓reduceIte,f78];omega
  ·have YE:¬(m:Int)<5:=by omega
   obtain rfl:m=5:=by omega
   simp -implicitDefEqProofs only[go_sem,↓reduceIte,f78,YE]
   exact⟨o2,_,WA2,K2.mono (fun t q=>by rcases q with rfl|rfl<;>simp[Xw]),N2,W2⟩
 have lm:=fun (K:Value→Hp→Prop) (cs:Array Bool) (ty:TypeId)=>VX (T:=T) (K:=K) (ty:=ty) (cs:=cs) NX R1.prom.2
 rw[R1.Si.length]at lm
 obtain⟨r1,jq⟩:=Zu (if r.begun=true then r else Se n r)
 have eP:QH { n with Zl:=some r } r=⟨{ n with Zl:=some (JJ n r1 n.queue) },Km n (JJ n r1 n.queue),[]⟩:=by
  unfold QH
  rw[if_neg c1,if_neg (by simpa using c2)]
  have e1:Kn { n with Zl:=some r } r=JJ n r1 n.queue:=by
   unfold Kn
   rw[jq,iw (n:={ n with Zl:=some r }) (n':=n) rfl rfl,ao (n:={ n with Zl:=some r }) (n':=n) rfl rfl]
  rw[e1,oL (n:={ n with Zl:=some r }) (n':=n) rfl rfl]
 rw[eP]
 simp -implicitDefEqProofs only[go_sem,↓reduceIte,f0,f4,f5,f35,c1,r4,r5,q2,lm]
 refine (MO T g1 r.prom.length M1).use ?_
 rintro _ g' ⟨rfl,Db⟩
 rw[Db]
 cases cb:r.begun
 all_goals
 first
 | (rw[cb,if_neg (by simp)]at jq
    rw[cb]at q3
    simp -implicitDefEqProofs only[go_sem,↓reduceIte,c2,f0,f4,f5,r4,r5,q3]
    refine (oJ T g1 o wb i nb a n ra r k1.ZV N1 hp hs hl).use ?_
    rintro v' g2 ⟨ra1,ae,kx,N3⟩
    rw[←jq]at N3
    have kx':Kp (Xw i) o g1 o g2:=kx.mono fun t q=>.inr (.inr (.inr (OR q)))
    have W3:=W1.Zc kx (by intro t q;rw[OR q];simp)
    have y4:=x4.Zc kx
    have y5:=x5.Zc kx
    have K3:Kp (Xw i) o h o g2:=(ZC k1).trans kx')
 | (rw[cb,if_pos rfl]at jq
    rw[cb]at q3
    simp -implicitDefEqProofs only[go_sem,↓reduceIte,c2,f0,f4,f5,r4,r5,q3]
    obtain⟨g2,QD⟩:=Zu (g1)
    obtain⟨ra1,hO⟩:=Zu (ra)
    have ae:ra1.rb=ra.rb:=by rw[hO]
    have N3:ZI o g2 wb i nb { a with Zl:=some ra1 } { n with Zl:=some r1 }:=by rw[hO,jq,QD];exact N1
    have W3:ZE o g2 wb Z7 YC fl bad told:=by rw[QD];exact W1
    have y4:ZL o g2 h.size (.cells [Zn nb].toArray 124):=by rw[QD];exact x4
    have y5:ZL o g2 (h.size+1) (.cells [Zn ra.rb].toArray 132):=by rw[QD];exact x5
    have K3:Kp (Xw i) o h o g2:=by rw[QD];exact ZC k1
    rw[←QD])
 all_goals
  clear r4 r5 q0 q2 q3 q4 q5 l4 l5 CO JF P1 R1 lm
  have P3:=Zy N3.ZD.2 N3.pt.store.len
  obtain⟨pq,cq,uV,_⟩:=Ys.isSlice N3.pt.queue
  have uV:a.queue=.slice pq n.queue.length cq:=uV
  have P3q:hc g2 ⟨nb,52,none⟩=some (.slice pq n.queue.length cq):=by rw[←uV];exact P3.queue
  have r4:hc g2 ⟨h.size,0,none⟩=some (Zn nb):=Zg y4.2
  have r5:hc g2 ⟨h.size+1,0,none⟩=some (Zn ra.rb):=Zg y5.2
  unfold Zn at r4 r5
  simp -implicitDefEqProofs only[go_sem,↓reduceIte,f0,f4,f5,r4,r5,P3q]
  clear r4 r5 P3q P3
  refine VS.ZU (fun F g=>F 0=.pointer (some ⟨wb,0,none⟩)∧F 4=.pointer (some ⟨h.size,0,none⟩)∧F 5=.pointer (some ⟨h.size+1,0,none⟩)∧F 113=.slice pq n.queue.length cq∧F 114=.int .i64 n.queue.length∧∃(j:Nat) (ra':RA),j≤n.queue.length∧F 115=.int .i64 j∧Kp (Xw i) o h o g∧ra'.rb=ra.rb∧ZI o g wb i nb { a with Zl:=some ra' } { n with Zl:=some (JJ n r1 (n.queue.take j)) }∧ZE o g wb Z7 YC fl bad told∧ZL o g h.size (.cells [Zn nb].toArray 124)∧ZL o g (h.size+1) (.cells [Zn ra.rb].toArray 132))
   (fun F _=>n.queue.length-(vi (F 115)).toNat) rfl ⟨f0,f4,f5,rfl,rfl,0,ra1,by omega,rfl,K3,ae,N3,W3,y4,y5⟩ ?_
  clear f0 f4 f5 y4 y5 K3 N3 W3 ae
  rintro F3 g3 ⟨f0,f4,f5,f113,f114,j,ra',hj,f115,K3,ae,N3,W3,y4,y5⟩
  obtain⟨rj,hrj⟩:=Zu (JJ n r1 (n.queue.take j))
  rw[←hrj]at N3
  have r4:hc g3 ⟨h.size,0,none⟩=some (Zn nb):=Zg y4.2
  have r5:hc g3 ⟨h.size+1,0,none⟩=some (Zn ra.rb):=Zg y5.2
  unfold Zn at r4 r5
  have l4:=Za y4.2
  have l5:=Za y5.2
  by_cases ZA:j<n.queue.length
  ·have ZH:(j:Int)<n.queue.length:=by omega
   obtain⟨pz,cz,Gx,At⟩:=XP N3.pt.queue.ts
   obtain⟨bb,oo,uf,Ut,RO⟩:=At (by intro e;have:n.queue=[]:=e;rw[this]at ZA;simp at ZA)
   have Gx:a.queue=.slice pz n.queue.length cz:=Gx
   rw[uV]at Gx
   simp only[Value.slice.injEq]at Gx
   obtain⟨rfl,_,rfl⟩:=Gx
   subst uf
   have re:rd g3 ⟨bb,oo+j*5,none⟩ 5=some (n.queue[j]).C:=RO j ZA
   obtain⟨x,hx⟩:=Zu (n.queue[j])
   rw[←hx]at re
   have YM:JJ n r1 (n.queue.take (j+1))=VH n rj x:=by
    rw[Z9 _ j ZA,←hx,hrj]
    unfold JJ
    rw[List.foldl_append];rfl
   obtain⟨g4,VO⟩:=Zu (g3.push (.cells x.C.toArray 47):Hp)
   have k4:Kp JK o g3 o g4:=by rw[VO];exact ZW K3.ZV _
   have x4':ZL o g4 g3.size (.cells x.C.toArray 47):=⟨K3.ZV _ (Nat.le_refl _),by rw[VO];exact Zb⟩
   have e4:=VO.symm
   have N4:=N3.still k4
   have R4:YG o i g4 ra' rj:=N4.pt.Zl
   have z4:=y4.Zc k4
   have z5:=y5.Zc k4
   have s4:hc g4 ⟨h.size,0,none⟩=some (Zn nb):=Zg z4.2
   have s5:hc g4 ⟨h.size+1,0,none⟩=some (Zn ra'.rb):=by rw[ae];exact Zg z5.2
   have sx:rd g4 ⟨g3.size,0,none⟩ 5=some x.C:=Zo x4'.2 rfl
   have cf:=uQ T g4 o wb i nb { a with Zl:=some ra' } { n with Zl:=some rj } ra' rj x k4.ZV N4 R4 hl
   rw[show Ux { n with Zl:=some rj } rj x=Ux n rj x from by unfold Ux;rw[Fh (n:={ n with Zl:=some rj }) (n':=n) rfl rfl],Fh (n:={ n with Zl:=some rj }) (n':=n) rfl rfl]at cf
   unfold WJ Zn at cf
   unfold Zn at s4 s5
   simp -implicitDefEqProofs only[go_sem,↓reduceIte,f0,f4,f5,f113,f114,f115,ZH,re,e4,s4,s5,sx]
   refine cf.use ?_
   rintro _ g5 ⟨rfl,b5⟩
   have k5:=Zs k4.ZV b5
   have K5:Kp (Xw i) o h o g5:=(K3.trans (ZC k4)).trans (ZC k5)
   have N5:=N4.still k5
   have R5:YG o i g5 ra' rj:=N5.pt.Zl
   have W5:=(W3.still k4).still k5
   have u4:=z4.Zc k5
   have u5:=z5.Zc k5
   have ux:=x4'.Zc k5
   cases hf:free n rj x with
   | none=>
    have e1:VH n rj x=rj:=by unfold VH;rw[hf]
    simp -implicitDefEqProofs only[go_sem,↓reduceIte,Option.isSome_none,f115]
    unfold Yy
    refine⟨⟨f0,f4,f5,f113,f114,j+1,ra',ZA,rfl,K5,ae,by rw[YM,e1];exact N5,W5,u4,u5⟩,?_⟩
    simp only[vi,Zh,↓reduceIte,f115];omega
   | some sl=>
    have e1:VH n rj x = { rj with prop:=ins rj.prop (sl:Int) x }:=by unfold VH;rw[hf]
    have e2:Ux n rj x=sl:=by unfold Ux;rw[hf]
    rw[e2]
    simp -implicitDefEqProofs only[go_sem,↓reduceIte,Option.isSome_some]
    have t5:hc g5 ⟨h.size+1,0,none⟩=some (Zn ra'.rb):=by rw[ae];exact Zg u5.2
    unfold Zn at t5
    have tx:rd g5 ⟨g3.size,0,none⟩ 5=some x.C:=Zo ux.2 rfl
    obtain⟨_,_,_,t4,_⟩:=R5.rr
    have m5:=Za u5.2
    have mr:=Za R5.ZD.2
    have mx:=Za ux.2
    refine VS.z (g5.size) [6] (.q 0 (.p 1 (.p 2 (.q 3 (.p 4 (.q 5 (.w 6 .nil))))))) mixed (by kernel_rfl) ?_
    simp -implicitDefEqProofs only[go_sem,↓reduceIte,f5,t5,t4,tx,m5,mr,mx]
    rw[XN VJ R5.prop.2]
    obtain⟨k6,R6⟩:=R5.dk K5.ZV (k:=(sl:Int)) (x:=x)
    have k6':Kp (XA i) o g5 o _:=k6.mono fun t q=>.inr (.inr (.inl q))
    have k6a:Kp (Xw i) o g5 o _:=k6.mono fun t q=>.inr (.inr (.inr (by rw[q];rfl)))
    simp -implicitDefEqProofs only[go_sem,↓reduceIte,f115]
    unfold Yy
    refine⟨⟨f0,f4,f5,f113,f114,j+1,ra',ZA,rfl,K5.trans k6a,ae,?_,W5.Zc k6 (by rintro t rfl;simp[Tg.of]),u4.Zc k6,u5.Zc k6⟩,?_⟩
    ·rw[YM,e1]
     exact⟨N5.ZD.Zc k6 (by intro e;cases e),ZS.Qg N5.pt k6' rfl rfl R6⟩
    ·simp only[vi,Zh,↓reduceIte,f115];omega
  ·have YE:¬(j:Int)<n.queue.length:=by omega
   obtain rfl:j=n.queue.length:=by omega
   rw[List.take_length]at hrj
   simp -implicitDefEqProofs only[go_sem,↓reduceIte,f114,f115,YE]
   rw[←hrj]
   obtain⟨r2,hr2⟩:=Zu (rj)
   rw[←hr2]at N3 ⊢
   have ZfO:∀s x m,(Oa n r2 s x m).length≤1:=fun s x m=>by unfold Oa;split<;>simp
   have ZfP:∀s,(W0 n r2 s).length≤5:=fun s=>by
    unfold W0
    split
    ·split
     ·exact U7 _ 1 5 (ZfO s _)
     ·simp
    ·simp
   clear r4 r5 l4 l5
   refine VS.ZU (fun F g=>F 0=.pointer (some ⟨wb,0,none⟩)∧F 4=.pointer (some ⟨h.size,0,none⟩)∧F 5=.pointer (some ⟨h.size+1,0,none⟩)∧∃(s:Nat) (o':Ow) (Xn:WA),s≤40∧F 134=.int .i64 s∧Kp (Xw i) o h o' g∧ZI o' g wb i nb { a with Zl:=some ra' } { n with Zl:=some r2 }∧ZE o' g wb Z7 Xn (fl++(List.range s).flatMap (W0 n r2)) bad told∧ZL o' g h.size (.cells [Zn nb].toArray 124)∧ZL o' g (h.size+1) (.cells [Zn ra.rb].toArray 132))
    (fun F _=>40-(vi (F 134)).toNat) rfl ⟨f0,f4,f5,0,o,YC,by omega,rfl,K3,N3,by simpa using W3,y4,y5⟩ ?_
   clear f0 f4 f5 y4 y5 K3 N3 W3
   rintro F4 g4 ⟨f0,f4,f5,s,o4,dm,hs4,f134,K4,N4,W4,y4,y5⟩
   by_cases fL:s<40
   case neg=>
    have zN:¬(s:Int)<40:=by omega
    obtain rfl:s=40:=by omega
    simp -implicitDefEqProofs only[go_sem,↓reduceIte,f134,zN]
    exact⟨o4,_,dm,K4,N4,W4⟩
   have Hf:(s:Int)<40:=by omega
   have R4:YG o4 i g4 ra' r2:=N4.pt.Zl
   obtain⟨_,_,_,t4,t5⟩:=R4.rr
   have P4:=Zy N4.ZD.2 N4.pt.store.len
   have r4:hc g4 ⟨h.size,0,none⟩=some (Zn nb):=Zg y4.2
   have r5:hc g4 ⟨h.size+1,0,none⟩=some (Zn ra'.rb):=by rw[ae];exact Zg y5.2
   unfold Zn at r4 r5
   have l4:=Za y4.2
   have l5:=Za y5.2
   have n4:¬h.size=g4.size:=by omega
   have n5:¬h.size+1=g4.size:=by omega
   have nnb:¬nb=g4.size:=by have:=Za N4.ZD.2;omega
   have HK:=fun (K:Value→Hp→Prop)=>Yn (K:=K) (n:=(s:Int)) (c:=true) VJ Ob R4.prop.2
   rw[Xh]at HK
   have Vd:=fun (K:Value→Hp→Prop) (z:Obj)=>Yn (h:=g4.push z) (K:=K) (n:=(s:Int)) (c:=true) VJ Ob ((Zq (Za N4.pt.known.2)).trans N4.pt.known.2)
   simp only[Xh,show ({ n with Zl:=some r2 }:Nd).known=n.known from rfl]at Vd
   have uW:∀x y:Obj,Kp JK o4 g4 o4 ((g4.push x).push y):=fun x y=>(ZW K4.ZV _).push _
   have skip:∀(x y:Obj),W0 n r2 s=[]→ZI o4 ((g4.push x).push y) wb i nb { a with Zl:=some ra' } { n with Zl:=some r2 }∧ZE o4 ((g4.push x).push y) wb Z7 dm (fl++(List.range (s+1)).flatMap (W0 n r2)) bad told∧ZL o4 ((g4.push x).push y) h.size (.cells [Zn nb].toArray 124)∧ZL o4 ((g4.push x).push y) (h.size+1) (.cells [Zn ra.rb].toArray 132):=fun x y hz=>
    ⟨N4.still (uW x y),by rw[J9,hz,List.append_nil];exact W4.still (uW x y),y4.Zc (uW x y),y5.Zc (uW x y)⟩
   cases c3:Xe r2.prop (s:Int) with
   | none=>
    have hz:W0 n r2 s=[]:=by unfold W0;rw[c3]
    simp only[c3,Option.map_none,Option.getD_none,Option.isSome_none,↓reduceIte]at HK
    cases c4:Xe n.known (s:Int) with
    | none=>
     simp only[c4,Option.map_none,Option.getD_none,Option.isSome_none,↓reduceIte]at Vd
     simp -implicitDefEqProofs only[go_sem,↓reduceIte,f0,f4,f5,f134,Hf,r5,t4,r4,n4,n5,nnb,HK,Vd,P4.known]
     unfold Yy
     refine⟨⟨f0,f4,f5,s+1,o4,dm,fL,rfl,K4.trans (ZC (uW _ _)),skip _ _ hz⟩,?_⟩
     simp only[vi,Zh,↓reduceIte,f134];omega
    | some y=>
     simp only[c4,Option.map_some,Option.getD_some,Option.isSome_some,↓reduceIte]at Vd
     simp -implicitDefEqProofs only[go_sem,↓reduceIte,f0,f4,f5,f134,Hf,r5,t4,r4,n4,n5,nnb,HK,Vd,P4.known,WJ]
     unfold Yy
     refine⟨⟨f0,f4,f5,s+1,o4,dm,fL,rfl,K4.trans (ZC (uW _ _)),skip _ _ hz⟩,?_⟩
     simp only[vi,Zh,↓reduceIte,f134];omega
   | some x=>
    simp only[c3,Option.map_some,Option.getD_some,Option.isSome_some,↓reduceIte]at HK
    cases c4:Xe n.known (s:Int) with
    | some y=>
     have hz:W0 n r2 s=[]:=by unfold W0;rw[c3];simp only;rw[if_neg (by rw[c4];simp)]
     simp only[c4,Option.map_some,Option.getD_some,Option.isSome_some,↓reduceIte]at Vd
     simp -implicitDefEqProofs only[go_sem,↓reduceIte,f0,f4,f5,f134,Hf,r5,t4,r4,n4,n5,nnb,HK,Vd,P4.known,WJ]
     unfold Yy
     refine⟨⟨f0,f4,f5,s+1,o4,dm,fL,rfl,K4.trans (ZC (uW _ _)),skip _ _ hz⟩,?_⟩
     simp only[vi,Zh,↓reduceIte,f134];omega
    | none=>
     have hz:W0 n r2 s=(List.range 5).flatMap (Oa n r2 s x):=by unfold W0;rw[c3];simp only;rw[if_pos c4]
     simp only[c4,Option.map_none,Option.getD_none,Option.isSome_none,↓reduceIte]at Vd
     simp -implicitDefEqProofs only[go_sem,↓reduceIte,f0,f4,f5,f134,Hf,r5,t4,r4,n4,n5,nnb,HK,Vd,P4.known,WJ]
     obtain⟨fs,hfs⟩:=Zu (fl++(List.range s).flatMap (W0 n r2))
     have ZAG:fs.length≤900000001000:=by
      have:=U7 (W0 n r2) 5 s ZfP
      rw[hfs,List.length_append];omega
     have hnx:fl++(List.range (s+1)).flatMap (W0 n r2)=fs++(List.range 5).flatMap (Oa n r2 s x):=by rw[J9,hz,←List.append_assoc,←hfs]
     rw[←hfs]at W4
     have kz:=uW (.cells x.C.toArray 47) (.cells qE.C.toArray 47)
     have xb:ZL o4 ((g4.push (.cells x.C.toArray 47)).push (.cells qE.C.toArray 47)) g4.size (.cells x.C.toArray 47):=⟨K4.ZV _ (Nat.le_refl _),hQ _ _ _⟩
     refine VS.ZU (fun F g=>F 0=.pointer (some ⟨wb,0,none⟩)∧F 4=.pointer (some ⟨h.size,0,none⟩)∧F 5=.pointer (some ⟨h.size+1,0,none⟩)∧F 134=.int .i64 s∧F 18=.int .i64 s∧F 19=.pointer (some ⟨g4.size,0,none⟩)∧∃(m:Nat) (o':Ow) (Xn:WA),m≤5∧F 160=.int .i64 m∧Kp (Xw i) o h o' g∧ZI o' g wb i nb { a with Zl:=some ra' } { n with Zl:=some r2 }∧ZE o' g wb Z7 Xn (fs++(List.range m).flatMap (Oa n r2 s x)) bad told∧ZL o' g h.size (.cells [Zn nb].toArray 124)∧ZL o' g (h.size+1) (.cells [Zn ra.rb].toArray 132)∧ZL o' g g4.size (.cells x.C.toArray 47))
      (fun F _=>5-(vi (F 160)).toNat) rfl ⟨f0,f4,f5,f134,rfl,rfl,0,o4,dm,by omega,rfl,K4.trans (ZC kz),N4.still kz,by simpa using W4.still kz,y4.Zc kz,y5.Zc kz,xb⟩ ?_
     clear f0 f4 f5 f134 y4 y5 r4 r5 t4 t5 P4 HK Vd skip uW kz xb l4 l5 n4 n5 nnb R4
     rintro F5 g5 ⟨f0,f4,f5,f134,f18,f19,m,o5,WA5,hm,f160,K5,N5,W5,y4,y5,xb⟩
     by_cases uX:m<5
     case neg=>
      have hgm:¬(m:Int)<5:=by omega
      obtain rfl:m=5:=by omega
      simp -implicitDefEqProofs only[go_sem,↓reduceIte,f160,hgm,f134]
      unfold Yy
      refine⟨⟨f0,f4,f5,s+1,o5,WA5,fL,rfl,K5,N5,by rw[hnx];exact W5,y4,y5⟩,?_⟩
      simp only[vi,Zh,↓reduceIte,f134];omega
     have ZfR:(m:Int)<5:=by omega
     have R5:YG o5 i g5 ra' r2:=N5.pt.Zl
     obtain⟨v0,_,_,_,v5⟩:=R5.rr
     unfold X9 at v0
     have r5:hc g5 ⟨h.size+1,0,none⟩=some (Zn ra'.rb):=by rw[ae];exact Zg y5.2
     unfold Zn at r5
     have lkv:=fun (K:Value→Hp→Prop)=>Yn (K:=K) (n:=(s:Int)) (c:=false) Kr HC R5.Jv.2
     rw[Xh]at lkv
     simp only[Bool.false_eq_true,if_false]at lkv
     obtain⟨g6,TF⟩:=Zu (g5.push (.cells [].toArray 219):Hp)
     have e6:=TF.symm
     have k6:Kp JK o5 g5 o5 g6:=by rw[TF];exact ZW K5.ZV _
     have w6:wr g6 ⟨g5.size,0,none⟩ []=some g6:=by
      have hx:g6[g5.size]? = some (.cells [].toArray 219):=by rw[TF];exact Zb
      rw[ZP hx 0 [],if_pos ⟨by simp,rfl⟩]
      congr 1
      exact VA hx
     have N6:=N5.still k6
     have W6:=W5.still k6
     have z4:=y4.Zc k6
     have z5:=y5.Zc k6
     have zx:=xb.Zc k6
     have K6:Kp (Xw i) o h o5 g6:=K5.trans (ZC k6)
     have P6:=Zy N6.ZD.2 N6.pt.store.len
     have R6:YG o5 i g6 ra' r2:=N6.pt.Zl
     obtain⟨u0,_,_,_,_⟩:=R6.rr
     unfold X9 at u0
     have s4:hc g6 ⟨h.size,0,none⟩=some (Zn nb):=Zg z4.2
     have s5:hc g6 ⟨h.size+1,0,none⟩=some (Zn ra'.rb):=by rw[ae];exact Zg z5.2
     unfold Zn at s4 s5
     have sx:rd g6 ⟨g4.size,0,none⟩ 5=some [.int .i64 x.k,.int .i64 x.c,.int .i64 x.s,.int .i64 x.n,.int .i64 x.v]:=Zo zx.2 rfl
     have m4:=Za z4.2
     have m5:=Za z5.2
     have mx:=Za zx.2
     have mr:=Za R6.ZD.2
     have oN:=Za N6.ZD.2
     obtain⟨S,hS⟩:=Zu ((Xe r2.Jv (s:Int)).getD [])
     have Da:Oa n r2 s x m=if Xe S (m:Int)=none then [⟨2,n.me,m,JI,TD s r2.b x,[]⟩] else []:=by unfold Oa;rw[hS]
     obtain⟨mv,hmv,lki⟩:∃mv,(Option.map qF (Xe ra'.sv (s:Int))).getD (.map none)=mv∧∀K:Value→Hp→Prop,Nn Tryz.prog 218 mv (.int .i64 (m:Int)) true K g5=K (.tuple #[.agg #[],.bool (Xe S (m:Int)).isSome]) g5:=by
      rcases R5.Tj.Xe (s:Int) with⟨z1,z2⟩|⟨sb,S',z1,z2,xt⟩
      ·refine⟨.map none,by rw[z1];rfl,fun K=>?_⟩
       rw[Gv Hz xO,hS,z2];rfl
      ·refine⟨.map (some sb),by rw[z1];rfl,fun K=>?_⟩
       have:=Yn (K:=K) (n:=(m:Int)) (c:=true) Hz xO xt.2
       have hSS:S=S':=by rw[hS,z2];rfl
       rw[this]
       unfold Ms
       rw[Xh,←hSS]
       cases Xe S (m:Int)<;>rfl
     rw[hmv]at lkv
     cases cS:Xe S (m:Int) with
     | some uu=>
      rw[if_neg (by rw[cS];simp)]at Da
      simp only[cS,Option.isSome_some]at lki
      simp -implicitDefEqProofs only[go_sem,↓reduceIte,f0,f4,f5,f18,f19,f160,ZfR,r5,v5,lkv,lki,e6,w6]
      unfold Yy
      refine⟨⟨f0,f4,f5,f134,f18,f19,m+1,o5,WA5,uX,rfl,K6,N6,by rw[J9,Da,List.append_nil];exact W6,z4,z5,zx⟩,?_⟩
      simp only[vi,Zh,↓reduceIte,f160];omega
     | none=>
      rw[if_pos cS]at Da
      simp only[cS,Option.isSome_none]at lki
      simp -implicitDefEqProofs only[go_sem,↓reduceIte,f0,f4,f5,f18,f19,f160,ZfR,r5,v5,lkv,lki,e6,w6]
      refine VS.z (g6.size) [11] (.p 0 (.q 1 (.p 2 (.p 3 (.q 4 (.p 5 (.p 6 (.q 7 (.q 8 (.p 9 (.p 10 (.w 11 .nil)))))))))))) mixed (by kernel_rfl) ?_
      simp -implicitDefEqProofs only[go_sem,↓reduceIte,f0,f4,f5,f18,f19,f160,s4,s5,u0,sx,m4,m5,mx,mr]
      have rl:(fs++(List.range m).flatMap (Oa n r2 s x)).length≤1000000000000:=by
       have:=U7 (Oa n r2 s x) 1 m (ZfO s x)
       rw[List.length_append];omega
      refine (UI T g6 o5 wb nb Z7 n.me WA5 _ bad told (m:Int) ⟨2,0,0,JI,TD s r2.b x,[]⟩ (.slice none 0 0) K6.ZV W6 P6.me oN (Im.nil _ _ _ _) rl).use ?_
      rintro v' g7 ⟨o7,WA7,k7,_,W7⟩
      simp -implicitDefEqProofs only[go_sem,↓reduceIte,f160]
      unfold Yy
      refine⟨⟨f0,f4,f5,f134,f18,f19,m+1,o7,WA7,uX,rfl,K6.trans (k7.mono fun t q=>by rcases q with rfl|rfl<;>simp[Xw]),N6.Zc k7 (by rintro t (rfl|rfl)<;>simp[Tg.of]),by rw[J9,Da,←List.append_assoc];exact W7,z4.Zc k7,z5.Zc k7,zx.Zc k7⟩,?_⟩
      simp only[vi,Zh,↓reduceIte,f160];omega
theorem Uf.fn {o:Ow} {h:Hp} {wb i nb:Nat} {ra:Option RA} {v:Value} {p:Option gT} (s:Uf o h wb i nb ra v p):(p=none∧v=.nilFunc)∨(p.isSome=true∧∃f l,v=.func (.func f) #[] l):=by
 match p,s with
 | none,s=>exact .inl ⟨rfl,s⟩
 | some (.G8 _ _ _ _),⟨_,_,_,_,e,_⟩=>exact .inr ⟨rfl,_,_,e⟩
 | some (.G9 _ _ _),⟨_,_,_,_,e,_⟩=>exact .inr ⟨rfl,_,_,e⟩
 | some (.own _ _ _),⟨_,_,_,_,_,_,e,_⟩=>exact .inr ⟨rfl,_,_,e⟩
theorem ix (n:Nd) (r:Qn):(QH n r).n.Xj=n.Xj∧(QH n r).n.log=n.log∧(QH n r).n.me=n.me∧(QH n r).n.heard=n.heard∧(QH n r).n.own=n.own∧(QH n r).ts=[]:=by
 unfold QH
 split
 ·split<;>exact⟨rfl,rfl,rfl,rfl,rfl,rfl⟩
 ·split<;>exact⟨rfl,rfl,rfl,rfl,rfl,rfl⟩
theorem aq (n:Nd) (r:Qn):(Kl n r).length≤5:=by
 have:=U7 (fun (m:Nat)=>if Xe r.prom (m:Int)=none then [(⟨0,n.me,m,r.b,T9,[]⟩:Y9)] else []) 1 5 (fun m=>by split<;>simp)
 exact this
theorem iy (n:Nd) (r:Qn):(Km n r).length≤200:=by
 have h1:∀s x m,(Oa n r s x m).length≤1:=fun s x m=>by unfold Oa;split<;>simp
 have h2:∀s,(W0 n r s).length≤5:=fun s=>by
  unfold W0
  split
  ·split
   ·exact U7 _ 1 5 (h1 s _)
   ·simp
  ·simp
 exact U7 _ 5 40 h2
theorem uY (n:Nd) (r:Qn):(QH n r).ls.length≤200:=by
 unfold QH
 split
 ·split<;>simp
 ·split
  ·have:=aq n r;simp only;omega
  ·exact iy n _
theorem ar (n:Nd):(still n).Xj=n.Xj∧(still n).log=n.log∧(still n).me=n.me∧(still n).heard=n.heard∧(still n).own=n.own∧(still n).queue=n.queue∧(still n).ZT=n.ZT∧(still n).data=n.data∧(still n).Xs=n.Xs:=by
 unfold still
 split
 ·split<;>exact⟨rfl,rfl,rfl,rfl,rfl,rfl,rfl,rfl,rfl⟩
 ·exact⟨rfl,rfl,rfl,rfl,rfl,rfl,rfl,rfl,rfl⟩
theorem D2 (n:Nd):(still n).Zl=none∨(still n).Zl=n.Zl:=by
 unfold still
 split
 ·split
  ·exact .inl rfl
  ·exact .inr rfl
 ·exact .inr rfl
theorem RP (n:Nd):(Yw n).n.Xj=n.Xj∧(Yw n).n.log=n.log∧(Yw n).n.me=n.me∧(Yw n).n.heard=n.heard∧(Yw n).n.own=n.own∧(Yw n).ts=[]:=by
 unfold Yw
 split
 ·exact ix _ _
 ·split<;>exact⟨rfl,rfl,rfl,rfl,rfl,rfl⟩
theorem D3 (n:Nd):(Yw n).ls.length≤200+n.queue.length:=by
 unfold Yw
 split
 ·next r _=>have:=uY n r;omega
 ·split
  ·simp[Sf]
  ·simp
set_option maxHeartbeats 4000000 in
theorem uZ (T:World) (h:Hp) (o:Ow) (wb i nb:Nat) (Z7:Nat→Nat) (a:NA) (n:Nd) (YC:WA) (fl:List Y9) (bad:Nat→Int) (told:List Sd) (d:Ug o h)
  (N:ZI o h wb i nb a n) (W:ZE o h wb Z7 YC fl bad told) (tb:Fb o h) (hp0:n.ZT=none) (Ym:fl.length≤800000000000) (nz:n.own.l.length≤1000000) (gE:n.data.length≤1000000)
  (hr:∀r,n.Zl=some r→(∀x∈r.prom,x.2.length≤1000000)∧(∀x∈r.prom,∀v∈x.2,v.slot≤1000000)∧r.prom.length≤1000000000000) (hl:n.log.length≤100000000000) (hq:n.queue.length≤10000000000) (ht:0≤n.Xj∧n.Xj<5) :
  Zd Tryz.prog T 96 #[Zn wb,Zn nb] h fun v' h'=>∃o' a' Xn,Kp (Xw i) o h o' h'∧ZI o' h' wb i nb a' (VI n).n∧ZE o' h' wb Z7 Xn (fl++(VI n).ls) bad told:=by
 refine Zd.Mz (args:=#[_,_]) Tryz.func96 rfl rfl rfl ?_
 obtain⟨xX,ZaO,sme,ZaP,iz,Fi,oP,xY,ZoL⟩:=ar n
 refine VS.seq (VS.mono (N:=fun F' g'=>F' 0=.pointer (some ⟨wb,0,none⟩)∧F' 1=.pointer (some ⟨nb,0,none⟩)∧∃a1,Kp (Xw i) o h o g'∧ZI o g' wb i nb a1 (still n)∧ZE o g' wb Z7 YC fl bad told) ?_ ?_ (fun _ _ _ h=>h) (fun _ _ h=>h))
 ·refine X6 _ _ _ _ _ _ rfl ?_
  unfold Zn
  have P:=Zy N.ZD.2 N.pt.store.len
  have Vf:=Za N.ZD.2
  have Pr:=P.Zl
  have Po:=P.DM
  cases OV:a.Zl with
  | none=>
   rw[OV]at Pr
   have hn:n.Zl=none:=by
    have:=N.pt.Zl
    rw[OV]at this
    cases hx:n.Zl with
    | none=>rfl
    | some r=>rw[hx]at this;exact this.elim
   have es:still n=n:=by unfold still;rw[hn]
   rw[es]
   unfold RL at Pr
   simp -implicitDefEqProofs only[go_sem,↓reduceIte,Pr]
   refine VS.mono (N:=fun F' g'=>Ze h.size h g'∧F' 0=.pointer (some ⟨wb,0,none⟩)∧F' 1=.pointer (some ⟨nb,0,none⟩)∧F' 26=.bool false) ?_ ?_ (fun _ _ _ h=>h) (fun _ _ h=>h)
   ·refine VS.z (h.size) [12] (.p 0 (.p 1 (.p 2 (.p 3 (.p 4 (.p 5 (.p 6 (.q 7 (.p 8 (.p 9 (.p 10 (.q 11 (.w 12 (.p 13 .nil)))))))))))))) mixed (by kernel_rfl) ?_
    simp -implicitDefEqProofs only[go_sem,↓reduceIte,Pr,Po,Vf]
    try exact Ze.refl _ _
   rintro F1 g1 ⟨b1,f0,f1,f26⟩
   have kb:=Zs d b1
   simp -implicitDefEqProofs only[go_sem,↓reduceIte,f26]
   exact⟨f0,f1,a,ZC kb,N.still kb,W.still kb⟩
  | some ra=>
   obtain⟨r,hn⟩:∃r,n.Zl=some r:=by
    have:=N.pt.Zl
    rw[OV]at this
    cases hx:n.Zl with
    | none=>rw[hx]at this;exact this.elim
    | some r=>exact⟨r,rfl⟩
   rw[OV]at Pr
   unfold RL Zn at Pr
   have R:YG o i h ra r:=by have:=N.pt.Zl;rw[OV,hn]at this;exact this
   obtain⟨q0,_,_,_,_⟩:=R.rr
   have CO:=Za R.ZD.2
   simp -implicitDefEqProofs only[go_sem,↓reduceIte,Pr]
   refine VS.mono (N:=fun F' g'=>Ze h.size h g'∧F' 0=.pointer (some ⟨wb,0,none⟩)∧F' 1=.pointer (some ⟨nb,0,none⟩)∧F' 26=.bool (decide (below r.b n.own.p))) ?_ ?_ (fun _ _ _ h=>h) (fun _ _ h=>h)
   ·refine VS.z (h.size) [12] (.p 0 (.p 1 (.p 2 (.p 3 (.p 4 (.p 5 (.p 6 (.q 7 (.p 8 (.p 9 (.p 10 (.q 11 (.w 12 (.p 13 .nil)))))))))))))) mixed (by kernel_rfl) ?_
    simp -implicitDefEqProofs only[go_sem,↓reduceIte,Pr,Po,q0,Vf,CO]
    refine (Of T h n.own.p r.b).use ?_
    rintro _ g ⟨rfl,b⟩
    simp -implicitDefEqProofs only[go_sem,↓reduceIte,b]
   rintro F1 g1 ⟨b1,f0,f1,f26⟩
   have kb:=Zs d b1
   have N1:=N.still kb
   have W1:=W.still kb
   by_cases c:below r.b n.own.p
   ·have es:still n = { n with Zl:=none }:=by unfold still;rw[hn];simp only;rw[if_pos c]
    rw[es]
    have hpn:a.ZT=.nilFunc:=by
     have:=N.pt.ZT
     rw[hp0]at this
     exact this
    have pn:Uf o g1 wb i nb none a.ZT n.ZT:=by rw[hp0];exact hpn
    obtain⟨g2,w2,N2,k2⟩:=ZS.write (a:={ a with Zl:=none }) (n:={ n with Zl:=none }) { N1.pt with Zl:=trivial,ZT:=pn } kb.ZV N1.ZD ((YO N1.ZD.2 N1.pt.store.len).Zl none)
    have JF:=Za N1.ZD.2
    unfold RL at w2
    simp -implicitDefEqProofs only[go_sem,↓reduceIte,f0,f1,f26,c,w2,JF]
    exact⟨_,(ZC kb).trans (k2.mono fun t q=>.inr (.inr (.inr (by rw[q];rfl)))),N2,W1.Zc k2 (by rintro t rfl;simp[Tg.of])⟩
   ·have es:still n=n:=by unfold still;rw[hn];simp only;rw[if_neg c]
    rw[es]
    simp -implicitDefEqProofs only[go_sem,↓reduceIte,f26,c]
    exact⟨f0,f1,a,ZC kb,N1,W1⟩
 rintro F1 g1 ⟨f0,f1,a1,K1,N1,W1⟩
 obtain⟨s,hs⟩:=Zu (still n)
 rw[←hs]at N1 xX ZaO sme ZaP iz Fi oP xY ZoL
 have srg:s.Zl=none∨s.Zl=n.Zl:=by rw[hs];exact D2 n
 obtain⟨ya,ZfT,eme,ZaQ,ZoM,ets⟩:=RP s
 have els:=D3 s
 unfold VI
 rw[←hs]
 clear hs
 refine VS.seq (VS.mono (N:=fun F' g'=>F' 0=.pointer (some ⟨wb,0,none⟩)∧F' 1=.pointer (some ⟨nb,0,none⟩)∧∃kb a1,F' 5=.pointer (some ⟨kb,0,none⟩)∧ZL o g' kb (.cells [.int .i64 n.own.p.r,.int .i64 n.own.p.n].toArray 128)∧Kp (Xw i) o h o g'∧ZI o g' wb i nb a1 s∧ZE o g' wb Z7 YC fl bad told) ?_ ?_ (fun _ _ _ h=>h) (fun _ _ h=>h))
 ·refine X6 _ _ _ _ _ _ rfl ?_
  have P1:=Zy N1.ZD.2 N1.pt.store.len
  have P1o:=P1.DM
  rw[iz]at P1o
  have Vf:=Za N1.ZD.2
  obtain⟨g2,QD⟩:=Zu (g1.push (.cells [.int .i64 n.own.p.r,.int .i64 n.own.p.n].toArray 128):Hp)
  have k2:Kp JK o g1 o g2:=by rw[QD];exact ZW K1.ZV _
  have x5:ZL o g2 g1.size (.cells [.int .i64 n.own.p.r,.int .i64 n.own.p.n].toArray 128):=⟨K1.ZV _ (Nat.le_refl _),by rw[QD];exact Zb⟩
  have e2:=QD.symm
  simp -implicitDefEqProofs only[go_sem,↓reduceIte,f0,f1,P1o,Vf,e2]
  exact⟨_,a1,rfl,x5,K1.trans (ZC k2),N1.still k2,W1.still k2⟩
 clear f0 f1 K1 N1 W1
 rintro F2 g2 ⟨f0,f1,kb,a2,f5,x5,K2,N2,W2⟩
 have Hb:=tb.Zc K2
 refine VS.seq (VS.mono (N:=fun F' g'=>F' 0=.pointer (some ⟨wb,0,none⟩)∧F' 1=.pointer (some ⟨nb,0,none⟩)∧(Yw s).n.ZT=none∧∃o' a1 Xn,Kp (Xw i) o h o' g'∧ZI o' g' wb i nb a1 (Yw s).n∧ZE o' g' wb Z7 Xn (fl++(Yw s).ls) bad told) ?_ ?_ (fun _ _ _ h=>h) (fun _ _ h=>h))
 ·refine X6 _ _ _ _ _ _ rfl ?_
  have P2:=Zy N2.ZD.2 N2.pt.store.len
  have P2r:=P2.Zl
  have iA:=P2.me
  have Vf:=Za N2.ZD.2
  have l5:=Za x5.2
  cases OV:a2.Zl with
  | some ra=>
   obtain⟨r,hn⟩:∃r,s.Zl=some r:=by
    have:=N2.pt.Zl
    rw[OV]at this
    cases hx:s.Zl with
    | none=>rw[hx]at this;exact this.elim
    | some r=>exact⟨r,rfl⟩
   have hnr:n.Zl=some r:=by
    rcases srg with e|e
    ·rw[e]at hn;cases hn
    ·rw[←e,hn]
   have e1:Yw s=QH s r:=by unfold Yw;rw[hn]
   have ea:a2 = { a2 with Zl:=some ra }:=by rw[←OV]
   have es:s = { s with Zl:=some r }:=by rw[←hn]
   obtain⟨jq,hr2,hr3⟩:=hr r hnr
   rw[OV]at P2r
   unfold RL Zn at P2r
   have cr:=uT T g2 o wb i nb Z7 a2 s ra r YC fl bad told K2.ZV (by rw[←ea,←es];exact N2) W2 Hb (by omega) (by rw[iz];exact nz) (by rw[xY];exact gE) jq hr2 hr3 (by rw[ZaO];omega) (by rw[Fi];omega)
   rw[←es,←e1]at cr
   unfold Zn at cr
   simp -implicitDefEqProofs only[go_sem,↓reduceIte,f0,f1,P2r]
   refine cr.use ?_
   rintro v' g3 ⟨o3,a3,qJ,k3,N3,W3⟩
   have P3:=(Zy N3.ZD.2 N3.pt.store.len).ZT
   rcases N3.pt.ZT.fn with⟨c1,c2⟩|⟨c1,f,l,c2⟩
   ·rw[c2]at P3
    simp -implicitDefEqProofs only[go_sem,↓reduceIte,f0,f1,P3]
    exact⟨c1,o3,a3,qJ,K2.trans k3,N3,W3⟩
   ·rw[c2]at P3
    simp -implicitDefEqProofs only[go_sem,↓reduceIte,f0,f1,P3]
    rw[if_pos c1]
    exact⟨o3,a3,qJ,K2.trans k3,N3,W3⟩
  | none=>
   have hn:s.Zl=none:=by
    have:=N2.pt.Zl
    rw[OV]at this
    cases hx:s.Zl with
    | none=>rfl
    | some r=>rw[hx]at this;exact this.elim
   rw[OV]at P2r
   unfold RL at P2r
   have r5a:hc g2 ⟨kb,0,none⟩=some (.int .i64 n.own.p.r):=Zg x5.2
   have r5b:hc g2 ⟨kb,1,none⟩=some (.int .i64 n.own.p.n):=Zg x5.2
   rw[sme]at iA
   by_cases c:0<n.own.p.r∧n.own.p.n≠n.me
   case neg=>
    have e1:Yw s=⟨s,[],[]⟩:=by unfold Yw;rw[hn];simp only;rw[iz,sme,if_neg c]
    rw[e1]
    have Rg:s.ZT=none:=by rw[oP];exact hp0
    simp -implicitDefEqProofs only[go_sem,↓reduceIte,f0,f1,P2r]
    refine VS.mono (N:=fun F' g'=>Ze g2.size g2 g'∧F' 0=.pointer (some ⟨wb,0,none⟩)∧F' 1=.pointer (some ⟨nb,0,none⟩)∧F' 53=.bool false) ?_ ?_ (fun _ _ _ h=>h) (fun _ _ h=>h)
    ·refine VS.z (g2.size) [] (.p 0 (.q 1 (.p 2 (.p 3 (.p 4 (.q 5 (.p 6 (.p 7 (.p 8 (.q 9 (.p 10 (.p 11 (.p 12 .nil))))))))))))) mixed (by kernel_rfl) ?_
     by_cases c1:0<n.own.p.r
     ·have c2:n.own.p.n=n.me:=by
       rcases Decidable.em (n.own.p.n=n.me) with e|e
       ·exact e
       ·exact (c ⟨c1,e⟩).elim
      simp -implicitDefEqProofs only[go_sem,↓reduceIte,f0,f1,f5,r5a,r5b,iA,l5,Vf,c1,c2]
      try exact Ze.refl _ _
     ·simp -implicitDefEqProofs only[go_sem,↓reduceIte,f0,f1,f5,r5a,r5b,iA,l5,Vf,c1]
      try exact Ze.refl _ _
    rintro F3 g3 ⟨b3,f0,f1,f53⟩
    have We:=Zs K2.ZV b3
    simp -implicitDefEqProofs only[go_sem,↓reduceIte,f53]
    exact⟨f0,f1,Rg,o,a2,YC,K2.trans (ZC We),N2.still We,by rw[List.append_nil];exact W2.still We⟩
   have e1:Yw s=⟨s,Sf s,[]⟩:=by unfold Yw;rw[hn];simp only;rw[iz,sme,if_pos c]
   rw[e1]
   have Rg:s.ZT=none:=by rw[oP];exact hp0
   obtain⟨c1,c2⟩:=c
   simp -implicitDefEqProofs only[go_sem,↓reduceIte,f0,f1,P2r]
   refine VS.mono (N:=fun F' g'=>Ze g2.size g2 g'∧F' 0=.pointer (some ⟨wb,0,none⟩)∧F' 1=.pointer (some ⟨nb,0,none⟩)∧F' 5=.pointer (some ⟨kb,0,none⟩)∧F' 53=.bool true) ?_ ?_ (fun _ _ _ h=>h) (fun _ _ h=>h)
   ·refine VS.z (g2.size) [] (.p 0 (.q 1 (.p 2 (.p 3 (.p 4 (.q 5 (.p 6 (.p 7 (.p 8 (.q 9 (.p 10 (.p 11 (.p 12 .nil))))))))))))) mixed (by kernel_rfl) ?_
    simp -implicitDefEqProofs only[go_sem,↓reduceIte,f0,f1,f5,r5a,r5b,iA,l5,Vf,c1,c2]
    try exact Ze.refl _ _
   clear f0 f1 f5
   rintro F3 g3 ⟨b3,f0,f1,f5,f53⟩
   have We:=Zs K2.ZV b3
   have N3:=N2.still We
   have W3:=W2.still We
   have K3:=K2.trans (ZC (S:=Xw i) We)
   have y5:=x5.Zc We
   obtain⟨pq,cq,uV,_⟩:=Ys.isSlice N3.pt.queue
   have uV:a2.queue=.slice pq s.queue.length cq:=uV
   have P3q:=(Zy N3.ZD.2 N3.pt.store.len).queue
   rw[uV]at P3q
   simp -implicitDefEqProofs only[go_sem,↓reduceIte,f0,f1,f53,P3q]
   have hql:s.queue.length≤10000000000:=by rw[Fi];exact hq
   refine VS.ZU (fun F g=>F 0=.pointer (some ⟨wb,0,none⟩)∧F 1=.pointer (some ⟨nb,0,none⟩)∧F 5=.pointer (some ⟨kb,0,none⟩)∧F 69=.slice pq s.queue.length cq∧F 70=.int .i64 s.queue.length∧∃(j:Nat) (o':Ow) (Xn:WA),j≤s.queue.length∧F 71=.int .i64 j∧Kp (Xw i) o h o' g∧ZI o' g wb i nb a2 s∧ZE o' g wb Z7 Xn (fl++(Sf s).take j) bad told∧ZL o' g kb (.cells [.int .i64 n.own.p.r,.int .i64 n.own.p.n].toArray 128))
    (fun F _=>s.queue.length-(vi (F 71)).toNat) rfl ⟨f0,f1,f5,rfl,rfl,0,o,YC,by omega,rfl,K3,N3,by simpa using W3,y5⟩ ?_
   clear f0 f1 f5 f53 P3q N3 W3 K3 y5 We b3 x5 K2 N2 W2
   rintro F4 g4 ⟨f0,f1,f5,f69,f70,j,o4,dm,hj,f71,K4,N4,W4,y5⟩
   have ub:(Sf s).length=s.queue.length:=by unfold Sf;simp
   by_cases ZA:j<s.queue.length
   ·have ZH:(j:Int)<s.queue.length:=by omega
    obtain⟨pz,cz,Gx,At⟩:=XP N4.pt.queue.ts
    obtain⟨bb,oo,uf,Ut,RO⟩:=At (by intro e;have:s.queue=[]:=e;rw[this]at ZA;simp at ZA)
    have Gx:a2.queue=.slice pz s.queue.length cz:=Gx
    rw[uV]at Gx
    simp only[Value.slice.injEq]at Gx
    obtain⟨rfl,_,rfl⟩:=Gx
    subst uf
    have re:rd g4 ⟨bb,oo+j*5,none⟩ 5=some (s.queue[j]).C:=RO j ZA
    obtain⟨x,hx⟩:=Zu (s.queue[j])
    rw[←hx]at re
    have YM:(Sf s).take (j+1)=(Sf s).take j++[⟨4,s.me,n.own.p.n,JI,TD 0 JI x,[]⟩]:=by
     rw[Z9 _ j (by rw[ub];exact ZA)]
     congr 2
     unfold Sf
     rw[List.getElem_map,←hx,iz]
    obtain⟨g5,au⟩:=Zu (g4.push (.cells x.C.toArray 47):Hp)
    have k5:Kp JK o4 g4 o4 g5:=by rw[au];exact ZW K4.ZV _
    have x7:ZL o4 g5 g4.size (.cells x.C.toArray 47):=⟨K4.ZV _ (Nat.le_refl _),by rw[au];exact Zb⟩
    have e5:=au.symm
    have N5:=N4.still k5
    have W5:=W4.still k5
    have z5:=y5.Zc k5
    have s5:hc g5 ⟨kb,1,none⟩=some (.int .i64 n.own.p.n):=Zg z5.2
    have sx:rd g5 ⟨g4.size,0,none⟩ 5=some [.int .i64 x.k,.int .i64 x.c,.int .i64 x.s,.int .i64 x.n,.int .i64 x.v]:=Zo x7.2 rfl
    have re:rd g4 ⟨bb,oo+j*5,none⟩ 5=some [.int .i64 x.k,.int .i64 x.c,.int .i64 x.s,.int .i64 x.n,.int .i64 x.v]:=re
    have e5:g4.push (.cells [.int .i64 x.k,.int .i64 x.c,.int .i64 x.s,.int .i64 x.n,.int .i64 x.v].toArray 47)=g5:=e5
    have P5:=Zy N5.ZD.2 N5.pt.store.len
    have RN:=Za N5.ZD.2
    simp -implicitDefEqProofs only[go_sem,↓reduceIte,f0,f1,f5,f69,f70,f71,ZH,re,e5,s5,sx]
    have rl:(fl++(Sf s).take j).length≤1000000000000:=by
     rw[List.length_append,List.length_take];omega
    refine (UI T g5 o4 wb nb Z7 s.me dm _ bad told n.own.p.n ⟨4,0,0,JI,TD 0 JI x,[]⟩ (.slice none 0 0) k5.ZV W5 P5.me RN (Im.nil _ _ _ _) rl).use ?_
    rintro v' g6 ⟨o6,WA6,k6,_,W6⟩
    simp -implicitDefEqProofs only[go_sem,↓reduceIte,f71]
    unfold Yy
    refine⟨⟨f0,f1,f5,f69,f70,j+1,o6,WA6,ZA,rfl,(K4.trans (ZC k5)).trans (k6.mono fun t q=>by rcases q with rfl|rfl<;>simp[Xw]),N5.Zc k6 (by rintro t (rfl|rfl)<;>simp[Tg.of]),by rw[YM,←List.append_assoc];exact W6,z5.Zc k6⟩,?_⟩
    simp only[vi,Zh,↓reduceIte,f71];omega
   ·have YE:¬(j:Int)<s.queue.length:=by omega
    obtain rfl:j=s.queue.length:=by omega
    rw[List.take_of_length_le (by rw[ub];exact Nat.le_refl _)]at W4
    simp -implicitDefEqProofs only[go_sem,↓reduceIte,f70,f71,YE]
    exact⟨f0,f1,Rg,o4,a2,dm,K4,N4,W4⟩
 clear f0 f1 f5 x5 K2 N2 W2 Hb
 rintro F3 g3 ⟨f0,f1,Rg,o3,a3,qJ,K3,N3,W3⟩
 rw[if_neg (by rw[Rg];simp)]
 obtain⟨m,hm⟩:=Zu ((Yw s).n)
 obtain⟨ls,hls⟩:=Zu ((Yw s).ls)
 rw[←hm]at ya ZfT eme ZaQ ZoM N3 Rg
 rw[←hls]at W3 els
 rw[←hm,←hls]
 clear hm hls
 have hmt:0≤m.Xj∧m.Xj<5:=by rw[ya,xX];exact ht
 have jv:m.log.length≤100000000000:=by rw[ZfT,ZaO];exact hl
 have yc:ls.length≤10000000200:=by rw[Fi]at els;omega
 refine VS.seq (VS.mono (N:=fun F' g'=>F' 0=.pointer (some ⟨wb,0,none⟩)∧F' 1=.pointer (some ⟨nb,0,none⟩)∧Kp (Xw i) o h o3 g'∧ZI o3 g' wb i nb a3 (Qt m)∧ZE o3 g' wb Z7 qJ (fl++ls) bad told) ?_ ?_ (fun _ _ _ h=>h) (fun _ _ h=>h))
 ·refine X6 _ _ _ _ _ _ rfl ?_
  have P3:=Zy N3.ZD.2 N3.pt.store.len
  have P3t:=P3.Xj
  have Vf:=Za N3.ZD.2
  have et:(m.Xj+1).tmod 5=(m.Xj+1)%5:=Int.tmod_eq_emod_of_nonneg (by omega)
  obtain⟨g4,w4,N4,k4⟩:=ZS.write (a:=a3) (n:=Qt m) { N3.pt with } K3.ZV N3.ZD ((YO N3.ZD.2 N3.pt.store.len).Xj ((m.Xj+1)%5))
  simp -implicitDefEqProofs only[go_sem,↓reduceIte,f0,f1,P3t,et,w4,Vf]
  exact⟨K3.trans (k4.mono fun t q=>.inr (.inr (.inr (by rw[q];rfl)))),N4,W3.Zc k4 (by rintro t rfl;simp[Tg.of])⟩
 clear f0 f1 K3 N3 W3
 rintro F4 g4 ⟨f0,f1,K4,N4,W4⟩
 obtain⟨q,hq0⟩:=Zu (Qt m)
 have ql:q.log=m.log:=by rw[hq0];rfl
 rw[←hq0]at N4 ⊢
 clear hq0
 have P4:=Zy N4.ZD.2 N4.pt.store.len
 have P4t:=P4.Xj
 have ZaS:=P4.me
 have P4o:=P4.DM
 have P4l:=P4.log
 obtain⟨pl,cl,M1,_⟩:=Ys.isSlice N4.pt.log
 have M1:a3.log=.slice pl q.log.length cl:=M1
 rw[M1]at P4l
 have Vf:=Za N4.ZD.2
 rw[←ql]at jv
 refine X6 _ _ _ _ _ _ rfl ?_
 simp -implicitDefEqProofs only[go_sem,↓reduceIte]
 by_cases c:q.Xj≠q.me∧q.log.length<40
 case neg=>
  have e1:Sg q=[]:=by unfold Sg;rw[if_neg c]
  rw[e1,List.append_nil]
  refine VS.mono (N:=fun F' g'=>Ze g4.size g4 g'∧F' 109=.bool false) ?_ ?_ (fun _ _ _ h=>h) (fun _ _ h=>h)
  ·refine VS.z (g4.size) [] (.p 0 (.p 1 (.p 2 (.q 3 (.p 4 (.p 5 (.p 6 (.q 7 (.p 8 (.p 9 (.p 10 (.p 11 (.p 12 (.q 13 (.p 14 (.p 15 (.p 16 .nil))))))))))))))))) mixed (by kernel_rfl) ?_
   by_cases c1:q.Xj=q.me
   ·simp -implicitDefEqProofs only[go_sem,↓reduceIte,f0,f1,P4t,ZaS,P4l,Vf,c1]
    try exact Ze.refl _ _
   ·have c2:¬(q.log.length:Int)<40:=by
     intro e
     exact c ⟨c1,by omega⟩
    simp -implicitDefEqProofs only[go_sem,↓reduceIte,f0,f1,P4t,ZaS,P4l,Vf,c1,c2]
    try exact Ze.refl _ _
  rintro F5 g5 ⟨b5,f109⟩
  have HH:=Zs K4.ZV b5
  simp -implicitDefEqProofs only[go_sem,↓reduceIte,f109]
  exact⟨o3,a3,qJ,K4.trans (ZC HH),N4.still HH,W4.still HH⟩
 have e1:Sg q=[⟨5,q.me,q.Xj,Uv q,TD q.log.length JI qE,[]⟩]:=by unfold Sg;rw[if_pos c]
 rw[e1]
 obtain⟨c1,c2⟩:=c
 have c2:(q.log.length:Int)<40:=by omega
 refine VS.mono (N:=fun F' g'=>Ze g4.size g4 g'∧F' 0=.pointer (some ⟨wb,0,none⟩)∧F' 1=.pointer (some ⟨nb,0,none⟩)∧F' 109=.bool true) ?_ ?_ (fun _ _ _ h=>h) (fun _ _ h=>h)
 ·refine VS.z (g4.size) [] (.p 0 (.p 1 (.p 2 (.q 3 (.p 4 (.p 5 (.p 6 (.q 7 (.p 8 (.p 9 (.p 10 (.p 11 (.p 12 (.q 13 (.p 14 (.p 15 (.p 16 .nil))))))))))))))))) mixed (by kernel_rfl) ?_
  simp -implicitDefEqProofs only[go_sem,↓reduceIte,f0,f1,P4t,ZaS,P4l,Vf,c1,c2]
  try exact Ze.refl _ _
 clear f0 f1
 rintro F5 g5 ⟨b5,f0,f1,f109⟩
 have HH:=Zs K4.ZV b5
 have N5:=N4.still HH
 have W5:=W4.still HH
 have K5:Kp (Xw i) o h o3 g5:=K4.trans (ZC HH)
 have P5:=Zy N5.ZD.2 N5.pt.store.len
 have P5o:=P5.DM
 have RN:=Za N5.ZD.2
 obtain⟨g6,TF⟩:=Zu (g5.push (.cells [.int .i64 q.own.p.r,.int .i64 q.own.p.n].toArray 128):Hp)
 have k6:Kp JK o3 g5 o3 g6:=by rw[TF];exact ZW K5.ZV _
 have x8:ZL o3 g6 g5.size (.cells [.int .i64 q.own.p.r,.int .i64 q.own.p.n].toArray 128):=⟨K5.ZV _ (Nat.le_refl _),by rw[TF];exact Zb⟩
 have e6:=TF.symm
 have N6:=N5.still k6
 have W6:=W5.still k6
 have K6:Kp (Xw i) o h o3 g6:=K5.trans (ZC k6)
 have P6h:=(Zy N6.ZD.2 N6.pt.store.len).heard
 have oN:=Za N6.ZD.2
 have l8:=Za x8.2
 have r8:rd g6 ⟨g5.size,0,none⟩ 2=some [.int .i64 q.own.p.r,.int .i64 q.own.p.n]:=Zo x8.2 rfl
 obtain⟨kb,qm⟩:=Zu (g5.size)
 simp -implicitDefEqProofs only[go_sem,↓reduceIte,f0,f1,f109,P5o,RN,e6]
 rw[←qm]at x8 l8 r8 ⊢
 refine VS.mono (N:=fun F' g'=>Ze g6.size g6 g'∧F' 0=.pointer (some ⟨wb,0,none⟩)∧F' 1=.pointer (some ⟨nb,0,none⟩)∧F' 8=.pointer (some ⟨kb,0,none⟩)∧F' 120=.bool (decide (below q.own.p q.heard))) ?_ ?_ (fun _ _ _ h=>h) (fun _ _ h=>h)
 ·refine VS.z (g6.size) [5] (.p 0 (.p 1 (.p 2 (.q 3 (.q 4 (.w 5 .nil)))))) mixed (by kernel_rfl) ?_
  simp -implicitDefEqProofs only[go_sem,↓reduceIte,f0,f1,P6h,r8,oN,l8]
  refine (Of T g6 q.heard q.own.p).use ?_
  rintro _ g ⟨rfl,b⟩
  simp -implicitDefEqProofs only[go_sem,↓reduceIte,b]
  exact⟨f0,f1⟩
 clear f0 f1
 rintro F7 g7 ⟨b7,f0,f1,f8,f120⟩
 have kb7:=Zs K6.ZV b7
 have N7:=N6.still kb7
 have W7:=W6.still kb7
 have K7:Kp (Xw i) o h o3 g7:=K6.trans (ZC kb7)
 have y8:=x8.Zc kb7
 have P7h:=(Zy N7.ZD.2 N7.pt.store.len).heard
 have ZaT:=Za N7.ZD.2
 have m8:=Za y8.2
 by_cases c6:below q.own.p q.heard
 all_goals
 first
 | (have eb:Uv q=q.heard:=by unfold Uv;rw[if_pos c6]
    obtain⟨g8,IL⟩:=Zu (g7.setIfInBounds kb (.cells [.int .i64 q.heard.r,.int .i64 q.heard.n].toArray 128):Hp)
    have w8:wr g7 ⟨kb,0,none⟩ [.int .i64 q.heard.r,.int .i64 q.heard.n]=some g8:=by rw[ZP y8.2 0 _,IL];rfl
    have k8:Kp JK o3 g5 o3 g8:=by rw[IL];exact (k6.trans kb7).BO (by omega) _
    have z8:ZL o3 g8 kb (.cells [.int .i64 (Uv q).r,.int .i64 (Uv q).n].toArray 128):=⟨y8.1,by rw[IL,eb];exact Zw y8.2⟩
    simp -implicitDefEqProofs only[go_sem,↓reduceIte,f0,f1,f8,f120,c6,P7h,ZaT,w8])
 | (have eb:Uv q=q.own.p:=by unfold Uv;rw[if_neg c6]
    obtain⟨g8,IL⟩:=Zu (g7:Hp)
    have k8:Kp JK o3 g5 o3 g8:=by rw[IL];exact k6.trans kb7
    have z8:ZL o3 g8 kb (.cells [.int .i64 (Uv q).r,.int .i64 (Uv q).n].toArray 128):=⟨y8.1,by rw[IL,eb];exact y8.2⟩
    simp -implicitDefEqProofs only[go_sem,↓reduceIte,f120,c6]
    rw[←IL])
 all_goals
  have N8:=N5.still k8
  have W8:=W5.still k8
  have K8:Kp (Xw i) o h o3 g8:=K5.trans (ZC k8)
  have P8:=Zy N8.ZD.2 N8.pt.store.len
  have P8t:=P8.Xj
  have P8l:=P8.log
  rw[M1]at P8l
  have vd:=Za N8.ZD.2
  have n8:=Za z8.2
  have s8:rd g8 ⟨kb,0,none⟩ 2=some [.int .i64 (Uv q).r,.int .i64 (Uv q).n]:=Zo z8.2 rfl
  refine VS.z (g8.size) [14] (.p 0 (.p 1 (.p 2 (.p 3 (.p 4 (.q 5 (.q 6 (.p 7 (.p 8 (.p 9 (.q 10 (.p 11 (.p 12 (.p 13 (.w 14 .nil))))))))))))))) mixed (by kernel_rfl) ?_
  simp -implicitDefEqProofs only[go_sem,↓reduceIte,f0,f1,f8,P8t,P8l,s8,vd,n8]
  have rl:(fl++ls).length≤1000000000000:=by rw[List.length_append];omega
  refine (UI T g8 o3 wb nb Z7 q.me qJ _ bad told q.Xj ⟨5,0,0,Uv q,TD q.log.length JI qE,[]⟩ (.slice none 0 0) K8.ZV W8 P8.me vd (Im.nil _ _ _ _) rl).use ?_
  rintro v' g9 ⟨o9,WA9,k9,_,W9⟩
  simp -implicitDefEqProofs only[go_sem,↓reduceIte]
  exact⟨o9,a3,WA9,K8.trans (k9.mono fun t q=>by rcases q with rfl|rfl<;>simp[Xw]),N8.Zc k9 (by rintro t (rfl|rfl)<;>simp[Tg.of]),by rw[←List.append_assoc];exact W9⟩
structure av (n:Nd) (l:Y9) (fl told:Nat):Prop where
 kind:0≤l.kind∧l.kind≤7
 room:fl≤1000000000000
 YL:n.own.l.length≤1000000
 data:n.data.length≤1000000
 known:n.known.length≤100000000000
 log:n.log.length≤100000000000
 told:told≤100000000000
 queue:n.queue.length≤1000000000000
 waiting:n.waiting.length≤1000000000000
 Tj:∀r s,n.Zl=some r→((Xe r.Jv s).getD []).length≤1000000
structure oQ (n:Nd) (fl:Nat):Prop where
 room:fl≤800000000000
 YL:n.own.l.length≤1000000
 data:n.data.length≤1000000
 rgn:∀r,n.Zl=some r→(∀x∈r.prom,x.2.length≤1000000)∧(∀x∈r.prom,∀v∈x.2,v.slot≤1000000)∧r.prom.length≤1000000000000
 log:n.log.length≤100000000000
 queue:n.queue.length≤10000000000
 Xj:0≤n.Xj∧n.Xj<5
def SL:Nd→List Y9→Nat→Nat→Prop
 | _,[],_,_=>True
 | n,l :: k,f,t=>n.ZT.isSome=true∨(av { n with inbox:=k } l f t∧SL (handle { n with inbox:=k } l).n k (f+(handle { n with inbox:=k } l).ls.length) (t+(handle { n with inbox:=k } l).ts.length))
structure ax (n:Nd) (fl told:Nat):Prop where
 data:n.data.length≤1000000
 room:fl≤1000000000000
 dr:n.ZT=none→SL n n.inbox fl told
 du:n.ZT=none→(drain n n.inbox).n.ZT=none→oQ (drain n n.inbox).n (fl+(drain n n.inbox).ls.length)
theorem Fj (n:Nd) (l:Y9) (k:List Y9):(handle { n with inbox:=k } l).n.inbox=k:=by
 have hL:∀(m:Nat) (x:Nd),(YN m x).1.inbox=x.inbox:=by
  intro m
  induction m with
  | zero=>intro x;rfl
  | succ m ih=>
   intro x
   unfold YN
   split
   ·rfl
   ·simp only;rw[ih];rfl
 have hl:∀(x:Nd) s c,(Uu x s c).n.inbox=x.inbox:=fun x s c=>by unfold Uu;simp only;rw[hL];rfl
 have hn:∀x:Nd,(notes x l).inbox=x.inbox:=fun x=>by unfold notes;split<;>rfl
 unfold handle
 split
 ·unfold Y2;split;· rfl
  split;· rfl
  split<;>rfl
 split
 ·unfold YB
  split
  ·rfl
  ·split
   ·split<;>rfl
   ·split;· rfl
    split
    ·rw[hl];rfl
    ·rfl
 split
 ·unfold asked;split;· rfl
  split;· rfl
  split<;>rfl
 split
 ·unfold add;simp only;split<;>rfl
 split
 ·unfold WH;split
  ·simp only;rw[hn]
  ·simp only;rw[hn]
 split
 ·rw[hl]
 ·simp only;rw[hn]
theorem ve {o:Ow} {t:Tg} {h:Hp} {v:Value} {l:Y9} {k:List Y9} (s:QJ o t h v (l :: k)) :
  ∃w b off c,v=.slice (some ⟨b,off,none⟩) (k.length+1) c∧k.length+1≤c∧rd h ⟨b,off,none⟩ 14=some (YS l w)∧Wc o h w l.vs∧QJ o t h (.slice (if c=1 then some ⟨b,off,none⟩ else some ⟨b,off+14,none⟩) k.length (c-1)) k:=by
 obtain⟨xs,h1,h2,h3⟩:=s
 cases xs with
 | nil=>cases h1
 | cons x xs=>
  obtain⟨l',w⟩:=x
  simp only[List.map_cons,List.cons.injEq]at h1
  obtain⟨rfl,rfl⟩:=h1
  have h2':=h2
  rcases h2 with⟨_,e,_⟩|⟨b,off,cap,pre,spare,g1,rfl,g3,g4,g5,g6,g7⟩
  ·cases e
  refine⟨w,b,off,cap,by rw[List.length_map];rfl,by rw[List.length_map];exact g7,?_,h3 (l',w) (by simp),?_⟩
  ·have e1:Zz NY ((l',w) :: xs)=YS l' w++Zz NY xs:=by simp[Zz,NY]
   have g5':(Zz NY ((l',w) :: xs)).length=(xs.length+1)*14:=g5
   rw[Z0 g3 (by simp only[List.length_append];omega),←g4,List.drop_left,e1,List.append_assoc]
   rfl
  ·refine⟨xs,rfl,?_,fun x hx=>h3 x (by simp[hx])⟩
   have tl:=h2'.tail (k:=1) (by simp)
   have e1:Zz NY ((l',w) :: xs)=YS l' w++Zz NY xs:=by simp[Zz,NY]
   rw[e1]at tl
   have e2:(YS l' w++Zz NY xs).drop (1*14)=Zz NY xs:=rfl
   rw[e2]at tl
   simpa [YQ] using tl
def D4 (nb:Nat) (g:Hp):Nat:=match hc g ⟨nb,54,none⟩ with
 | some (.slice _ m _)=>m
 | _=>0
theorem D5 {o:Ow} {h:Hp} {wb i nb:Nat} {a:NA} {n:Nd} (N:ZI o h wb i nb a n):D4 nb h=n.inbox.length:=by
 obtain⟨xs,h1,h2,_⟩:=N.pt.inbox
 obtain⟨p,c,h3,_⟩:=h2.isSlice
 have:=(Zy N.ZD.2 N.pt.store.len).inbox
 unfold D4
 rw[this,h3,←h1,List.length_map]
theorem D6 {i:Nat} (t:Tg) (q:ZaL i t):Xw i t:=by
 rcases q with rfl|rfl|rfl|rfl|rfl
 ·exact .inl rfl
 ·exact .inr (.inl rfl)
 all_goals exact .inr (.inr (.inr rfl))
set_option maxHeartbeats 4000000 in
theorem oR (T:World) (h:Hp) (o:Ow) (wb i nb:Nat) (Z7:Nat→Nat) (a:NA) (n:Nd) (YC:WA) (fl:List Y9) (bad:Nat→Int) (told:List Sd) (d:Ug o h)
  (N:ZI o h wb i nb a n) (W:ZE o h wb Z7 YC fl bad told) (tb:Fb o h) (ok:ax n fl.length told.length) :
  Zd Tryz.prog T 77 #[Zn wb,Zn nb] h fun v' h'=>∃o' a' Xn,Kp (Xw i) o h o' h'∧ZI o' h' wb i nb a' (step n).n∧ZE o' h' wb Z7 Xn (fl++(step n).ls) bad (told++(step n).ts):=by
 refine Zd.Zi (args:=[_,_]) Tryz.func77 rfl rfl rfl rfl ?_
 unfold Zn
 have P:=Zy N.ZD.2 N.pt.store.len
 have Vf:=Za N.ZD.2
 have Pu:=P.up
 cases hu:n.up with
 | false=>
  have e1:step n=⟨n,[],[]⟩:=by unfold step;rw[hu];rfl
  rw[hu]at Pu
  rw[e1,List.append_nil,List.append_nil]
  simp -implicitDefEqProofs only[go_sem,↓reduceIte,Pu]
  exact⟨o,a,YC,Kp.refl d _,N,W⟩
 | true=>
 rw[hu]at Pu
 have Pp:=P.ZT
 cases hp:n.ZT with
 | some p=>
  have e1:step n=finish (synced n) p:=by unfold step;rw[hu,hp];rfl
  rw[e1]
  have Pn:=N.pt.ZT
  rw[hp]at Pn
  obtain⟨f,l,hf⟩:∃f l,a.ZT=.func (.func f) #[] l:=by
   rcases Pn.fn with⟨c,_⟩|⟨_,c⟩
   ·cases c
   ·exact c
  have Pp':=Pp
  rw[hf]at Pp'
  obtain⟨pd,cd,Rg⟩:=N.pt.data.1.isSlice
  have Rg:a.data=.slice pd n.data.length cd:=Rg
  have Pt:=P.tape
  rw[Rg]at Pt
  have Nd:=N.pt.data
  rw[Rg]at Nd
  simp -implicitDefEqProofs only[go_sem,↓reduceIte,Pu,Pp',Pt]
  refine (tp T h _ n.Xs n.data Nd.bs (by have:=ok.data;omega)).use ?_
  rintro v1 h1 ⟨b1,s1⟩
  have kb:=Zs d b1
  have N1:=N.still kb
  have W1:=W.still kb
  obtain⟨p1,c1,rfl,i1⟩:∃p1 c1,v1=.tuple [.agg [.slice p1 (synced n).data.length c1,.int .i64 (synced n).Xs].toArray,.int .i64 (if Y5 n.data n.Xs then 0 else 5)].toArray∧Ti o h1 (.slice p1 (synced n).data.length c1) (synced n).data:=by
   unfold Ai at s1
   by_cases c:Y5 n.data n.Xs
   ·rw[if_pos (show n.data.length≤100000∧0≤n.Xs∧n.Xs≤n.data.length from c)]at s1
    obtain⟨w,rfl,o1⟩:=s1
    obtain⟨p1,c1,rfl,_⟩:=o1.bs.open
    have e2:(synced n).data=n.data:=by unfold synced;simp only;rw[if_pos c]
    have e3:(synced n).Xs=n.data.length:=by unfold synced;simp only;rw[if_pos c]
    rw[e2,e3,if_pos c]
    exact⟨p1,c1,rfl,Im.Qy o1.own (fun b hb=>d b hb),o1.byte⟩
   ·rw[if_neg (show ¬(n.data.length≤100000∧0≤n.Xs∧n.Xs≤n.data.length) from c)]at s1
    have e2:(synced n).data=[]:=by unfold synced;simp only;rw[if_neg c]
    have e3:(synced n).Xs=0:=by unfold synced;simp only;rw[if_neg c]
    rw[e2,e3,if_neg c]
    exact⟨none,0,s1,Im.nil _ _ _ _,fun x hx=>by cases hx⟩
  obtain⟨g2,w2,N2,k2⟩:=ZS.write (a:={ a with data:=.slice p1 (synced n).data.length c1 }) (n:={ n with data:=(synced n).data,Xs:=(synced n).Xs }) { N1.pt with data:=i1 } kb.ZV N1.ZD ((YO N1.ZD.2 N1.pt.store.len).tape (.slice p1 (synced n).data.length c1) (synced n).Xs rfl)
  have JF:=Za N1.ZD.2
  have JL:=Za N2.ZD.2
  have ay:hc g2 ⟨nb,55,none⟩=some a.ZT:=(Zy N2.ZD.2 N2.pt.store.len).ZT
  have pn:Uf o g2 wb i nb a.Zl .nilFunc none:=rfl
  obtain⟨g3,w3,N3,k3⟩:=ZS.write (a:={ a with data:=.slice p1 (synced n).data.length c1,ZT:=.nilFunc }) (n:=synced n) { N2.pt with ZT:=pn } k2.ZV N2.ZD ((YO N2.ZD.2 N2.pt.store.len).ZT .nilFunc rfl)
  have K3:Kp (Xw i) o h o g3:=((ZC kb).trans (k2.mono fun t q=>.inr (.inr (.inr (by rw[q];rfl))))).trans (k3.mono fun t q=>.inr (.inr (.inr (by rw[q];rfl))))
  have W3:=(W1.Zc k2 (by rintro t rfl;simp[Tg.of])).Zc k3 (by rintro t rfl;simp[Tg.of])
  have Pn3:Uf o g3 wb i nb a.Zl a.ZT (some p):=((Pn.Zc kb (by rintro⟨⟩)).Zc k2 (by intro e;cases e)).Zc k3 (by intro e;cases e)
  clear hf Pp'
  rw[show (finish (synced n) p).ts=[] from by cases p<;>rfl,List.append_nil]
  have rm:=ok.room
  have hns:(synced n).ZT=none:=rfl
  cases p with
  | G8 acc to b vs=>
   obtain⟨b6,b4,b9,u,h1',h2',h3',zU,zW⟩:=Pn3
   have cf:=uG T g3 o wb i nb Z7 YC fl bad told _ (synced n) acc to b vs b6 b4 b9 u k3.ZV N3 W3 rm h2' h3' zU zW
   rw[h1']at ay
   unfold Wj at ay
   simp only[List.map]at ay
   unfold Zn at ay cf
   simp -implicitDefEqProofs only[go_sem,↓reduceIte,w2,JF,ay,w3,JL]
   refine cf.use ?_
   rintro v' h' ⟨o',a',Xn,k,N',W'⟩
   simp -implicitDefEqProofs only[go_sem,↓reduceIte]
   exact⟨o',a',Xn,K3.trans (k.mono D6),N',W'⟩
  | G9 acc to x=>
   obtain⟨b6,b4,b9,u,h1',h2',h3',zU,zW⟩:=Pn3
   have cf:=uH T g3 o wb i nb Z7 YC fl bad told _ (synced n) acc to x b6 b4 b9 u k3.ZV N3 W3 rm h2' h3' zU zW
   rw[h1']at ay
   unfold Wj at ay
   simp only[List.map]at ay
   unfold Zn at ay cf
   simp -implicitDefEqProofs only[go_sem,↓reduceIte,w2,JF,ay,w3,JL]
   refine cf.use ?_
   rintro v' h' ⟨o',a',Xn,k,N',W'⟩
   simp -implicitDefEqProofs only[go_sem,↓reduceIte]
   exact⟨o',a',Xn,K3.trans (k.mono D6),N',W'⟩
  | own acc vs cur=>
   obtain⟨b6,b4,b7,b5,h1',cf⟩:=uI T g3 o wb i nb _ (synced n) acc vs cur a.ZT k3.ZV N3 hns Pn3
   rw[h1']at ay
   unfold Wj at ay
   simp only[List.map]at ay
   unfold Zn at ay cf
   rw[show (finish (synced n) (.own acc vs cur)).ls=[] from rfl,List.append_nil]
   simp -implicitDefEqProofs only[go_sem,↓reduceIte,w2,JF,ay,w3,JL]
   refine cf.use ?_
   rintro v' h' ⟨o',a',k,N'⟩
   simp -implicitDefEqProofs only[go_sem,↓reduceIte]
   exact⟨o',a',YC,K3.trans (k.mono fun t q=>by rcases q with rfl|rfl|rfl<;>exact .inr (.inr (.inr rfl))),N',W3.Zc k (fun t q=>by rcases q with rfl|rfl|rfl<;>simp[Tg.of])⟩
 | none=>
  have Pp0:a.ZT=.nilFunc:=by have:=N.pt.ZT;rw[hp]at this;exact this
  have Pp1:=P.ZT
  rw[Pp0]at Pp1
  simp -implicitDefEqProofs only[go_sem,↓reduceIte,Pu,Pp1]
  obtain⟨D,hD⟩:=Zu (drain n n.inbox)
  have dr:=ok.dr hp
  have du:=ok.du hp
  have e1:step n=if D.n.ZT.isSome=true then D else ⟨(VI D.n).n,D.ls++(VI D.n).ls,D.ts++(VI D.n).ts⟩:=by unfold step;rw[hu,hp,hD];rfl
  rw[←hD]at du
  rw[e1]
  refine VS.ZU (fun F g=>F 0=.pointer (some ⟨wb,0,none⟩)∧F 1=.pointer (some ⟨nb,0,none⟩)∧∃(o':Ow) (a':NA) (Xn:WA) (m:Nd) (ls:List Y9) (ts:List Sd),Kp (Xw i) o h o' g∧ZI o' g wb i nb a' m∧ZE o' g wb Z7 Xn (fl++ls) bad (told++ts)∧D=⟨(drain m m.inbox).n,ls++(drain m m.inbox).ls,ts++(drain m m.inbox).ts⟩∧SL m m.inbox (fl.length+ls.length) (told.length+ts.length))
   (fun _ g=>D4 nb g) rfl ⟨rfl,rfl,o,a,YC,n,[],[],Kp.refl d _,N,by simpa using W,by rw[hD];rfl,by simpa using dr⟩ ?_
  clear Pu Pp Pp0 Pp1 P Vf N W d
  rintro F1 g1 ⟨f0,f1,o1,a1,qL,m,ls,ts,K1,N1,W1,hDm,dr1⟩
  have P1:=Zy N1.ZD.2 N1.pt.store.len
  have JF:=Za N1.ZD.2
  have P1i:=P1.inbox
  have uU:=P1.ZT
  have stop:(m.inbox=[]∨m.ZT.isSome=true)→D=⟨m,ls,ts⟩:=by
   intro q
   have e2:drain m m.inbox=⟨m,[],[]⟩:=by
    cases jz:m.inbox with
    | nil=>unfold drain;rw[←jz]
    | cons l k=>
     rcases q with q|q
     ·rw[jz]at q;cases q
     ·unfold drain;rw[if_pos q,←jz]
   rw[hDm,e2];simp
  rcases N1.pt.ZT.fn with⟨c1,c2⟩|⟨c1,f,fl',c2⟩
  ·rw[c2]at uU
   cases jz:m.inbox with
   | nil=>
    have eD:=stop (.inl jz)
    obtain⟨p,c,hi⟩:∃p c,a1.inbox=.slice p 0 c:=by
     have:=N1.pt.inbox
     rw[jz]at this
     obtain⟨xs,h1,h2,_⟩:=this
     obtain⟨p,c,h3,_⟩:=h2.isSlice
     rw[List.map_eq_nil_iff]at h1
     subst h1
     exact⟨p,c,h3⟩
    rw[hi]at P1i
    have ye:=du (by rw[eD];exact c1)
    rw[eD]at ye
    rw[eD,if_neg (by rw[c1];simp)]
    have cd:=uZ T g1 o1 wb i nb Z7 a1 m qL (fl++ls) bad (told++ts) K1.ZV N1 W1 (tb.Zc K1) c1 (by rw[List.length_append];exact ye.room) ye.YL ye.data ye.rgn ye.log ye.queue ye.Xj
    unfold Zn at cd
    simp -implicitDefEqProofs only[go_sem,↓reduceIte,f0,f1,P1i,uU]
    refine cd.use ?_
    rintro v' g2 ⟨o2,a2,WA2,k2,N2,W2⟩
    simp -implicitDefEqProofs only[go_sem,↓reduceIte]
    have edt:(VI m).ts=[]:=by
     unfold VI
     split
     ·exact (RP _).2.2.2.2.2
     ·rfl
    refine⟨o2,a2,WA2,K1.trans k2,N2,?_⟩
    rw[edt,List.append_nil,←List.append_assoc]
    exact W2
   | cons l k=>
    have NI:=N1.pt.inbox
    rw[jz]at NI
    obtain⟨w,b,off,c,hi,UA,RO,iv,tl⟩:=ve NI
    rw[hi]at P1i
    rw[jz]at dr1
    have hk:av { m with inbox:=k } l (fl.length+ls.length) (told.length+ts.length)∧SL (handle { m with inbox:=k } l).n k (fl.length+ls.length+(handle { m with inbox:=k } l).ls.length) (told.length+ts.length+(handle { m with inbox:=k } l).ts.length):=by
     rcases dr1 with q|q
     ·rw[c1]at q;cases q
     ·exact q
    obtain⟨hk,dr2⟩:=hk
    have CN:D=⟨(drain (handle { m with inbox:=k } l).n k).n,(ls++(handle { m with inbox:=k } l).ls)++(drain (handle { m with inbox:=k } l).n k).ls,(ts++(handle { m with inbox:=k } l).ts)++(drain (handle { m with inbox:=k } l).n k).ts⟩:=by
     rw[hDm,jz]
     have e2:drain m (l :: k)=⟨(drain (handle { m with inbox:=k } l).n k).n,(handle { m with inbox:=k } l).ls++(drain (handle { m with inbox:=k } l).n k).ls,(handle { m with inbox:=k } l).ts++(drain (handle { m with inbox:=k } l).n k).ts⟩:=by
      rw[drain];rw[if_neg (by rw[c1];simp)]
     rw[e2];simp
    have Rp:=Fj m l k
    clear stop dr1 hDm
    obtain⟨pw,cw,rfl⟩:=iv.isSlice
    obtain⟨g2,QD⟩:=Zu (g1.push (.cells (YS l (.slice pw l.vs.length cw)).toArray 163):Hp)
    have k2:Kp JK o1 g1 o1 g2:=by rw[QD];exact ZW K1.ZV _
    have x5:ZL o1 g2 g1.size (.cells (YS l (.slice pw l.vs.length cw)).toArray 163):=⟨K1.ZV _ (Nat.le_refl _),by rw[QD];exact Zb⟩
    have e2:=QD.symm
    have N2:=N1.still k2
    have W2:=W1.still k2
    have P2i:=(Zy N2.ZD.2 N2.pt.store.len).inbox
    rw[hi]at P2i
    have JL:=Za N2.ZD.2
    obtain⟨vi',hvi⟩:∃v:Value,v=.slice (if c=1 then some ⟨b,off,none⟩ else some ⟨b,off+14,none⟩) k.length (c-1):=⟨_,rfl⟩
    have tl2:QJ o1 (.inbox i) g2 vi' k:=by rw[hvi];exact tl.Zc k2 (fun q=>q.elim)
    obtain⟨g3,w3,N3,k3⟩:=ZS.write (a:={ a1 with inbox:=vi' }) (n:={ m with inbox:=k }) { N2.pt with inbox:=tl2 } k2.ZV N2.ZD ((YO N2.ZD.2 N2.pt.store.len).inbox vi' (by rw[hvi];rfl))
    rw[hvi]at w3
    have y5:=x5.Zc k3
    have W3:=W2.Zc k3 (by rintro t rfl;simp[Tg.of])
    have r5:rd g3 ⟨g1.size,0,none⟩ 14=some (YS l (.slice pw l.vs.length cw)):=Zo y5.2 rfl
    have K3:Kp (Xw i) o h o1 g3:=(K1.trans (ZC k2)).trans (k3.mono fun t q=>.inr (.inr (.inr (by rw[q];rfl))))
    have I4:(1:Int)≤c:=by omega
    have ch:=ig T g3 o1 wb i nb Z7 _ { m with inbox:=k } qL (fl++ls) bad (told++ts) l (.slice pw l.vs.length cw) k3.ZV N3 W3 ((iv.Zc k2).Zc k3) (tb.Zc K3) hk.kind (by rw[List.length_append];exact hk.room) hk.YL hk.data hk.known hk.log (by rw[List.length_append];exact hk.told) hk.queue hk.waiting hk.Tj
    unfold Zn YS at ch
    unfold YS at RO e2 r5
    simp -implicitDefEqProofs only[go_sem,↓reduceIte,f0,f1,P1i,uU,RO,e2,P2i,JL,w3,UA,I4,r5,Nat.add_sub_cancel]
    refine ch.use ?_
    rintro v' g4 ⟨o4,a4,dm,k4,N4,W4⟩
    simp -implicitDefEqProofs only[go_sem,↓reduceIte]
    unfold Yy
    have in4:=D5 N4
    have in1:=D5 N1
    rw[Rp]at in4
    rw[jz]at in1
    refine⟨⟨f0,f1,o4,a4,dm,(handle { m with inbox:=k } l).n,ls++(handle { m with inbox:=k } l).ls,ts++(handle { m with inbox:=k } l).ts,K3.trans k4,N4,by rw[←List.append_assoc,←List.append_assoc];exact W4,by rw[Rp];exact CN,by rw[Rp,List.length_append,List.length_append,←Nat.add_assoc,←Nat.add_assoc];exact dr2⟩,?_⟩
    show D4 nb g4<D4 nb g1
    rw[in4,in1]
    simp
  ·rw[c2]at uU
   have eD:=stop (.inr c1)
   rw[eD,if_pos c1]
   obtain⟨p,c,hi⟩:∃p c,a1.inbox=.slice p m.inbox.length c:=by
    obtain⟨xs,h1,h2,_⟩:=N1.pt.inbox
    obtain⟨p,c,h3,_⟩:=h2.isSlice
    rw[←h1,List.length_map]
    exact⟨p,c,h3⟩
   rw[hi]at P1i
   by_cases hz:0<m.inbox.length
   ·have FO:(0:Int)<m.inbox.length:=by omega
    simp -implicitDefEqProofs only[go_sem,↓reduceIte,f0,f1,P1i,uU,FO]
    exact⟨o1,a1,qL,K1,N1,W1⟩
   ·have FO:¬(0:Int)<m.inbox.length:=by omega
    simp -implicitDefEqProofs only[go_sem,↓reduceIte,f0,f1,P1i,uU,FO]
    exact⟨o1,a1,qL,K1,N1,W1⟩
def Ve (t:Tg):Prop:=True
def ZfW (t:Tg):Prop:=∃i,t.of=some i
theorem Yc {S:Tg→Prop} {o o':Ow} {h h':Hp} (k:Kp S o h o' h'):Kp Ve o h o' h':=k.mono fun _ _=>trivial
structure Ja (o:Ow) (h:Hp) (wb:Nat) (Z7:Nat→Nat) (YC:WA) (w:Wd):Prop where
 wd:ZE o h wb Z7 YC w.Zj w.bad w.told
 nd:∀i,i<5→∃a,ZI o h wb i (Z7 i) a (w.nodes i)
theorem Ja.still {o:Ow} {h h':Hp} {wb:Nat} {Z7:Nat→Nat} {YC:WA} {w:Wd} {o':Ow} (A:Ja o h wb Z7 YC w) (k:Kp JK o h o' h'):Ja o' h' wb Z7 YC w:=
 ⟨A.wd.still k,fun i hi=>by obtain⟨a,N⟩:=A.nd i hi;exact⟨a,N.still k⟩⟩
theorem Ja.Xj {o o':Ow} {h h':Hp} {wb:Nat} {Z7:Nat→Nat} {YC qL:WA} {w:Wd} {i:Nat} {a:NA} {n:Nd} {fl:List Y9} {bad:Nat→Int} {told:List Sd} (A:Ja o h wb Z7 YC w) (k:Kp (Xw i) o h o' h')
  (N:ZI o' h' wb i (Z7 i) a n) (W:ZE o' h' wb Z7 qL fl bad told):Ja o' h' wb Z7 qL { nodes:=fun j=>if j=i then n else w.nodes j,Zj:=fl,bad:=bad,told:=told }:=by
 refine⟨W,fun j hj=>?_⟩
 by_cases e:j=i
 ·subst e
  exact⟨a,by simpa using N⟩
 ·obtain⟨b,M⟩:=A.nd j hj
  refine⟨b,?_⟩
  simp only[if_neg e]
  refine M.Zc k fun t q hq=>?_
  rcases q with rfl|rfl|rfl|q
  ·cases hq
  ·cases hq
  ·cases hq
  ·rw[hq]at q;exact e (Option.some.inj q)
theorem U8 {o:Ow} {h:Hp} {wb:Nat} {Z7:Nat→Nat} {YC:WA} {fl:List Y9} {bad:Nat→Int} {told:List Sd} (W:ZE o h wb Z7 YC fl bad told) :
  ∃b off c,YC.nodes=.slice (some ⟨b,off,none⟩) 5 c∧5≤c∧b<h.size∧∀i,i<5→hc h ⟨b,off+i,none⟩=some (Zn (Z7 i)):=by
 rcases W.nodes with⟨_,e,_⟩|⟨b,off,cap,pre,spare,g1,g2,g3,g4,g5,g6,g7⟩
 ·cases e
 refine⟨b,off,cap,g2,g7,Za g3,fun i hi=>?_⟩
 rw[Zg g3,Yj,←g4,List.getElem?_append_right (by omega),Nat.add_sub_cancel_left]
 match i,hi with
 | 0,_=>rfl
 | 1,_=>rfl
 | 2,_=>rfl
 | 3,_=>rfl
 | 4,_=>rfl
theorem iB {T:World} {K:Value→Hp→Prop} {ty:TypeId} {o:Ow} {t:Tg} {h:Hp} {v:Value} {l:List Y9} {x:Y9} {w:Value} {bx:Nat} {cb:Array Bool} (s:QJ o t h v l) (d:Ug o h) (iv:Wc o h w x.vs) (hb:h[bx]? = some (.cells (YS x w).toArray 163)) (hr:l.length≤1000000000000)
  (H:∀p c o' h',QJ o' t h' (.slice p (l.length+1) c) (l++[x])→Kp (fun u=>u=t) o h o' h'→K (.slice p (l.length+1) c) h') :
  Sq Tryz.prog T .append #[121,121] ty cb [v,.slice (some ⟨bx,0,none⟩) 1 1] K h:=by
 have src:Sl 14 h (.slice (some ⟨bx,0,none⟩) 1 1) 1 (YS x w):=⟨_,1,rfl,rfl,fun _=>⟨bx,0,rfl,fun i hi=>by
  rw[Zg hb,Yj,Nat.zero_add];exact List.getElem?_eq_getElem hi⟩⟩
 obtain⟨p,c,hw⟩:=iv.isSlice
 have Xd:Z5 w=true:=by rw[hw];rfl
 obtain⟨xs,Qm,Rz,As⟩:=s
 have Mp:xs.length=l.length:=by rw[←Qm,List.length_map]
 refine XW (E:=163) (n:=14) (bytes:=128) (k:=1) Gy Tryz.underlying121 lT bU rfl xe Rz d src (by rw[YS,List.all_eq_true];intro x hx;simp at hx;rcases hx with rfl|rfl|rfl|rfl|rfl|rfl|rfl|rfl|rfl|rfl|rfl|rfl|rfl|rfl<;>first|rfl|exact Xd) (by omega) (by omega) ?_
 intro v' o' h' w' k _
 obtain⟨p',c',rfl,_⟩:=w'.isSlice
 rw[Mp]
 refine H p' c' o' h' ⟨xs++[(x,w)],by rw[List.map_append,Qm];rfl,?_,fun y hy=>?_⟩ k
 ·rw[Ye,JV,List.length_append,←Mp]
  exact w'
 ·rcases List.mem_append.1 hy with hy|hy
  ·exact (As y hy).Zc k
  ·have:y=(x,w):=by simpa using hy
   subst this
   exact iv.Zc k
theorem VP {o:Ow} {t:Tg} {h:Hp} {v:Value} {l:List Y9} (s:QJ o t h v l):∃p c,v=.slice p l.length c∧l.length≤c:=by
 obtain⟨xs,h1,h2,_⟩:=s
 obtain⟨p,c,h3,h4⟩:=h2.isSlice
 rw[←h1,List.length_map]
 exact⟨p,c,h3,h4⟩
set_option maxHeartbeats 4000000 in
theorem Fk (T:World) (h:Hp) (o:Ow) (wb:Nat) (Z7:Nat→Nat) (YC:WA) (w:Wd) (l:Y9) (v:Value) (d:Ug o h) (A:Ja o h wb Z7 YC w) (iv:Wc o h v l.vs) (yf:0≤l.to∧l.to<5)
  (Rp:∀i,i<5→(w.nodes i).inbox.length≤1000000000000) :
  Zd Tryz.prog T 79 #[Zn wb,.agg (YS l v).toArray] h fun v' h'=>∃o',Kp ZfW o h o' h'∧Ja o' h' wb Z7 YC (Jr w l):=by
 obtain⟨pw,cw,rfl⟩:=iv.isSlice
 obtain⟨j,hj⟩:∃j:Nat,(j:Int)=l.to:=⟨l.to.toNat,by omega⟩
 have hj5:j<5:=by omega
 have hjn:l.to.toNat=j:=by omega
 refine Zd.Zi (args:=[_,_]) Tryz.func79 rfl rfl rfl rfl ?_
 unfold Zn YS
 obtain⟨h1,YF⟩:=Zu (h.push (.cells (YS l (.slice pw l.vs.length cw)).toArray 163):Hp)
 have k1:Kp JK o h o h1:=by rw[YF];exact ZW d _
 have x3:ZL o h1 h.size (.cells (YS l (.slice pw l.vs.length cw)).toArray 163):=⟨d _ (Nat.le_refl _),by rw[YF];exact Zb⟩
 have e0:=YF.symm
 unfold YS at e0
 have A1:=A.still k1
 have R1:=YT A1.wd.ZD.2
 obtain⟨b,off,c,hn,hc5,hb,RO⟩:=U8 A1.wd
 have Rn:=R1.nodes
 rw[hn]at Rn
 have Ff:=Za A1.wd.ZD.2
 have r3:hc h1 ⟨h.size,2,none⟩=some (.int .i64 j):=by rw[hj];exact Zg x3.2
 have l3:=Za x3.2
 have rj:=RO j hj5
 unfold Zn at rj
 have ZoZ:(j:Int)<5:=by omega
 simp -implicitDefEqProofs only[go_sem,↓reduceIte,e0]
 refine VS.mono (N:=fun F' g'=>Ze h1.size h1 g'∧F' 3=.pointer (some ⟨h.size,0,none⟩)∧F' 4=.pointer (some ⟨Z7 j,0,none⟩)) ?_ ?_ (fun _ _ _ h=>h) (fun _ _ h=>h)
 ·refine VS.z (h1.size) [] (.p 0 (.p 1 (.p 2 (.q 3 (.p 4 (.q 5 (.p 6 (.q 7 (.p 8 .nil))))))))) mixed (by kernel_rfl) ?_
  simp -implicitDefEqProofs only[go_sem,↓reduceIte,Rn,r3,Ff,l3,hb,ZoZ,rj]
  try exact Ze.refl _ _
 rintro F1 g1 ⟨b1,f3,f4⟩
 have kb:=Zs k1.ZV b1
 have A2:=A1.still kb
 have K2:=k1.trans kb
 have y3:=x3.Zc kb
 obtain⟨a,N2⟩:=A2.nd j hj5
 have P2:=Zy N2.ZD.2 N2.pt.store.len
 have dn:=P2.up
 have Vf:=Za N2.ZD.2
 unfold Jr
 rw[hjn]
 cases hu:(w.nodes j).up with
 | false=>
  rw[hu]at dn
  rw[if_neg (by simp)]
  simp -implicitDefEqProofs only[go_sem,↓reduceIte,f4,dn]
  exact⟨o,ZC K2,A2⟩
 | true=>
  rw[hu]at dn
  rw[if_pos rfl]
  obtain⟨pi,ci,hi,_⟩:=VP N2.pt.inbox
  have P2i:=P2.inbox
  rw[hi]at P2i
  have r3:rd g1 ⟨h.size,0,none⟩ 14=some (YS l (.slice pw l.vs.length cw)):=Zo y3.2 rfl
  unfold YS at r3
  have l3:=Za y3.2
  simp -implicitDefEqProofs only[go_sem,↓reduceIte,f4,dn]
  refine VS.z (g1.size) [7,10] (.p 0 (.p 1 (.p 2 (.p 3 (.q 4 (.q 5 (.s 6 (.w 7 (.p 8 (.p 9 (.w 10 .nil))))))))))) mixed (by kernel_rfl) ?_
  simp -implicitDefEqProofs only[go_sem,↓reduceIte,f3,f4,P2i,r3,Vf,l3]
  obtain⟨g2,QD⟩:=Zu (g1.push (.cells (YS l (.slice pw l.vs.length cw)).toArray 163):Hp)
  have k2:Kp JK o g1 o g2:=by rw[QD];exact ZW K2.ZV _
  have e2:=QD.symm
  unfold YS at e2
  rw[e2]
  have N3:=N2.still k2
  have A3:=A2.still k2
  have K3:=K2.trans k2
  have LI:=N3.pt.inbox
  rw[hi]at LI
  refine iB LI K3.ZV ((iv.Zc K2).Zc k2) (by rw[QD];exact Zb) (Rp j hj5) ?_
  intro p3 c3 o3 g3 L3 k3
  have k3:Kp (fun t=>t=.inbox j) o g2 o3 g3:=k3
  have N4:=ZS.gU N3.pt k3 L3
  have B4:=N3.ZD.Zc k3 (by intro e;cases e)
  have W4:=A3.wd.Zc k3 (by rintro t rfl;simp[Tg.of])
  obtain⟨g5,w5,N5,k5⟩:=ZS.write N4 k3.ZV B4 ((YO B4.2 N3.pt.store.len).inbox (.slice p3 ((w.nodes j).inbox.length+1) c3) rfl)
  have Mt:=Za B4.2
  simp -implicitDefEqProofs only[go_sem,↓reduceIte,w5,Mt]
  have W5:=W4.Zc k5 (by rintro t rfl;simp[Tg.of])
  have kk:Kp (fun t=>t.of=some j) o g2 o3 g5:=(k3.mono fun t q=>by rw[q];rfl).trans (k5.mono fun t q=>by rw[q];rfl)
  exact⟨o3,(ZC K3).trans (kk.mono fun t q=>⟨j,q⟩),A3.Xj (kk.mono fun t q=>.inr (.inr (.inr q))) N5 W5⟩
theorem dp {o:Ow} {t:Tg} {h:Hp} {v:Value} {l:List Y9} (s:QJ o t h v l) (k:Nat) (hk:k<l.length) :
  ∃w b off c,v=.slice (some ⟨b,off,none⟩) l.length c∧l.length≤c∧b<h.size∧rd h ⟨b,off+k*14,none⟩ 14=some (YS l[k] w)∧Wc o h w l[k].vs:=by
 obtain⟨xs,rfl,h2,h3⟩:=s
 rw[List.length_map]at hk
 rcases h2 with⟨_,e,_⟩|⟨b,off,cap,pre,spare,g1,rfl,g3,g4,g5,g6,g7⟩
 ·omega
 refine⟨xs[k].2,b,off,cap,by rw[List.length_map],by rw[List.length_map];exact g7,Za g3,?_,?_⟩
 ·have hlen:∀x,(NY x).length=14:=fun x=>rfl
  have hle:k*14+14≤xs.length*14:=by omega
  rw[Z0 g3 (by simp only[List.length_append];omega),←g4,List.drop_append,List.drop_of_length_le (by omega),List.nil_append,Nat.add_sub_cancel_left]
  rw[List.drop_append_of_le_length (by omega),List.take_append_of_le_length (by rw[List.length_drop];omega)]
  rw[VN hlen xs k (by omega),List.drop_eq_getElem_cons hk]
  have e1:Zz NY (xs[k] :: xs.drop (k+1))=YS xs[k].1 xs[k].2++Zz NY (xs.drop (k+1)):=by simp[Zz,NY]
  rw[e1,List.getElem_map]
  rfl
 ·rw[List.getElem_map]
  exact h3 _ (List.getElem_mem hk)
theorem iC {o':Ow} {t:Tg} {h':Hp} {xs:List (Y9 × Value)} {v:Value} {k:Nat} (hk:k<xs.length) (h2:Ys o' t 163 14 h' v (xs.length-1) ((Zz NY xs).take (k*14)++(Zz NY xs).drop ((k+1)*14))) (h3:∀x∈xs,Wc o' h' x.2 x.1.vs) :
  QJ o' t h' v ((xs.map (·.1)).eraseIdx k):=by
 have hlen:∀x,(NY x).length=14:=fun x=>rfl
 have el:(xs.eraseIdx k).length=xs.length-1:=by rw[List.length_eraseIdx_of_lt hk]
 refine⟨xs.eraseIdx k,?_,?_,fun x hx=>h3 x (List.mem_of_mem_eraseIdx hx)⟩
 ·rw[List.eraseIdx_eq_take_drop_succ,List.eraseIdx_eq_take_drop_succ,List.map_append,List.map_take,List.map_drop]
 ·rw[el]
  have e1:Zz NY (xs.eraseIdx k)=(Zz NY xs).take (k*14)++(Zz NY xs).drop ((k+1)*14):=by
   rw[VM hlen xs k (by omega),VN hlen xs (k+1) (by omega),←Ye,List.eraseIdx_eq_take_drop_succ]
  rw[e1]
  exact h2
theorem ZE.HM {o o1:Ow} {h h1:Hp} {wb:Nat} {nb:Nat→Nat} {a:WA} {fl fl':List Y9} {bad:Nat→Int} {told:List Sd} {v:Value} (W:ZE o h wb nb a fl bad told) (k:Kp (fun t=>t=.Zj) o h o1 h1)
  (hv:QJ o1 .Zj h1 v fl') {e:Option Hp} (w:e=some (h1.setIfInBounds wb (.cells (Y6 bad { a with Zj:=v }).toArray 123))) :
  ∃g,e=some g∧ZE o1 g wb nb { a with Zj:=v } fl' bad told∧Kp (fun t=>t=.world) o1 h1 o1 g:=by
 have b:=W.ZD.Zc k (by intro e;cases e)
 have kk:Kp (fun t=>t=.world) o1 h1 o1 (h1.setIfInBounds wb (.cells (Y6 bad { a with Zj:=v }).toArray 123)):=(Kp.refl k.ZV (fun t=>t=.world)).set b.1 rfl _
 exact⟨_,w,⟨⟨b.1,Zw b.2⟩,(W.nodes.Zc k (by intro e;cases e)).Zc kk (by intro e;cases e),hv.Zc kk (by intro e;cases e),(W.told.Zc k (by intro e;cases e)).Zc kk (by intro e;cases e)⟩,kk⟩
theorem Ja.vf {S:Tg→Prop} {o o':Ow} {h h':Hp} {wb:Nat} {Z7:Nat→Nat} {YC qL:WA} {w:Wd} {fl:List Y9} {bad:Nat→Int} {told:List Sd} (A:Ja o h wb Z7 YC w) (k:Kp S o h o' h') (hn:∀t,S t→t.of=none) (W:ZE o' h' wb Z7 qL fl bad told) :
  Ja o' h' wb Z7 qL { w with Zj:=fl,bad:=bad,told:=told }:=
 ⟨W,fun i hi=>by obtain⟨a,N⟩:=A.nd i hi;exact⟨a,N.Zc k fun t q e=>by rw[hn t q]at e;cases e⟩⟩
theorem vg {o:Ow} {h:Hp}:∀(xs:List (Y9 × Value)),(∀x∈xs,Wc o h x.2 x.1.vs)→(Zz NY xs).all Z5=true:=by
 intro xs
 induction xs with
 | nil=>intro _;rfl
 | cons x xs ih=>
  intro hx
  have e1:Zz NY (x :: xs)=NY x++Zz NY xs:=by simp[Zz]
  obtain⟨p,c,hw⟩:=(hx x (by simp)).isSlice
  rw[e1,List.all_append,ih (fun y hy=>hx y (by simp[hy])),Bool.and_true]
  unfold NY
  rw[hw];rfl
set_option maxHeartbeats 4000000 in
theorem oS (T:World) (h:Hp) (o:Ow) (wb:Nat) (Z7:Nat→Nat) (YC:WA) (w:Wd) (at':Nat) (comes stays:Bool) (d:Ug o h) (A:Ja o h wb Z7 YC w) (yf:∀l∈w.Zj,0≤l.to∧l.to<5)
  (ub:w.Zj.length≤1000000000000) (Rp:∀i,i<5→(w.nodes i).inbox.length≤1000000000000) :
  Zd Tryz.prog T 78 #[Zn wb,.int .i64 at',.bool comes,.bool stays] h fun v' h'=>∃o' Xn,Kp Ve o h o' h'∧Ja o' h' wb Z7 Xn (pick w at' comes stays):=by
 refine Zd.Zi (args:=[_,_,_,_]) Tryz.func78 rfl rfl rfl rfl ?_
 unfold Zn
 have R:=YT A.wd.ZD.2
 have Rf:=R.Zj
 have Ff:=Za A.wd.ZD.2
 obtain⟨pf,cf,hf,hfc⟩:=VP A.wd.Zj
 rw[hf]at Rf
 by_cases hz:w.Zj.length=0
 ·have hp:pick w at' comes stays=w:=by
   unfold pick
   rw[List.getElem?_eq_none (by rw[hz];exact Nat.zero_le _)]
  rw[hp]
  have FO:(w.Zj.length:Int)=0:=by omega
  simp -implicitDefEqProofs only[go_sem,↓reduceIte,Rf,FO]
  exact⟨o,YC,Kp.refl d _,A⟩
 have FO:¬(w.Zj.length:Int)=0:=by omega
 obtain⟨k,hk⟩:=Zu (at'%w.Zj.length)
 have qx:k<w.Zj.length:=by rw[hk];exact Nat.mod_lt _ (by omega)
 have ek:(at':Int).tmod (w.Zj.length:Int)=(k:Int):=by rw[hk];rfl
 have D7:(k:Int)<w.Zj.length:=by omega
 obtain⟨v,b,off,c,hv,hvc,hb,RO,iv⟩:=dp A.wd.Zj k qx
 rw[hf]at hv
 simp only[Value.slice.injEq]at hv
 obtain⟨rfl,_,rfl⟩:=hv
 obtain⟨l,hl⟩:=Zu (w.Zj[k])
 rw[←hl]at RO iv
 have uX:l∈w.Zj:=by rw[hl];exact List.getElem_mem qx
 obtain⟨pw,cw,rfl⟩:=iv.isSlice
 obtain⟨h1,YF⟩:=Zu (h.push (.cells (YS l (.slice pw l.vs.length cw)).toArray 163):Hp)
 have k1:Kp JK o h o h1:=by rw[YF];exact ZW d _
 have x9:ZL o h1 h.size (.cells (YS l (.slice pw l.vs.length cw)).toArray 163):=⟨d _ (Nat.le_refl _),by rw[YF];exact Zb⟩
 have e0:=YF.symm
 unfold YS at e0 RO
 have A1:=A.still k1
 have R1:=YT A1.wd.ZD.2
 have R1f:=R1.Zj
 rw[hf]at R1f
 have ZaV:=Za A1.wd.ZD.2
 have r9:rd h1 ⟨h.size,0,none⟩ 14=some (YS l (.slice pw l.vs.length cw)):=Zo x9.2 rfl
 unfold YS at r9
 have eg:w.Zj[at'%w.Zj.length]? = some l:=by rw[←hk,hl];exact List.getElem?_eq_getElem qx
 have ep:pick w at' comes stays=if comes=true then Jr (if stays=true then w else { w with Zj:=w.Zj.eraseIdx k }) l else (if stays=true then w else { w with Zj:=w.Zj.eraseIdx k }):=by
  unfold pick;rw[eg,hk]
 rw[ep]
 cases stays with
 | true=>
  rw[if_pos rfl]
  cases comes with
  | false=>
   rw[if_neg (by simp)]
   simp -implicitDefEqProofs only[go_sem,↓reduceIte,Rf,FO,ek,D7,RO,e0]
   exact⟨o,YC,Yc k1,A1⟩
  | true=>
   rw[if_pos rfl]
   have cc:=Fk T h1 o wb Z7 YC w l (.slice pw l.vs.length cw) k1.ZV A1 (iv.Zc k1) (yf l uX) Rp
   unfold Zn YS at cc
   simp -implicitDefEqProofs only[go_sem,↓reduceIte,Rf,FO,ek,D7,RO,e0,r9]
   refine cc.use ?_
   rintro v' g ⟨o',kk,A'⟩
   simp -implicitDefEqProofs only[go_sem,↓reduceIte]
   exact⟨o',YC,(Yc k1).trans (Yc kk),A'⟩
 | false=>
  rw[if_neg (show ¬(false=true) by simp)]
  obtain⟨xs,Qm,Rz,As⟩:=A1.wd.Zj
  have Mp:xs.length=w.Zj.length:=by rw[←Qm,List.length_map]
  have cd:=DO T h1 o .Zj YC.Zj xs.length k (Zz NY xs) Rz k1.ZV (vg xs As) (by omega) (by omega)
  rw[hf]at cd
  have ek2:(k:Int)+1=((k:Int)+1):=rfl
  simp -implicitDefEqProofs only[go_sem,↓reduceIte,Rf,FO,ek,D7,RO,e0,R1f]
  refine cd.use ?_
  rintro v2 g2 ⟨L2,k2⟩
  have k2:Kp (fun t=>t=.Zj) o h1 o g2:=k2
  have L3:QJ o .Zj g2 v2 (w.Zj.eraseIdx k):=by
   rw[←Qm]
   exact iC (by omega) L2 (fun x hx=>(As x hx).Zc k2)
  have B2:=A1.wd.ZD.Zc k2 (by intro e;cases e)
  obtain⟨p2,c2,rfl,_⟩:=VP L3
  obtain⟨g3,w3,W3,k3⟩:=A1.wd.HM k2 L3 ((YT B2.2).Fe (.slice p2 (w.Zj.eraseIdx k).length c2) rfl)
  have A3:Ja o g3 wb Z7 { YC with Zj:=.slice p2 (w.Zj.eraseIdx k).length c2 } { w with Zj:=w.Zj.eraseIdx k }:=
   A1.vf (S:=fun t=>t=.Zj∨t=.world) ((k2.mono fun t q=>.inl q).trans (k3.mono fun t q=>.inr q)) (by rintro t (rfl|rfl)<;>rfl) W3
  have ZaW:=Za B2.2
  have y9:=(x9.Zc k2).Zc k3
  have r9:rd g3 ⟨h.size,0,none⟩ 14=some (YS l (.slice pw l.vs.length cw)):=Zo y9.2 rfl
  unfold YS at r9
  have K3:Kp Ve o h o g3:=((Yc k1).trans (Yc k2)).trans (Yc k3)
  cases comes with
  | false=>
   rw[if_neg (show ¬(false=true) by simp)]
   simp -implicitDefEqProofs only[go_sem,↓reduceIte,w3,ZaW]
   exact⟨o,_,K3,A3⟩
  | true=>
   rw[if_pos rfl]
   have cc:=Fk T g3 o wb Z7 _ _ l (.slice pw l.vs.length cw) k3.ZV A3 (((iv.Zc k1).Zc k2).Zc k3) (yf l uX) Rp
   unfold Zn YS at cc
   simp -implicitDefEqProofs only[go_sem,↓reduceIte,w3,ZaW,r9]
   refine cc.use ?_
   rintro v' g ⟨o',kk,A'⟩
   simp -implicitDefEqProofs only[go_sem,↓reduceIte]
   exact⟨o',_,K3.trans (Yc kk),A'⟩
theorem vj (rc:List Nat) (now:Int):IK rc now=(Qx rc now).C:=by
 unfold IK Qx
 split<;>rfl
theorem ZaX {h:Hp} {wb:Nat} {bad:Nat→Int} {a:WA} (H:h[wb]? = some (.cells (Y6 bad a).toArray 123)) (i:Nat) (hi:i<5) :
  hc h ⟨wb,9+i,none⟩=some (.int .i64 (bad i))∧∀k,Jn h ⟨wb,9+i,none⟩ (.int .i64 k)=some (h.setIfInBounds wb (.cells (Y6 (fun j=>if j=i then k else bad j) a).toArray 123)):=by
 match i,hi with
 | 0,_=>exact⟨Zg H,fun k=>by rw[Yq H,if_pos ⟨by simp[Y6],rfl⟩];rfl⟩
 | 1,_=>exact⟨Zg H,fun k=>by rw[Yq H,if_pos ⟨by simp[Y6],rfl⟩];rfl⟩
 | 2,_=>exact⟨Zg H,fun k=>by rw[Yq H,if_pos ⟨by simp[Y6],rfl⟩];rfl⟩
 | 3,_=>exact⟨Zg H,fun k=>by rw[Yq H,if_pos ⟨by simp[Y6],rfl⟩];rfl⟩
 | 4,_=>exact⟨Zg H,fun k=>by rw[Yq H,if_pos ⟨by simp[Y6],rfl⟩];rfl⟩
theorem oU {i:Nat} (t:Tg) (q:ZaH i t):Xw i t:=by
 rcases q with rfl|rfl<;>exact .inr (.inr (.inr rfl))
theorem add_same (n:Nd) (x:Cm):(add n x).waiting=n.waiting∧(add n x).me=n.me:=by
 unfold add;split<;>exact⟨rfl,rfl⟩
set_option maxHeartbeats 4000000 in
theorem iE (T:World) (h:Hp) (o:Ow) (wb:Nat) (Z7:Nat→Nat) (YC:WA) (w:Wd) (i:Nat) (rc:List Nat) (v:Value) (d:Ug o h) (A:Ja o h wb Z7 YC w) (hi:i<5) (qG:(w.nodes i).me=i) (iv:Ti o h v rc) (Jg:WO v) (AH:rc.length≤140737488355328) (tb:Fb o h)
  (hq:(w.nodes i).queue.length≤1000000000000) (hl:(w.nodes i).log.length≤1000000000000) (MT:(w.nodes i).waiting.length≤1000000000000) (ht:w.told.length≤1000000000000) (hb:0≤w.bad i∧w.bad i≤1000000000000) :
  Zd Tryz.prog T 75 #[Zn wb,Zn (Z7 i),v] h fun v' h'=>∃o' Xn,Kp Ve o h o' h'∧Ja o' h' wb Z7 Xn (QV w i rc):=by
 obtain⟨pv,cv,rfl⟩:=iv.1.isSlice
 refine Zd.Zi (args:=[_,_,_]) Tryz.func75 rfl rfl rfl rfl ?_
 unfold Zn
 obtain⟨a,N⟩:=A.nd i hi
 obtain⟨n,hn⟩:=Zu (w.nodes i)
 unfold QV
 rw[←hn]at N qG hq hl MT ⊢
 have P:=Zy N.ZD.2 N.pt.store.len
 have Vf:=Za N.ZD.2
 have Pu:=P.up
 cases hu:n.up with
 | false=>
  rw[hu]at Pu
  rw[if_neg (by simp)]
  simp -implicitDefEqProofs only[go_sem,↓reduceIte,Pu]
  exact⟨o,YC,Kp.refl d _,A⟩
 | true=>
 rw[hu]at Pu
 rw[if_pos rfl]
 have Pl:=P.log
 obtain⟨pl,cl,M1,_⟩:=Ys.isSlice N.pt.log
 have M1:a.log=.slice pl n.log.length cl:=M1
 rw[M1]at Pl
 obtain⟨E,hE⟩:=Zu (ZX rc n.log.length)
 obtain⟨x,hx⟩:=Zu (Qx rc n.log.length)
 have co:=Kj T h (.slice pv rc.length cv) rc n.log.length iv.bs Jg AH tb.tk tb.tn
 rw[vj,←hE,←hx]at co
 rw[←hE,←hx]
 simp -implicitDefEqProofs only[go_sem,↓reduceIte,Pu,Pl]
 refine co.use ?_
 rintro _ g ⟨rfl,b⟩
 have kb:=Zs d b
 obtain⟨g1,Om⟩:=Zu (g.push (.cells x.C.toArray 47):Hp)
 have e1:=Om.symm
 have k1:Kp JK o h o g1:=by rw[Om];exact kb.push _
 have x6:ZL o g1 g.size (.cells x.C.toArray 47):=⟨kb.ZV _ (Nat.le_refl _),by rw[Om];exact Zb⟩
 have A1:=A.still k1
 have N1:=N.still k1
 have P1:=Zy N1.ZD.2 N1.pt.store.len
 have ZaY:=P1.me
 rw[qG]at ZaY
 have JF:=Za N1.ZD.2
 have ZaV:=Za A1.wd.ZD.2
 obtain⟨br,bw⟩:=ZaX A1.wd.ZD.2 i hi
 have r6:rd g1 ⟨g.size,0,none⟩ 5=some x.C:=Zo x6.2 rfl
 have l6:=Za x6.2
 have cJ:(i:Int)<5:=by omega
 by_cases hz:E=0
 case neg=>
  rw[if_pos (by simpa using hz)]
  simp -implicitDefEqProofs only[go_sem,↓reduceIte,e1,hz]
  refine VS.z (g1.size) [15] (.p 0 (.p 1 (.p 2 (.p 3 (.q 4 (.p 5 (.p 6 (.p 7 (.p 8 (.q 9 (.p 10 (.p 11 (.p 12 (.p 13 (.p 14 (.w 15 .nil)))))))))))))))) mixed (by kernel_rfl) ?_
  simp -implicitDefEqProofs only[go_sem,↓reduceIte,ZaY,JF,ZaV,cJ,br,bw]
  have kk:Kp (fun t=>t=.world) o g1 o (g1.setIfInBounds wb (.cells (Y6 (fun j=>if j=i then w.bad i+1 else w.bad j) YC).toArray 123)):=(Kp.refl k1.ZV (fun t=>t=.world)).set A1.wd.ZD.1 rfl _
  exact⟨o,YC,(Yc k1).trans (Yc kk),A1.vf kk (by rintro t rfl;rfl) ⟨⟨A1.wd.ZD.1,Zw A1.wd.ZD.2⟩,A1.wd.nodes.Zc kk (by intro e;cases e),A1.wd.Zj.Zc kk (by intro e;cases e),A1.wd.told.Zc kk (by intro e;cases e)⟩⟩
 rw[if_neg (by simpa using hz)]
 have P1l:hc g1 ⟨Z7 i,11,none⟩=some a.log:=P1.log
 simp -implicitDefEqProofs only[go_sem,↓reduceIte,e1,hz]
 obtain⟨J,hJ⟩:=Zu (VL n.log x)
 refine VS.mono (N:=fun F' g'=>Ze g1.size g1 g'∧F' 0=.pointer (some ⟨wb,0,none⟩)∧F' 1=.pointer (some ⟨Z7 i,0,none⟩)∧F' 6=.pointer (some ⟨g.size,0,none⟩)∧F' 8=.int .i64 J) ?_ ?_ (fun _ _ _ h=>h) (fun _ _ h=>h)
 ·refine VS.z (g1.size) [5] (.p 0 (.p 1 (.p 2 (.q 3 (.q 4 (.w 5 (.p 6 .nil))))))) mixed (by kernel_rfl) ?_
  simp -implicitDefEqProofs only[go_sem,↓reduceIte,P1l,r6,JF,l6]
  refine (Ks T g1 _ n.log x N1.pt.log.ts (by omega)).use ?_
  rintro _ g2 ⟨rfl,b2⟩
  simp -implicitDefEqProofs only[go_sem,↓reduceIte,b2,hJ]
 rintro F2 g2 ⟨b2,f0,f1,f6,f8⟩
 have SW:=Zs k1.ZV b2
 have A2:=A1.still SW
 have N2:=N1.still SW
 have y6:=x6.Zc SW
 have K2:Kp JK o h o g2:=k1.trans SW
 have P2:=Zy N2.ZD.2 N2.pt.store.len
 have iA:=P2.me
 rw[qG]at iA
 have JL:=Za N2.ZD.2
 have ZaW:=Za A2.wd.ZD.2
 have r62:rd g2 ⟨g.size,0,none⟩ 5=some x.C:=Zo y6.2 rfl
 have l62:=Za y6.2
 clear r6 l6 JF ZaV br bw P1 ZaY P1l e1
 by_cases hm:x∈n.log
 ·have hJ0:0≤J:=by rw[hJ];exact (Oe _ _).2 hm
  rw[if_pos hm]
  have call:=fun G=>da T G n.store N2.pt.store x
  have P2s:rd g2 ⟨Z7 i,12,none⟩ 40=some n.store:=P2.store
  obtain⟨D,hDe⟩:=Zu (Fa n.store x)
  obtain⟨E2,ib⟩:=Zu (P9 n.store x)
  obtain⟨c1,UA⟩:=Zu (RK n.store x)
  obtain⟨c2,I4⟩:=Zu (Kk n.store x)
  have hD:=N2.pt.store.do x
  rw[←hDe]at hD
  rw[←hDe,←ib,←UA,←I4]at call
  rw[←UA,←I4]
  have Ma:=hD.len
  have CN:=hD.one
  unfold WJ at call
  have H4:=ZK (zs:=JA) (vs:=D) (by rw[Ma];rfl)
  unfold JA at H4
  simp only[rep,List.cons_append,List.nil_append]at H4
  have wA:∀(G:Hp) (k:Nat),G[k]? = some (.cells JA.toArray 61)→wr G ⟨k,0,none⟩ D=some (G.setIfInBounds k (.cells D.toArray 61)):=fun G k hx=>by
   rw[ZP hx 0 D,ZK (by rw[Ma];rfl),if_pos ⟨by rw[Ma];simp[JA,rep],CN⟩]
  have wB:∀(G:Hp) (k:Nat),G[k]? = some (.cells [.int .i64 0,.int .i64 0].toArray 40)→wr G ⟨k,0,none⟩ [.int .i64 c1,.int .i64 c2]=some (G.setIfInBounds k (.cells [.int .i64 c1,.int .i64 c2].toArray 40)):=fun G k hx=>by
   rw[ZP hx 0 _];rfl
  have gl:∀(G:Hp) (X Y:Obj),((G.push X).push Y)[G.size]? = some X:=fun G X Y=>by rw[Zq (by simp),Zb]
  have gs:∀(G:Hp) (k:Nat) (X Y:Obj),((G.setIfInBounds k X).push Y)[G.size]? = some Y:=fun G k X Y=>by
   have:=Zb (h:=G.setIfInBounds k X) (o:=Y);rwa [Array.size_setIfInBounds]at this
  have gl':=gs
  have gr:∀(G:Hp) (X Y:Obj),((G.push X).push Y)[G.size+1]? = some Y:=fun G X Y=>by
   have:=Zb (h:=G.push X) (o:=Y);rwa [Array.size_push]at this
  simp -implicitDefEqProofs only[go_sem,↓reduceIte,f8,hJ0]
  refine VS.mono (N:=fun F' g'=>Ze g2.size g2 g'∧F' 0=.pointer (some ⟨wb,0,none⟩)∧F' 1=.pointer (some ⟨Z7 i,0,none⟩)∧F' 6=.pointer (some ⟨g.size,0,none⟩)∧∃B,F' 10=.pointer (some ⟨B,0,none⟩)∧g2.size≤B∧g'[B]? = some (.cells [.int .i64 c1,.int .i64 c2].toArray 40)) ?_ ?_ (fun _ _ _ h=>h) (fun _ _ h=>h)
  ·refine VS.z (g2.size) [5,12,13] (.p 0 (.p 1 (.p 2 (.q 3 (.q 4 (.or 5 (.p 6 (.p 7 (.p 8 (.p 9 (.or 10 (.s 11 (.w 12 (.w 13 (.p 14 .nil)))) (.s 11 (.s 10 (.w 12 (.w 13 (.p 14 .nil)))))))))) (.or 10 (.or 5 (.p 6 (.p 7 (.p 8 (.p 9 (.s 11 (.w 12 (.w 13 (.p 14 .nil)))))))) (.s 11 (.w 5 (.p 6 (.p 7 (.p 8 (.p 9 (.w 12 (.w 13 (.p 14 .nil)))))))))) (.s 11 (.or 5 (.p 6 (.p 7 (.p 8 (.p 9 (.s 10 (.w 12 (.w 13 (.p 14 .nil)))))))) (.s 10 (.w 5 (.p 6 (.p 7 (.p 8 (.p 9 (.w 12 (.w 13 (.p 14 .nil)))))))))))))))))) mixed (by kernel_rfl) ?_
   simp -implicitDefEqProofs only[go_sem,↓reduceIte,f0,f1,f6,P2s,JL,l62,r62]
   repeat' (first|with_reducible exact Ze.refl _ _|with_reducible exact Ze.push (by omega) _|with_reducible refine And.intro ?_ ?_)
   all_goals first
    | (refine (call g2).use ?_
       rintro _ g5 ⟨rfl,b5⟩
       have s5:=b5.size
       simp -implicitDefEqProofs only[go_sem,↓reduceIte,b5,Ma,CN,H4]
       refine⟨⟨f0,f1,f6,_,rfl,by omega,gr _ _ _⟩,⟨f0,f1,f6,_,rfl,s5,gl _ _ _⟩⟩)
    | (refine (call (g2.push (.cells _ 61))).use ?_
       rintro _ g5 ⟨rfl,b5⟩
       have s5:=b5.size
       rw[Array.size_push]at s5
       have B5:Ze g2.size g2 g5:=(Ze.push (Nat.le_refl _) _).trans (b5.mono (by simp))
       have xA:=b5.get (k:=g2.size) (by simp) Zb
       have Tx:=wA _ _ xA
       have zA:=Za xA
       simp -implicitDefEqProofs only[go_sem,↓reduceIte,B5,Ma,CN,Tx,zA]
       exact⟨f0,f1,f6,_,rfl,by omega,gs _ _ _ _⟩)
    | (refine (call (g2.push (.cells _ 40))).use ?_
       rintro _ g5 ⟨rfl,b5⟩
       have s5:=b5.size
       rw[Array.size_push]at s5
       have B5:Ze g2.size g2 g5:=(Ze.push (Nat.le_refl _) _).trans (b5.mono (by simp))
       have xB:=b5.get (k:=g2.size) (by simp) Zb
       have Kw:=wB _ _ xB
       have zB:=Za xB
       have gB:=Zw (o:=.cells [.int .i64 c1,.int .i64 c2].toArray 40) xB
       simp -implicitDefEqProofs only[go_sem,↓reduceIte,B5,Ma,CN,Kw,H4,zB]
       exact⟨f0,f1,f6,_,rfl,Nat.le_refl _,by rw[Zq (by simpa using zB)];exact gB⟩)
    | (refine (call ((g2.push (.cells _ 61)).push (.cells _ 40))).use ?_
       rintro _ g5 ⟨rfl,b5⟩
       have s5:=b5.size
       rw[Array.size_push,Array.size_push]at s5
       have B5:Ze g2.size g2 g5:=((Ze.push (Nat.le_refl _) _).Yg (by simp) _).trans (b5.mono (by simp;omega))
       have xA:=b5.get (k:=g2.size) (by simp;omega) (gl _ _ _)
       have xB:=b5.get (k:=g2.size+1) (by simp) (gr _ _ _)
       have Tx:=wA _ _ xA
       have zA:=Za xA
       have OU:=(Yh (o:=.cells D.toArray 61) (show g2.size≠g2.size+1 by omega)).trans xB
       have Kw:=wB _ _ OU
       have zB:=Za OU
       simp -implicitDefEqProofs only[go_sem,↓reduceIte,B5,Ma,CN,Tx,zA,Kw,zB]
       exact⟨f0,f1,f6,_,rfl,by omega,Zw OU⟩)
    | (refine (call ((g2.push (.cells _ 40)).push (.cells _ 61))).use ?_
       rintro _ g5 ⟨rfl,b5⟩
       have s5:=b5.size
       rw[Array.size_push,Array.size_push]at s5
       have B5:Ze g2.size g2 g5:=((Ze.push (Nat.le_refl _) _).Yg (by simp) _).trans (b5.mono (by simp;omega))
       have xB:=b5.get (k:=g2.size) (by simp;omega) (gl _ _ _)
       have xA:=b5.get (k:=g2.size+1) (by simp) (gr _ _ _)
       have Tx:=wA _ _ xA
       have zA:=Za xA
       have OU:=(Yh (o:=.cells D.toArray 61) (show g2.size+1≠g2.size by omega)).trans xB
       have Kw:=wB _ _ OU
       have zB:=Za OU
       simp -implicitDefEqProofs only[go_sem,↓reduceIte,B5,Ma,CN,Tx,zA,Kw,zB]
       exact⟨f0,f1,f6,_,rfl,by omega,Zw OU⟩)
  clear f0 f1 f6 f8
  rintro F5 g5 ⟨b5,f0,f1,f6,B,f10,hB,yB⟩
  have HH:=Zs K2.ZV b5
  have A5:=A2.still HH
  have N5:=N2.still HH
  have z6:=y6.Zc HH
  have K5:Kp JK o h o g5:=K2.trans HH
  have xB:ZL o g5 B (.cells [.int .i64 c1,.int .i64 c2].toArray 40):=⟨K2.ZV _ hB,yB⟩
  have Zo1:=(Zy N5.ZD.2 N5.pt.store.len).me
  have RN:=Za N5.ZD.2
  have U5:=YT A5.wd.ZD.2
  have az:=Za A5.wd.ZD.2
  have rx1:hc g5 ⟨g.size,1,none⟩=some (.int .i64 x.c):=Zg z6.2
  have rx2:hc g5 ⟨g.size,2,none⟩=some (.int .i64 x.s):=Zg z6.2
  have rB:rd g5 ⟨B,0,none⟩ 2=some [.int .i64 c1,.int .i64 c2]:=Zo yB rfl
  have zx:=Za z6.2
  have zB:=Za yB
  refine VS.z (g5.size) [17,21] (.p 0 (.p 1 (.p 2 (.p 3 (.p 4 (.q 5 (.p 6 (.p 7 (.p 8 (.q 9 (.p 10 (.q 11 (.p 12 (.q 13 (.q 14 (.p 15 (.s 16 (.w 17 (.p 18 (.p 19 (.p 20 (.w 21 .nil)))))))))))))))))))))) mixed (by kernel_rfl) ?_
  simp -implicitDefEqProofs only[go_sem,↓reduceIte,f0,f1,f6,f10,U5.told,Zo1,rx1,rx2,rB,RN,az,zx,zB]
  have k6:=ZW K5.ZV (.cells (VK ⟨n.me,x.c,x.s,c1,c2⟩).toArray 42)
  have A6:=A5.still k6
  refine N9 (l:=w.told) (x:=⟨n.me,x.c,x.s,c1,c2⟩) A6.wd.told k6.ZV Zb ht ?_
  intro p7 c7 o7 g7 q7 k7
  have b7:=A6.wd.ZD.Zc k7 (by intro e;cases e)
  obtain⟨g8,w8,W8,k8⟩:=A6.wd.db k7 q7 ((YT b7.2).xP (.slice p7 _ c7) rfl)
  have z7:=Za b7.2
  simp -implicitDefEqProofs only[go_sem,↓reduceIte,w8,z7]
  have A8:=A6.vf (S:=fun t=>t=.told∨t=.world) ((k7.mono fun t q=>.inl q).trans (k8.mono fun t q=>.inr q)) (by rintro t (rfl|rfl)<;>rfl) W8
  exact⟨o7,_,(((Yc K5).trans (Yc k6)).trans (Yc k7)).trans (Yc k8),A8⟩
 ·have hJ0:¬0≤J:=by rw[hJ];exact fun e=>hm ((Oe _ _).1 e)
  rw[if_neg hm]
  have ca:=nY T g2 o wb i (Z7 i) a n x K2.ZV N2 hq hl
  unfold Zn WJ at ca
  simp -implicitDefEqProofs only[go_sem,↓reduceIte,f1,f6,f8,hJ0,r62]
  refine ca.use ?_
  rintro v3 g3 ⟨o3,a3,k3,N3⟩
  have k3a:Kp (Xw i) o g2 o3 g3:=k3.mono oU
  obtain⟨aw,am⟩:=add_same n x
  obtain⟨m,tW⟩:=Zu (add n x)
  rw[←tW]at N3 aw am ⊢
  have W3:=A2.wd.Zc k3 (by rintro t (rfl|rfl)<;>simp[Tg.of])
  have z6:=y6.Zc k3
  have P3:=Zy N3.ZD.2 N3.pt.store.len
  have P3w:hc g3 ⟨Z7 i,53,none⟩=some a3.waiting:=P3.waiting
  have RM:=Za N3.ZD.2
  have r63:rd g3 ⟨g.size,0,none⟩ 5=some x.C:=Zo z6.2 rfl
  have l63:=Za z6.2
  have hmw:m.waiting.length≤1000000000000:=by rw[aw];exact MT
  have K3:Kp Ve o h o3 g3:=(Yc K2).trans (Yc k3)
  simp -implicitDefEqProofs only[go_sem,↓reduceIte]
  refine VS.mono (N:=fun F' g'=>Ze g3.size g3 g'∧F' 1=.pointer (some ⟨Z7 i,0,none⟩)∧F' 6=.pointer (some ⟨g.size,0,none⟩)∧F' 92=.bool (!decide (x∈m.waiting))) ?_ ?_ (fun _ _ _ h=>h) (fun _ _ h=>h)
  ·refine VS.z (g3.size) [5] (.p 0 (.p 1 (.p 2 (.q 3 (.q 4 (.w 5 (.p 6 .nil))))))) mixed (by kernel_rfl) ?_
   simp -implicitDefEqProofs only[go_sem,↓reduceIte,f1,f6,P3w,r63,RM,l63]
   refine (Vb T g3 _ m.waiting x N3.pt.waiting.ts (by omega)).use ?_
   rintro _ g4 ⟨rfl,b4⟩
   simp -implicitDefEqProofs only[go_sem,↓reduceIte,b4]
   exact⟨f1,f6⟩
  clear f0 f1 f6
  rintro F4 g4 ⟨b4,f1,f6,f92⟩
  have kb4:=Zs K3.ZV b4
  have N4:=N3.still kb4
  have W4:=W3.still kb4
  have k4a:Kp (Xw i) o g2 o3 g4:=k3a.trans (ZC kb4)
  have K4:Kp Ve o h o3 g4:=K3.trans (Yc kb4)
  by_cases vm:x∈m.waiting
  ·have e5:Kq m x=m:=by unfold Kq;rw[if_pos vm]
   rw[e5]
   simp -implicitDefEqProofs only[go_sem,↓reduceIte,f92,vm]
   exact⟨o3,_,K4,A2.Xj k4a N4 W4⟩
  ·have e5:Kq m x = { m with waiting:=m.waiting++[x] }:=by unfold Kq;rw[if_neg vm]
   rw[e5]
   have q6:=z6.Zc kb4
   have P4w:=(Zy N4.ZD.2 N4.pt.store.len).waiting
   obtain⟨pw,cw,hpw,_⟩:=Ys.isSlice N4.pt.waiting
   have hpw:a3.waiting=.slice pw m.waiting.length cw:=hpw
   have P4w:hc g4 ⟨Z7 i,53,none⟩=some (.slice pw m.waiting.length cw):=by rw[←hpw];exact P4w
   have Mt:=Za N4.ZD.2
   have r64:rd g4 ⟨g.size,0,none⟩ 5=some x.C:=Zo q6.2 rfl
   have l64:=Za q6.2
   simp -implicitDefEqProofs only[go_sem,↓reduceIte,f92,vm]
   refine VS.z (g4.size) [7,10] (.p 0 (.p 1 (.p 2 (.p 3 (.q 4 (.q 5 (.s 6 (.w 7 (.p 8 (.p 9 (.w 10 .nil))))))))))) mixed (by kernel_rfl) ?_
   simp -implicitDefEqProofs only[go_sem,↓reduceIte,f1,f6,P4w,r64,Mt,l64]
   have k5:=ZW K4.ZV (.cells x.C.toArray 47)
   have N5:=N4.still k5
   have W5:=W4.still k5
   have Q5:=N5.pt.waiting
   rw[hpw]at Q5
   refine OS (l:=m.waiting) Q5 k5.ZV Zb hmw ?_
   intro p6 c6 o6 g6 q7 k6
   have b6:=N5.ZD.Zc k6 (by intro e;cases e)
   obtain⟨g7,w7,N7,k7⟩:=(N5.pt.NZ k6 q7).write k6.ZV b6 ((YO b6.2 N5.pt.store.len).waiting (.slice p6 (m.waiting.length+1) c6) rfl)
   have oN:=Za b6.2
   simp -implicitDefEqProofs only[go_sem,↓reduceIte,w7,oN]
   have kk:Kp (Xw i) o g2 o6 g7:=((k4a.trans (ZC k5)).trans (k6.mono fun t q=>.inr (.inr (.inr (by rw[q];rfl))))).trans (k7.mono fun t q=>.inr (.inr (.inr (by rw[q];rfl))))
   exact⟨o6,_,(Yc K2).trans (Yc kk),A2.Xj kk N7 ((W5.Zc k6 (by rintro t rfl;simp[Tg.of])).Zc k7 (by rintro t rfl;simp[Tg.of]))⟩
def KA (i:Nat) (t:Tg):Prop:=t=.node i∨t=.known i
set_option maxHeartbeats 4000000 in
theorem KB (T:World) (h:Hp) (o:Ow) (wb i:Nat) (dv:Value) (aA:List Nat) (Xs:Int) (vv:Value) (Wk:Vi) (d:Ug o h) (iD:Ti o h dv aA) (iV:Wc o h vv Wk.l) :
  Zd Tryz.prog T 74 #[.int .i64 i,.agg #[dv,.int .i64 Xs],.agg #[.int .i64 Wk.p.r,.int .i64 Wk.p.n,vv]] h fun v' h'=>∃nb o' a',v'=Zn nb∧Ze h.size h h'∧Kp (KA i) o h o' h'∧ZI o' h' wb i nb a' (blank i true aA Xs Wk):=by
 obtain⟨pd,cd,rfl⟩:=iD.1.isSlice
 obtain⟨pv,cv,rfl⟩:=iV.isSlice
 refine Zd.Zi (args:=[_,_,_]) Tryz.func74 rfl rfl rfl rfl ?_
 unfold Zn
 obtain⟨h1,YF⟩:=Zu ((h.push (.cells [.slice pd aA.length cd,.int .i64 Xs].toArray 126)).push (.cells [.int .i64 Wk.p.r,.int .i64 Wk.p.n,.slice pv Wk.l.length cv].toArray 131):Hp)
 have k1:Kp JK o h o h1:=by rw[YF];exact ((Kp.refl d _).push _).push _
 have x4:ZL o h1 h.size (.cells [.slice pd aA.length cd,.int .i64 Xs].toArray 126):=⟨d _ (Nat.le_refl _),by rw[YF];exact hQ _ _ _⟩
 have x5:ZL o h1 (h.size+1) (.cells [.int .i64 Wk.p.r,.int .i64 Wk.p.n,.slice pv Wk.l.length cv].toArray 131):=⟨d _ (by omega),by rw[YF];exact jy _ _ _⟩
 have e0:=YF.symm
 have r4:rd h1 ⟨h.size,0,none⟩ 2=some [.slice pd aA.length cd,.int .i64 Xs]:=Zo x4.2 rfl
 have r5:rd h1 ⟨h.size+1,0,none⟩ 3=some [.int .i64 Wk.p.r,.int .i64 Wk.p.n,.slice pv Wk.l.length cv]:=Zo x5.2 rfl
 simp -implicitDefEqProofs only[go_sem,↓reduceIte,e0,r4,r5]
 obtain⟨A,hA⟩:∃A:NA,A=⟨.slice pd aA.length cd,.slice pv Wk.l.length cv,none,h1.size,.slice none 0 0,.slice none 0 0,.slice none 0 0,.slice none 0 0,.nilFunc⟩:=⟨_,rfl⟩
 obtain⟨h2,Wb⟩:=Zu (h1.push (Xi []):Hp)
 obtain⟨h3,qD⟩:=Zu (h2.push (Y8 (blank i true aA Xs Wk) A):Hp)
 have s2:h2.size=h1.size+1:=by rw[Wb];simp
 have ee:h3=(h1.push (.map #[] 0)).push (Y8 (blank i true aA Xs Wk) A):=by rw[qD,Wb];rfl
 rw[hA]at ee
 refine⟨h1.size+1,Jt (Jt o h1.size (.known i)) (h1.size+1) (.node i),A,rfl,?_⟩
 have k2:Kp (KA i) o h1 (Jt o h1.size (.known i)) h2:=by rw[Wb];exact ((Kp.refl k1.ZV _).push _).TT (Nat.le_refl _) (by simp) (.inr rfl)
 have k3:Kp (KA i) o h1 (Jt (Jt o h1.size (.known i)) (h1.size+1) (.node i)) h3:=by rw[qD];exact (k2.push _).TT (by omega) (by rw[Array.size_push];omega) (.inl rfl)
 have kx:Kp (fun t=>t=.node i) (Jt o h1.size (.known i)) h2 (Jt (Jt o h1.size (.known i)) (h1.size+1) (.node i)) h3:=by rw[qD];exact ((Kp.refl k2.ZV _).push _).TT (by omega) (by rw[Array.size_push];omega) rfl
 have m2:Qf (Jt o h1.size (.known i)) (.known i) h2 h1.size (Ul WJ []):=⟨YV,by rw[Wb];exact Zb⟩
 have iD3:=(iD.Zc k1).Zc k3
 have iV3:=(iV.Zc k1).Zc k3
 have K3:Kp (KA i) o h (Jt (Jt o h1.size (.known i)) (h1.size+1) (.node i)) h3:=(ZC k1).trans k3
 have st:Oc JA:=Oc.oe (by kernel_rfl)
 show Ze h.size h ((h1.push (.map #[] 0)).push (Y8 (blank i true aA Xs Wk) ⟨.slice pd aA.length cd,.slice pv Wk.l.length cv,none,h1.size,.slice none 0 0,.slice none 0 0,.slice none 0 0,.slice none 0 0,.nilFunc⟩))∧Kp (KA i) o h _ ((h1.push (.map #[] 0)).push (Y8 (blank i true aA Xs Wk) ⟨.slice pd aA.length cd,.slice pv Wk.l.length cv,none,h1.size,.slice none 0 0,.slice none 0 0,.slice none 0 0,.slice none 0 0,.nilFunc⟩))∧ZI _ ((h1.push (.map #[] 0)).push (Y8 (blank i true aA Xs Wk) ⟨.slice pd aA.length cd,.slice pv Wk.l.length cv,none,h1.size,.slice none 0 0,.slice none 0 0,.slice none 0 0,.slice none 0 0,.nilFunc⟩)) wb i (h1.size+1) A (blank i true aA Xs Wk)
 rw[←ee]
 refine⟨by rw[qD,Wb,YF];exact ((((Ze.refl _ _).add _).add _).add _).add _,K3,⟨YV,by rw[qD,←s2];exact Zb⟩,?_⟩
 rw[hA]
 exact⟨iD3,iV3,trivial,m2.Zc kx (by intro e;cases e),Ys.nil _ _ _ _ _,Ys.nil _ _ _ _ _,Ys.nil _ _ _ _ _,⟨[],rfl,Ys.nil _ _ _ _ _,fun x hx=>by cases hx⟩,rfl,st⟩
theorem D8 {S:Tg→Prop} {o o':Ow} {h h':Hp} (k:Kp S o h o' h') {b:Nat} {t u:Tg} (hb:o' b=some t) (ht:S t) (hu:S u):Kp S o h (Jt o' b u) h':=by
 refine⟨k.size,fun c hc hn=>⟨(k.Zc c hc hn).1,?_⟩,fun c hc v hv hs=>?_,fun c hc v hv=>?_,fun c hc=>?_⟩
 ·by_cases e:c=b
  ·subst e
   have:=(k.Zc c hc hn).2
   rw[hb]at this
   exact (hn t this.symm ht).elim
  ·rw[Y0 e];exact (k.Zc c hc hn).2
 ·by_cases e:c=b
  ·subst e;exact⟨u,YV,hu⟩
  ·rw[Y0 e];exact k.stay c hc v hv hs
 ·by_cases e:c=b
  ·subst e;rw[YV]at hv;cases hv;exact hu
  ·rw[Y0 e]at hv;exact k.new c hc v hv
 ·by_cases e:c=b
  ·subst e;rw[k.ZV c hc]at hb;cases hb
  ·rw[Y0 e];exact k.ZV c hc
def KC (i:Nat) (t:Tg):Prop:=t=.Zl i∨t=.prom i∨t=.Xk i
theorem iF {o:Ow} {h:Hp} {wb i nb:Nat} {a:NA} {n:Nd} (d:Ug o h) (N:ZI o h wb i nb a n) :
  ∃o',Kp (KC i) o h o' h∧ZS o' h wb i nb { a with Zl:=none } { n with Zl:=none,ZT:=Xk n.ZT }∧o' nb=some (.node i):=by
 have key:∀o',Kp (KC i) o h o' h→Uf o' h wb i nb none a.ZT (Xk n.ZT)→ZS o' h wb i nb { a with Zl:=none } { n with Zl:=none,ZT:=Xk n.ZT }:=fun o' k p=>
  ⟨N.pt.data.Zc k,N.pt.YL.Zc k,trivial,N.pt.known.Zc k (by rintro (e|e|e)<;>cases e),N.pt.log.Zc k (by rintro (e|e|e)<;>cases e),N.pt.queue.Zc k (by rintro (e|e|e)<;>cases e),N.pt.waiting.Zc k (by rintro (e|e|e)<;>cases e),N.pt.inbox.Zc k (by rintro (e|e|e)<;>cases e),p,N.pt.store⟩
 have hp:=N.pt.ZT
 have hR:=N.pt.Zl
 cases OV:a.Zl with
 | none=>
  rw[OV]at hp
  refine⟨o,Kp.refl d _,key o (Kp.refl d _) ?_,N.ZD.1⟩
  match hn:n.ZT,hp with
  | none,hp=>exact hp
  | some (.G8 _ _ _ _),hp=>exact hp
  | some (.G9 _ _ _),hp=>exact hp
  | some (.own _ _ false),hp=>exact hp
  | some (.own _ _ true),⟨b6,b4,b7,b5,w,rb,h1,h2,h3,h4,h5,h6,a',h7,_⟩=>cases h7
 | some ra=>
  rw[OV]at hp hR
  obtain⟨r,hr⟩:∃r,n.Zl=some r:=by
   cases hx:n.Zl with
   | none=>rw[hx]at hR;exact hR.elim
   | some r=>exact⟨r,rfl⟩
  rw[hr]at hR
  have hR:YG o i h ra r:=hR
  have Yr:ra.rb≠ra.pb:=fun e=>by
   have h1:=hR.ZD.1;have h2:=hR.prom.1
   rw[e,h2]at h1;cases h1
  have k1:Kp (KC i) o h (Jt o ra.rb (.Xk i)) h:=D8 (Kp.refl d (KC i)) hR.ZD.1 (.inl rfl) (.inr (.inr rfl))
  have qn:Jt o ra.rb (.Xk i) ra.pb=some (.prom i):=by rw[Y0 (fun e=>Yr e.symm)];exact hR.prom.1
  have k2:Kp (KC i) o h (Jt (Jt o ra.rb (.Xk i)) ra.pb (.Xk i)) h:=D8 k1 qn (.inr (.inl rfl)) (.inr (.inr rfl))
  obtain⟨o2,qw⟩:=Zu (Jt (Jt o ra.rb (.Xk i)) ra.pb (.Xk i))
  rw[←qw]at k2
  have s1:o2 ra.rb=some (.Xk i):=by rw[qw,Y0 Yr];exact YV
  have s2:o2 ra.pb=some (.Xk i):=by rw[qw];exact YV
  have so:∀b,b≠ra.rb→b≠ra.pb→o2 b=o b:=fun b e1 e2=>by rw[qw,Y0 e2,Y0 e1]
  have sst:∀b,o b=some (.Xk i)→o2 b=some (.Xk i):=fun b hb=>by
   by_cases e1:b=ra.rb
   ·rw[e1];exact s1
   ·by_cases e2:b=ra.pb
    ·rw[e2];exact s2
    ·rw[so b e1 e2];exact hb
  have Vf:o2 nb=some (.node i):=by
   rw[so nb (fun e=>by have:=N.ZD.1;rw[e,hR.ZD.1]at this;cases this) (fun e=>by have:=N.ZD.1;rw[e,hR.prom.1]at this;cases this)]
   exact N.ZD.1
  refine⟨o2,k2,key o2 k2 ?_,Vf⟩
  match hn:n.ZT,hp with
  | none,hp=>exact hp
  | some (.G8 a to b vs),⟨b6,b4,b9,u,h1,h2,h3,h4,h5⟩=>exact⟨b6,b4,b9,u,h1,h2.Zc k2,h3.Zc k2,h4.Zc k2,h5.Zc k2⟩
  | some (.G9 a to x),⟨b6,b4,b9,u,h1,h2,h3,h4,h5⟩=>exact⟨b6,b4,b9,u,h1,h2.Zc k2,h3.Zc k2,h4.Zc k2,h5.Zc k2⟩
  | some (.own a vs cur),⟨b6,b4,b7,b5,w,rb,h1,h2,h3,h4,h5,h6,h7⟩=>
   refine⟨b6,b4,b7,b5,w,rb,h1,h2.Zc k2,h3.Zc k2,h4.Zc k2,h5.Zc k2,h6.Zc k2,?_⟩
   rw[if_neg (by simp)]
   cases cur with
   | false=>
    rw[if_neg (by simp)]at h7
    obtain⟨cs,pb,pv,g1,g2,g3⟩:=h7
    exact⟨cs,pb,pv,⟨sst _ g1.1,g1.2⟩,g2,sst _ g3.1,g3.2⟩
   | true=>
    rw[if_pos rfl]at h7
    obtain⟨a',q1,q2⟩:=h7
    obtain rfl:=Option.some.inj q1
    rw[←q2]
    exact⟨_,ra.pb,ra.pv,⟨s1,hR.ZD.2⟩,rfl,s2,hR.prom.2⟩
theorem vo {o:Ow} {h:Hp} {wb i nb:Nat} {ra:Option RA} {v:Value} {p:Option gT} (s:Uf o h wb i nb none v (Xk p)):Uf o h wb i nb ra v (Xk p):=by
 match p,s with
 | none,s=>exact s
 | some (.G8 _ _ _ _),s=>exact s
 | some (.G9 _ _ _),s=>exact s
 | some (.own _ _ _),s=>exact s
set_option maxHeartbeats 4000000 in
theorem vp (T:World) (h:Hp) (o:Ow) (wb i nb:Nat) (a:NA) (n:Nd) (d:Ug o h) (N:ZI o h wb i nb a n) (hb:n.own.p.r≤1000000000000∧n.heard.r≤1000000000000 ∧ -1000000000000≤n.own.p.r ∧ -1000000000000≤n.heard.r)
  (hr:∀r,n.Zl=some r→r.b.r≤1000000000000 ∧ -1000000000000≤r.b.r) :
  Zd Tryz.prog T 76 #[Zn wb,Zn nb] h fun v' h'=>∃o' a',Kp (fun t=>t.of=some i) o h o' h'∧ZI o' h' wb i nb a' (lead n):=by
 refine Zd.Mz (args:=#[_,_]) Tryz.func76 rfl rfl rfl ?_
 obtain⟨M,hM⟩:=Zu (max n.own.p.r n.heard.r+1)
 refine VS.seq (VS.mono (N:=fun F' g'=>F' 1=.pointer (some ⟨nb,0,none⟩)∧Ze h.size h g'∧∃kb,h.size≤kb∧F' 4=.pointer (some ⟨kb,0,none⟩)∧g'[kb]? = some (.cells [.int .i64 M,.int .i64 n.me].toArray 128)) ?_ ?_ (fun _ _ _ h=>h) (fun _ _ h=>h))
 ·refine X6 _ _ _ _ _ _ rfl ?_
  unfold Zn
  have P:=Zy N.ZD.2 N.pt.store.len
  have Vf:=Za N.ZD.2
  simp -implicitDefEqProofs only[go_sem,↓reduceIte]
  refine VS.z (h.size) [19] (.p 0 (.p 1 (.p 2 (.p 3 (.p 4 (.q 5 (.p 6 (.p 7 (.p 8 (.p 9 (.q 10 (.p 11 (.p 12 (.p 13 (.p 14 (.p 15 (.q 16 (.p 17 (.s 18 (.w 19 .nil)))))))))))))))))))) mixed (by kernel_rfl) ?_
  simp -implicitDefEqProofs only[go_sem,↓reduceIte,P.ZnY,P.ZaE,P.me,Vf]
  have em:(if n.heard.r>n.own.p.r then n.heard.r else n.own.p.r)+1=M:=by
   rw[hM]
   split<;>omega
  rw[em]
  exact⟨_,Nat.le_refl _,rfl,Zb⟩
 rintro F1 g1 ⟨f1,b1,kb,qm,f4,y4⟩
 refine VS.seq (VS.mono (N:=fun F' g'=>F' 1=.pointer (some ⟨nb,0,none⟩)∧F' 4=.pointer (some ⟨kb,0,none⟩)∧Ze h.size h g'∧g'[kb]? = some (.cells [.int .i64 (Qe n).r,.int .i64 n.me].toArray 128)) ?_ ?_ (fun _ _ _ h=>h) (fun _ _ h=>h))
 ·refine X6 _ _ _ _ _ _ rfl ?_
  have k1:=Zs d b1
  have N1:=N.still k1
  have P1:=Zy N1.ZD.2 N1.pt.store.len
  have P1r:=P1.Zl
  have JF:=Za N1.ZD.2
  have l4:=Za y4
  have r4:hc g1 ⟨kb,0,none⟩=some (.int .i64 M):=Zg y4
  cases OV:a.Zl with
  | none=>
   rw[OV]at P1r
   unfold RL at P1r
   have hn:n.Zl=none:=by
    have:=N.pt.Zl
    rw[OV]at this
    cases hx:n.Zl with
    | none=>rfl
    | some r=>rw[hx]at this;exact this.elim
   have e1:(Qe n).r=M:=by unfold Qe;rw[hn,hM]
   rw[e1]
   simp -implicitDefEqProofs only[go_sem,↓reduceIte,f1,P1r]
   exact⟨f4,b1,y4⟩
  | some ra=>
   rw[OV]at P1r
   unfold RL Zn at P1r
   obtain⟨r,hn⟩:∃r,n.Zl=some r:=by
    have:=N.pt.Zl
    rw[OV]at this
    cases hx:n.Zl with
    | none=>rw[hx]at this;exact this.elim
    | some r=>exact⟨r,rfl⟩
   have R1:YG o i g1 ra r:=by have:=N1.pt.Zl;rw[OV,hn]at this;exact this
   have CO:=Za R1.ZD.2
   have rr0:hc g1 ⟨ra.rb,0,none⟩=some (.int .i64 r.b.r):=Zg R1.ZD.2
   have e1:(Qe n).r=max M (r.b.r+1):=by unfold Qe;rw[hn,hM]
   obtain⟨jq,hr2⟩:=hr r hn
   obtain⟨Z,hZ⟩:=Zu ((Qe n).r)
   have hz:(if r.b.r+1>M then r.b.r+1 else M)=Z:=by
    rw[hZ,e1];split<;>omega
   rw[←hZ]
   have w4:Jn g1 ⟨kb,0,none⟩ (.int .i64 Z)=some (g1.setIfInBounds kb (.cells [.int .i64 Z,.int .i64 n.me].toArray 128)):=by rw[Yq y4 0 _];rfl
   simp -implicitDefEqProofs only[go_sem,↓reduceIte,f1,P1r]
   refine VS.z (g1.size) [10] (.p 0 (.q 1 (.p 2 (.p 3 (.p 4 (.p 5 (.q 6 (.p 7 (.p 8 (.p 9 (.w 10 .nil))))))))))) mixed (by kernel_rfl) ?_
   simp -implicitDefEqProofs only[go_sem,↓reduceIte,f1,f4,P1r,r4,rr0,CO,l4,hz,w4]
   exact⟨b1.Zk qm _,Zw y4⟩
 clear f1 f4 y4 b1
 rintro F3 g3 ⟨f1,f4,b3,y4⟩
 refine X6 _ _ _ _ _ _ rfl ?_
 have k3:=Zs d b3
 have N3:=N.still k3
 have P3:=Zy N3.ZD.2 N3.pt.store.len
 have P3u:=P3.up
 have RM:=Za N3.ZD.2
 have l4:=Za y4
 have r4a:hc g3 ⟨kb,0,none⟩=some (.int .i64 (Qe n).r):=Zg y4
 cases hu:n.up with
 | false=>
  rw[hu]at P3u
  have e1:lead n=n:=by unfold lead;rw[if_pos (.inl hu)]
  rw[e1]
  simp -implicitDefEqProofs only[go_sem,↓reduceIte,f1,P3u]
  exact⟨o,a,ZC k3,N3⟩
 | true=>
 rw[hu]at P3u
 by_cases c:65536<(Qe n).r
 ·have e1:lead n=n:=by unfold lead;rw[if_pos (.inr c)]
  rw[e1]
  have c':(Qe n).r>65536:=c
  simp -implicitDefEqProofs only[go_sem,↓reduceIte,f1,f4,P3u,r4a,c,c']
  exact⟨o,a,ZC k3,N3⟩
 have e1:lead n = { n with Zl:=some ⟨Qe n,[],false,[],[]⟩,ZT:=Xk n.ZT }:=by
  unfold lead;rw[if_neg];rintro (e|e)
  ·rw[hu]at e;cases e
  ·exact c e
 rw[e1]
 have c':¬(Qe n).r>65536:=c
 have r4:rd g3 ⟨kb,0,none⟩ 2=some [.int .i64 (Qe n).r,.int .i64 n.me]:=Zo y4 rfl
 obtain⟨o2,k2,jA,JL⟩:=iF k3.ZV N3
 obtain⟨ra,OV⟩:∃ra:RA,ra=⟨g3.size+3,g3.size,g3.size+1,g3.size+2,[],[]⟩:=⟨_,rfl⟩
 obtain⟨r,hr0⟩:∃r:Qn,r=⟨Qe n,[],false,[],[]⟩:=⟨_,rfl⟩
 obtain⟨p1,qn⟩:=Zu (g3.push (Xi []):Hp)
 obtain⟨p2,lF⟩:=Zu (p1.push (Xi []):Hp)
 obtain⟨p3,hp3⟩:=Zu (p2.push (Xi []):Hp)
 obtain⟨p4,hp4⟩:=Zu (p3.push (.cells (ad r ra).toArray 181):Hp)
 have s1:p1.size=g3.size+1:=by rw[qn];simp
 have s2:p2.size=g3.size+2:=by rw[lF,Array.size_push,s1]
 have s3:p3.size=g3.size+3:=by rw[hp3,Array.size_push,s2]
 have s4:p4.size=g3.size+4:=by rw[hp4,Array.size_push,s3]
 have q1:p4[g3.size]? = some (Xi []):=by rw[hp4,Zq (by omega),hp3,Zq (by omega),lF,Zq (by omega),qn];exact Zb
 have q2:p4[g3.size+1]? = some (Xi []):=by rw[hp4,Zq (by omega),hp3,Zq (by omega),lF,←s1];exact Zb
 have q3:p4[g3.size+2]? = some (Xi []):=by rw[hp4,Zq (by omega),hp3,←s2];exact Zb
 have q4:p4[g3.size+3]? = some (.cells (ad r ra).toArray 181):=by rw[hp4,←s3];exact Zb
 have kp:Kp (XA i) o2 g3 o2 p4:=by rw[hp4,hp3,lF,qn];exact ((((Kp.refl k2.ZV _).push _).push _).push _).push _
 have ka:=kp.TT (b:=g3.size) (t:=.prom i) (Nat.le_refl _) (by omega) (.inr (.inl rfl))
 have kb':=ka.TT (b:=g3.size+1) (t:=.prop i) (by omega) (by omega) (.inr (.inr (.inl rfl)))
 have kc:=kb'.TT (b:=g3.size+2) (t:=.Jv i) (by omega) (by omega) (.inr (.inr (.inr (.inl rfl))))
 have k5:=kc.TT (b:=g3.size+3) (t:=.Zl i) (by omega) (by omega) (.inl rfl)
 obtain⟨o5,ho5⟩:=Zu (Jt (Jt (Jt (Jt o2 g3.size (.prom i)) (g3.size+1) (.prop i)) (g3.size+2) (.Jv i)) (g3.size+3) (.Zl i))
 rw[←ho5]at k5
 clear ka kb' kc kp
 have t1:o5 g3.size=some (.prom i):=by rw[ho5,Y0 (by omega),Y0 (by omega),Y0 (by omega)];exact YV
 have t2:o5 (g3.size+1)=some (.prop i):=by rw[ho5,Y0 (by omega),Y0 (by omega)];exact YV
 have t3:o5 (g3.size+2)=some (.Jv i):=by rw[ho5,Y0 (by omega)];exact YV
 have t4:o5 (g3.size+3)=some (.Zl i):=by rw[ho5];exact YV
 have R5:YG o5 i p4 ra r:=by
  rw[OV,hr0]
  rw[OV,hr0]at q4
  exact⟨⟨t4,q4⟩,⟨t1,q1⟩,.nil,⟨t2,q2⟩,⟨t3,q3⟩,.nil,by simp⟩
 have en:∀t:Tg,(t=.known i∨t=.log i∨t=.queue i∨t=.waiting i∨t=.inbox i∨t=.Xk i∨t=.node i)→¬XA i t:=by
  intro t ht hr
  rcases ht with rfl|rfl|rfl|rfl|rfl|rfl|rfl<;>rcases hr with e|e|e|e|⟨s,e⟩<;>cases e
 have pn:Uf o5 p4 wb i nb (some ra) a.ZT (Xk n.ZT):=vo (jA.ZT.Zc k5 (en _ (by simp)))
 have pt5:ZS o5 p4 wb i nb { a with Zl:=some ra } { n with Zl:=some r,ZT:=Xk n.ZT }:=
  ⟨jA.data.Zc k5,jA.YL.Zc k5,R5,jA.known.Zc k5 (en _ (by simp)),jA.log.Zc k5 (en _ (by simp)),jA.queue.Zc k5 (en _ (by simp)),jA.waiting.Zc k5 (en _ (by simp)),jA.inbox.Zc k5 (en _ (by simp)),pn,jA.store⟩
 have B5:QK o5 (.node i) p4 nb (Y8 n a):=QK.Zc (o:=o2) ⟨JL,N3.ZD.2⟩ k5 (en _ (by simp))
 obtain⟨g6,w6,N6,k6⟩:=ZS.write pt5 k5.ZV B5 ((YO B5.2 N.pt.store.len).Zl (some ra))
 have RN:=Za B5.2
 have ee:p4=(((g3.push (.map #[] 0)).push (.map #[] 0)).push (.map #[] 0)).push (.cells #[.int .i64 (Qe n).r,.int .i64 n.me,.map (some g3.size),.bool false,.map (some (g3.size+1)),.map (some (g3.size+2))] 181):=by
  rw[hp4,hp3,lF,qn,OV,hr0];rfl
 have w6':Jn p4 ⟨nb,9,none⟩ (.pointer (some ⟨g3.size+3,0,none⟩))=some g6:=by rw[←w6,OV];rfl
 have ee':=ee.symm
 rw[hr0]at N6
 simp -implicitDefEqProofs only[go_sem,↓reduceIte,f1,f4,P3u,r4a,c,c',r4,ee',w6',RN]
 refine⟨o5,_,((ZC k3).trans (k2.mono fun t q=>?_)).trans ((k5.mono fun t q=>OR q).trans (k6.mono fun t q=>by rw[q];rfl)),N6⟩
 rcases q with rfl|rfl|rfl<;>rfl
end Go.Proofs.YtkfhncfkagcamaaGreatDoor
