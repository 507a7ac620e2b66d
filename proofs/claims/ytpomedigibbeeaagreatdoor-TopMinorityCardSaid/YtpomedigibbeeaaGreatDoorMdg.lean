/- What a leader does of its own. -/
import Derived.Test.YtpomedigibbeeaaGreatDoorMoy
namespace Go.Proofs.YtpomedigibbeeaaGreatDoor
open Go Go.V
set_option linter.unusedSimpArgs false
set_option linter.unusedVariables false
set_option maxRecDepth 100000
theorem JV {α:Type} (f:Nat→List α) (m:Nat):(List.range (m+1)).flatMap f=(List.range m).flatMap f++f m:=by
 rw[List.range_succ,List.flatMap_append];simp
theorem US {α:Type} (f:Nat→List α) (k m:Nat) (h:∀i,(f i).length≤k):((List.range m).flatMap f).length≤m*k:=by
 induction m with
 | zero=>simp
 | succ m ih=>rw[JV,List.length_append,Nat.add_mul];have:=h m;omega
theorem fP {n n':Nd} (hk:n.known=n'.known) (r:Qd) (x:Cm):∀k s,Ue n r x k s=Ue n' r x k s:=by
 intro k
 induction k with
 | zero=>intro s;rfl
 | succ k ih=>intro s;unfold Ue;rw[hk,ih]
theorem GH {n n':Nd} (hk:n.known=n'.known) (hl:n.log=n'.log) (r:Qd) (x:Cm):free n r x=free n' r x:=by
 unfold free;rw[hl,fP hk]
theorem mV {n n':Nd} (hk:n.known=n'.known) (hl:n.log=n'.log) (r:Qd) (x:Cm):Vn n r x=Vn n' r x:=by
 unfold Vn;rw[GH hk hl]
theorem Al {n n':Nd} (hk:n.known=n'.known) (hl:n.log=n'.log):∀(l:List Cm) (r:Qd),Jz n r l=Jz n' r l:=by
 intro l
 induction l with
 | nil=>intro r;rfl
 | cons x l ih=>intro r;show Jz n (Vn n r x) l=Jz n' (Vn n' r x) l;rw[mV hk hl,ih]
theorem fQ {n n':Nd} (hk:n.known=n'.known) (LL:List (List Vt)):QI n LL=QI n' LL:=by
 funext pr s;unfold QI;rw[hk]
theorem fR {n n':Nd} (hk:n.known=n'.known) (hl:n.log=n'.log) (r:Qd):TT n r=TT n' r:=by
 unfold TT;rw[hl,fQ hk]
theorem sF {n n':Nd} (hk:n.known=n'.known) (hm:n.me=n'.me) (r:Qd):WJ n r=WJ n' r:=by
 funext s;unfold WJ PD;rw[hk,hm]
theorem mW {n n':Nd} (hk:n.known=n'.known) (hm:n.me=n'.me) (r:Qd):LV n r=LV n' r:=by
 unfold LV;rw[sF hk hm]
set_option maxHeartbeats 4000000 in
theorem sH (T:World) (h:Hp) (o:Ow) (wb i nb:Nat) (Z4:Nat→Nat) (a:NA) (n:Nd) (ra:RA) (r:Qd) (Yy:WA) (fl:List YY) (bad:Nat→Int) (told:List TS) (d:Q3 o h)
  (N:ZH o h wb i nb { a with Zi:=some ra } { n with Zi:=some r }) (W:ZE o h wb Z4 Yy fl bad told) (tb:DT o h) (Yk:fl.length≤900000000000) (lX:n.own.l.length≤1000000) (lD:n.data.length≤1000000)
  (hp:∀x∈r.prom,x.2.length≤1000000) (hs:∀x∈r.prom,∀v∈x.2,v.slot≤1000000) (ME:r.prom.length≤1000000000000) (hl:n.log.length≤1000000000000) (hq:n.queue.length≤1000000000000) :
  Zc Tryz.prog T 101 #[Zn wb,Zn nb,Zn ra.rb] h fun v' h'=>∃o' a' Xl,Kp (Xu i) o h o' h'∧ZH o' h' wb i nb a' (JU { n with Zi:=some r } r).n∧ZE o' h' wb Z4 Xl (fl++(JU { n with Zi:=some r } r).ls) bad told:=by
 refine Zc.Zh (args:=[_,_,_]) Tryz.func101 rfl rfl rfl rfl ?_
 obtain⟨h1,Yv⟩:=Zy ((h.push (.cells [Zn nb].toArray 98)).push (.cells [Zn ra.rb].toArray 106):Hp)
 have k1:Kp Qe o h o h1:=by rw[Yv];exact ((Kp.refl d _).push _).push _
 have x4:ZK o h1 h.size (.cells [Zn nb].toArray 98):=⟨d _ (Nat.le_refl _),by rw[Yv];exact fI _ _ _⟩
 have x5:ZK o h1 (h.size+1) (.cells [Zn ra.rb].toArray 106):=⟨d _ (by omega),by rw[Yv];exact hQ _ _ _⟩
 have e0:=Yv.symm
 unfold Zn at e0 ⊢
 have N1:=N.still k1
 have W1:=W.still k1
 have R1:YA o i h1 ra r:=N1.pt.Zi
 obtain⟨q0,q2,q3,q4,q5⟩:=R1.rr
 have P1:=Zx N1.ZD.2 N1.pt.store.len
 have l4:=Za x4.2
 have l5:=Za x5.2
 have DW:=Za R1.ZD.2
 have Jv:=Za N1.ZD.2
 have r4:hc h1 ⟨h.size,0,none⟩=some (Zn nb):=Zg x4.2
 have r5:hc h1 ⟨h.size+1,0,none⟩=some (Zn ra.rb):=Zg x5.2
 unfold Zn at r4 r5
 have sI:rd h1 ⟨nb,4,none⟩ 2=some (X1 n.own.p):=P1.EY
 simp -implicitDefEqProofs only[go_sem,↓reduceIte,e0]
 refine VS.mono (N:=fun F' g'=>Zf h1.size h1 g'∧F' 0=.pointer (some ⟨wb,0,none⟩)∧F' 4=.pointer (some ⟨h.size,0,none⟩)∧F' 5=.pointer (some ⟨h.size+1,0,none⟩)∧F' 35=.bool (decide (below n.own.p r.b))) ?_ ?_ (fun _ _ _ h=>h) (fun _ _ h=>h)
 ·refine VS.z (h1.size) [9] (.q 0 (.p 1 (.p 2 (.q 3 (.q 4 (.p 5 (.p 6 (.p 7 (.q 8 (.w 9 .nil)))))))))) mixed (by kernel_rfl) ?_
  simp -implicitDefEqProofs only[go_sem,↓reduceIte,r4,r5,q0,sI,l4,l5,DW,Jv]
  refine (PM T h1 r.b n.own.p).use ?_
  rintro _ g ⟨rfl,b⟩
  simp -implicitDefEqProofs only[go_sem,↓reduceIte,b]
 rintro F1 g1 ⟨b1,f0,f4,f5,f35⟩
 have kb:=ZB k1.ZU b1
 replace N1:=N1.still kb
 replace W1:=W1.still kb
 replace k1:=k1.trans kb
 replace x4:=x4.Zd kb
 replace x5:=x5.Zd kb
 have tb1:=tb.Zd k1
 clear R1 q0 q2 q3 q4 q5 P1 sI l4 l5 DW Jv r4 r5 e0
 have R1:YA o i g1 ra r:=N1.pt.Zi
 obtain⟨q0,q2,q3,q4,q5⟩:=R1.rr
 have P1:=Zx N1.ZD.2 N1.pt.store.len
 have l4:=Za x4.2
 have l5:=Za x5.2
 have DW:=Za R1.ZD.2
 have Jv:=Za N1.ZD.2
 have r4:hc g1 ⟨h.size,0,none⟩=some (Zn nb):=Zg x4.2
 have r5:hc g1 ⟨h.size+1,0,none⟩=some (Zn ra.rb):=Zg x5.2
 unfold Zn at r4 r5
 by_cases c1:below n.own.p r.b
 ·have mX:=P1.own
  obtain⟨pv,cv,hU⟩:=N1.pt.YD.isSlice
  have hU:a.YD=.slice pv n.own.l.length cv:=hU
  have mX:rd g1 ⟨nb,4,none⟩ 3=some [.int .i64 n.own.p.r,.int .i64 n.own.p.n,.slice pv n.own.l.length cv]:=by rw[←hU];exact mX
  have N1v:UZ o g1 (.slice pv n.own.l.length cv) n.own.l:=by rw[←hU];exact N1.pt.YD
  unfold X1 at q0
  have call:∀G,Zf g1.size g1 G→Zc Tryz.prog T 103 #[.agg #[.int .i64 n.own.p.r,.int .i64 n.own.p.n,.slice pv n.own.l.length cv],.agg #[.int .i64 r.b.r,.int .i64 r.b.n]] G fun v' h'=>Eb G.size h' v' n.own.p n.own.l r.b∧Zf G.size G h':=fun G hG=>
   VJ T G n.own.p _ n.own.l r.b (N1v.ts.Z7 hG) (by omega)
  obtain⟨E,hE⟩:=Zy (Yu n.own.p n.own.l r.b)
  have wA:∀(G:Hp) (k:Nat) (r m:Int) (p:Option Addr) (L c:Nat),G[k]? = some (.cells [.int .i64 0,.int .i64 0,.slice none 0 0].toArray 105)→wr G ⟨k,0,none⟩ [.int .i64 r,.int .i64 m,.slice p L c]=some (G.setIfInBounds k (.cells [.int .i64 r,.int .i64 m,.slice p L c].toArray 105)):=fun G k r m p L c hx=>by
   rw[ZP hx 0 _];rfl
  have wB:∀(G:Hp) (k:Nat) (p:Option Addr) (L c:Nat),G[k]? = some (.cells [.slice none 0 0].toArray 103)→Jg G ⟨k,0,none⟩ (.slice p L c)=some (G.setIfInBounds k (.cells [.slice p L c].toArray 103)):=fun G k p L c hx=>by
   rw[Yp hx 0 _];rfl
  simp -implicitDefEqProofs only[go_sem,↓reduceIte,f35,c1]
  refine VS.mono (N:=fun F' g'=>Zf g1.size g1 g'∧F' 4=.pointer (some ⟨h.size,0,none⟩)∧F' 5=.pointer (some ⟨h.size+1,0,none⟩)∧bu g1.size g' (F' 6) (F' 7) n.own.p n.own.l r.b) ?_ ?_ (fun _ _ _ h=>h) (fun _ _ h=>h)
  ·refine VS.z (g1.size) [8,15,16] (.q 0 (.p 1 (.p 2 (.q 3 (.q 4 (.p 5 (.p 6 (.q 7 (.or 8 (.p 9 (.p 10 (.p 11 (.p 12 (.or 13 (.s 14 (.w 15 (.w 16 (.p 17 .nil)))) (.s 14 (.s 13 (.w 15 (.w 16 (.p 17 .nil)))))))))) (.or 13 (.or 8 (.p 9 (.p 10 (.p 11 (.p 12 (.s 14 (.w 15 (.w 16 (.p 17 .nil)))))))) (.s 14 (.w 8 (.p 9 (.p 10 (.p 11 (.p 12 (.w 15 (.w 16 (.p 17 .nil)))))))))) (.s 14 (.or 8 (.p 9 (.p 10 (.p 11 (.p 12 (.s 13 (.w 15 (.w 16 (.p 17 .nil)))))))) (.s 13 (.w 8 (.p 9 (.p 10 (.p 11 (.p 12 (.w 15 (.w 16 (.p 17 .nil))))))))))))))))))))) mixed (by kernel_rfl) ?_
   simp -implicitDefEqProofs only[go_sem,↓reduceIte,f4,f5,r4,r5,mX,q0,Jv,DW,l4,l5]
   unfold bu Zn YB
   repeat' (first|with_reducible exact Zf.refl _ _|with_reducible exact Zf.push (by omega) _|with_reducible refine And.intro ?_ ?_)
   all_goals first
    | (refine (call g1 (Zf.refl _ _)).use ?_
       rintro _ g5 ⟨⟨w1,w2,rfl,o1,o2⟩,b5⟩
       obtain⟨p1,c1,rfl,_⟩:=o1.open
       obtain⟨p2,c2,rfl,_⟩:=o2.open
       rw[←hE]at *
       have s5:=b5.size
       unfold YB
       simp -implicitDefEqProofs only[go_sem,↓reduceIte,b5]
       refine⟨⟨f4,f5,_,_,_,_,rfl,rfl,s5,by omega,fI _ _ _,hQ _ _ _,(o1.push _).push _,(o2.push _).push _⟩,⟨f4,f5,_,_,_,_,rfl,rfl,by omega,s5,hQ _ _ _,fI _ _ _,(o1.push _).push _,(o2.push _).push _⟩⟩)
    | (refine (call (g1.push (.cells _ 105)) (Zf.push (Nat.le_refl _) _)).use ?_
       rintro _ g5 ⟨⟨w1,w2,rfl,o1,o2⟩,b5⟩
       obtain⟨p1,c1,rfl,_⟩:=o1.open
       obtain⟨p2,c2,rfl,_⟩:=o2.open
       rw[←hE]at *
       have s5:=b5.size
       rw[Array.size_push]at s5
       have B5:Zf g1.size g1 g5:=(Zf.push (Nat.le_refl _) _).trans (b5.mono (by simp))
       have xA:=b5.get (k:=g1.size) (by simp) Zb
       have V3:=wA _ _ (if E=0 then r.b else ⟨0,0⟩).r (if E=0 then r.b else ⟨0,0⟩).n p1 (if E=0 then n.own.l else []).length c1 xA
       have zA:=Za xA
       unfold YB
       simp -implicitDefEqProofs only[go_sem,↓reduceIte,B5,V3,zA]
       exact⟨f4,f5,_,_,_,_,rfl,rfl,Nat.le_refl _,by omega,by rw[Zq (by simpa using zA)];exact Zt xA,gs2 _ _ _ _,((o1.ZR (by simp) _).push _).mono (by simp),((o2.ZR (by simp) _).push _).mono (by simp)⟩)
    | (refine (call (g1.push (.cells _ 103)) (Zf.push (Nat.le_refl _) _)).use ?_
       rintro _ g5 ⟨⟨w1,w2,rfl,o1,o2⟩,b5⟩
       obtain⟨p1,c1,rfl,_⟩:=o1.open
       obtain⟨p2,c2,rfl,_⟩:=o2.open
       rw[←hE]at *
       have s5:=b5.size
       rw[Array.size_push]at s5
       have B5:Zf g1.size g1 g5:=(Zf.push (Nat.le_refl _) _).trans (b5.mono (by simp))
       have xB:=b5.get (k:=g1.size) (by simp) Zb
       have L6:=wB _ _ p2 (if E=0 then n.own.l else []).length c2 xB
       have zB:=Za xB
       unfold YB
       simp -implicitDefEqProofs only[go_sem,↓reduceIte,B5,L6,zB]
       exact⟨f4,f5,_,_,_,_,rfl,rfl,by omega,Nat.le_refl _,gs2 _ _ _ _,by rw[Zq (by simpa using zB)];exact Zt xB,((o1.ZR (by simp) _).push _).mono (by simp),((o2.ZR (by simp) _).push _).mono (by simp)⟩)
    | (refine (call ((g1.push (.cells _ 105)).push (.cells _ 103)) ((Zf.push (Nat.le_refl _) _).Yf (by simp) _)).use ?_
       rintro _ g5 ⟨⟨w1,w2,rfl,o1,o2⟩,b5⟩
       obtain⟨p1,c1,rfl,_⟩:=o1.open
       obtain⟨p2,c2,rfl,_⟩:=o2.open
       rw[←hE]at *
       have s5:=b5.size
       rw[Array.size_push,Array.size_push]at s5
       have B5:Zf g1.size g1 g5:=((Zf.push (Nat.le_refl _) _).Yf (by simp) _).trans (b5.mono (by simp;omega))
       have xA:=b5.get (k:=g1.size) (by simp;omega) (fI _ _ _)
       have xB:=b5.get (k:=g1.size+1) (by simp) (hQ _ _ _)
       have V3:=wA _ _ (if E=0 then r.b else ⟨0,0⟩).r (if E=0 then r.b else ⟨0,0⟩).n p1 (if E=0 then n.own.l else []).length c1 xA
       have zA:=Za xA
       have OF:=fun o:Obj=>(Yg (o:=o) (show g1.size≠g1.size+1 by omega)).trans xB
       have L6:=fun o:Obj=>wB _ _ p2 (if E=0 then n.own.l else []).length c2 (OF o)
       have zB:g1.size+1<g5.size:=Za xB
       unfold YB
       simp -implicitDefEqProofs only[go_sem,↓reduceIte,B5,V3,zA,L6,zB]
       exact⟨f4,f5,_,_,_,_,rfl,rfl,by omega,by omega,(Yg (by omega)).trans (Zt xA),Zt (OF _),((o1.ZR (by simp;omega) _).ZR (by simp) _).mono (by simp;omega),((o2.ZR (by simp;omega) _).ZR (by simp) _).mono (by simp;omega)⟩)
    | (refine (call ((g1.push (.cells _ 103)).push (.cells _ 105)) ((Zf.push (Nat.le_refl _) _).Yf (by simp) _)).use ?_
       rintro _ g5 ⟨⟨w1,w2,rfl,o1,o2⟩,b5⟩
       obtain⟨p1,c1,rfl,_⟩:=o1.open
       obtain⟨p2,c2,rfl,_⟩:=o2.open
       rw[←hE]at *
       have s5:=b5.size
       rw[Array.size_push,Array.size_push]at s5
       have B5:Zf g1.size g1 g5:=((Zf.push (Nat.le_refl _) _).Yf (by simp) _).trans (b5.mono (by simp;omega))
       have xB:=b5.get (k:=g1.size) (by simp;omega) (fI _ _ _)
       have xA:=b5.get (k:=g1.size+1) (by simp) (hQ _ _ _)
       have V3:=wA _ _ (if E=0 then r.b else ⟨0,0⟩).r (if E=0 then r.b else ⟨0,0⟩).n p1 (if E=0 then n.own.l else []).length c1 xA
       have zA:=Za xA
       have OF:=fun o:Obj=>(Yg (o:=o) (show g1.size+1≠g1.size by omega)).trans xB
       have L6:=fun o:Obj=>wB _ _ p2 (if E=0 then n.own.l else []).length c2 (OF o)
       have zB:g1.size<g5.size:=Za xB
       unfold YB
       simp -implicitDefEqProofs only[go_sem,↓reduceIte,B5,V3,zA,L6,zB]
       exact⟨f4,f5,_,_,_,_,rfl,rfl,by omega,by omega,(Yg (by omega)).trans (Zt xA),Zt (OF _),((o1.ZR (by simp) _).ZR (by simp;omega) _).mono (by simp;omega),((o2.ZR (by simp) _).ZR (by simp;omega) _).mono (by simp;omega)⟩)
  rintro F2 g2 ⟨b2,f4,f5,ka,kc,w1,w2,fA,fC,ge1,ge2,yA,yC,o1,o2⟩
  rw[←hE]at yA o1 o2
  obtain⟨A,hA⟩:∃A:WT,A=if E=0 then ⟨r.b,n.own.l⟩ else Qp:=⟨_,rfl⟩
  obtain⟨V,hV⟩:∃V:List Vt,V=if E=0 then n.own.l else []:=⟨_,rfl⟩
  have hAp:(if E=0 then r.b else ⟨0,0⟩)=A.p:=by rw[hA];split<;>rfl
  have hAl:(if E=0 then n.own.l else [])=A.l:=by rw[hA];split<;>rfl
  have hVl:(if E=0 then n.own.l else [])=V:=hV.symm
  rw[hAp]at yA
  rw[hAl]at o1
  rw[hVl]at o2
  have Sx:=ZB k1.ZU b2
  have N2:=N1.still Sx
  have W2:=W1.still Sx
  have K2:=k1.trans Sx
  have z4:=x4.Zd Sx
  have z5:=x5.Zd Sx
  have CY:=tb1.Zd Sx
  have R2:YA o i g2 ra r:=N2.pt.Zi
  obtain⟨u0,_,_,_,_⟩:=R2.rr
  unfold X1 at u0
  have iv7:UZ o g2 w2 V:=Im.QK o2.own (fun b hb=>k1.ZU b hb)
  have iv6:UZ o g2 w1 A.l:=Im.QK o1.own (fun b hb=>k1.ZU b hb)
  have z6:ZK o g2 ka _:=⟨k1.ZU ka ge1,yA⟩
  have z7:ZK o g2 kc _:=⟨k1.ZU kc ge2,yC⟩
  have P2:=Zx N2.ZD.2 N2.pt.store.len
  have m4:=Za z4.2
  have m5:=Za z5.2
  have mr:=Za R2.ZD.2
  have JA:=Za N2.ZD.2
  have s4:hc g2 ⟨h.size,0,none⟩=some (Zn nb):=Zg z4.2
  have s5:hc g2 ⟨h.size+1,0,none⟩=some (Zn ra.rb):=Zg z5.2
  unfold Zn at s4 s5 fA fC
  have mM:=P2.tape
  obtain⟨pd,cd,PZ⟩:=N2.pt.data.1.isSlice
  have PZ:a.data=.slice pd n.data.length cd:=PZ
  have mM:rd g2 ⟨nb,2,none⟩ 2=some [.slice pd n.data.length cd,.int .i64 n.Xq]:=by rw[←PZ];exact mM
  have N2d:VT o g2 (.slice pd n.data.length cd) n.data:=by rw[←PZ];exact N2.pt.data
  obtain⟨E2,fJ⟩:=Zy (Qn n.data n.Xq r.b)
  have call2:∀G,Zf g2.size g2 G→Zc Tryz.prog T 111 #[.agg #[.slice pd n.data.length cd,.int .i64 n.Xq],.agg #[.int .i64 r.b.r,.int .i64 r.b.n]] G fun v' h'=>VM G.size h' v' n.data n.Xq E2 (Y0 (Qo r.b))∧Zf G.size G h':=fun G hG=>by
   rw[fJ]
   exact Nr T G _ n.Xq n.data r.b (N2d.bs.Z7 hG) (by omega) (CY.tk.X9 hG)
  have wT:∀(G:Hp) (k:Nat) (m:Int) (p:Option Addr) (L c:Nat),G[k]? = some (.cells [.slice none 0 0,.int .i64 0].toArray 100)→wr G ⟨k,0,none⟩ [.slice p L c,.int .i64 m]=some (G.setIfInBounds k (.cells [.slice p L c,.int .i64 m].toArray 100)):=fun G k m p L c hx=>by
   rw[ZP hx 0 _];rfl
  refine VS.mono (N:=fun F' g'=>Zf g2.size g2 g'∧F' 4=.pointer (some ⟨h.size,0,none⟩)∧F' 5=.pointer (some ⟨h.size+1,0,none⟩)∧F' 6=.pointer (some ⟨ka,0,none⟩)∧F' 7=.pointer (some ⟨kc,0,none⟩)∧F' 10=.int .i64 E2∧Ha g2.size g' (F' 9) n.data n.Xq E2 (Y0 (Qo r.b))) ?_ ?_ (fun _ _ _ h=>h) (fun _ _ h=>h)
  ·refine VS.z (g2.size) [8,13] (.q 0 (.p 1 (.p 2 (.q 3 (.q 4 (.p 5 (.p 6 (.q 7 (.or 8 (.p 9 (.p 10 (.p 11 (.s 12 (.w 13 (.p 14 .nil)))))) (.s 12 (.w 8 (.p 9 (.p 10 (.p 11 (.w 13 (.p 14 .nil)))))))))))))))) mixed (by kernel_rfl) ?_
   simp -implicitDefEqProofs only[go_sem,↓reduceIte,f4,f5,fA,fC,s4,s5,mM,u0,m4,m5,mr,JA]
   unfold Ha
   repeat' (first|with_reducible exact Zf.refl _ _|with_reducible exact Zf.push (by omega) _|with_reducible refine And.intro ?_ ?_)
   all_goals first
    | (refine (call2 g2 (Zf.refl _ _)).use ?_
       rintro _ g5 ⟨⟨w,rfl,o1⟩,b5⟩
       obtain⟨p1,c1,rfl,_⟩:=o1.bs.open
       have s5:=b5.size
       simp -implicitDefEqProofs only[go_sem,↓reduceIte,b5]
       exact⟨f4,f5,fA,fC,_,_,rfl,s5,Zb,o1.push _⟩)
    | (refine (call2 (g2.push (.cells _ 100)) (Zf.push (Nat.le_refl _) _)).use ?_
       rintro _ g5 ⟨⟨w,rfl,o1⟩,b5⟩
       obtain⟨p1,c1,rfl,_⟩:=o1.bs.open
       have B5:Zf g2.size g2 g5:=(Zf.push (Nat.le_refl _) _).trans (b5.mono (by simp))
       have xA:=b5.get (k:=g2.size) (by simp) Zb
       have V3:=wT _ _ (if E2=0 then n.Xq else 0) p1 (if E2=0 then n.data++Y0 (Qo r.b) else []).length c1 xA
       have zA:=Za xA
       simp -implicitDefEqProofs only[go_sem,↓reduceIte,B5,V3,zA]
       exact⟨f4,f5,fA,fC,_,_,rfl,Nat.le_refl _,Zt xA,(o1.ZR (by simp) _).mono (by simp)⟩)
  rintro F3 g3 ⟨b3,f4,f5,f6,f7,f10,kt,wt,fT,ge3,yT,oT⟩
  have U0:=ZB K2.ZU b3
  have N4:=N2.still U0
  have W4:=W2.still U0
  have K4:Kp Qe o h o g3:=K2.Z7 b3
  by_cases e2:E2=0
  case neg=>
   have eP:JU { n with Zi:=some r } r=⟨{ n with Zi:=some r },[],[]⟩:=by unfold JU;rw[if_pos c1,if_pos (by rw[←fJ];exact e2)]
   rw[eP,List.append_nil]
   simp -implicitDefEqProofs only[go_sem,↓reduceIte,f10,e2]
   exact⟨o,_,Yy,ZC K4,N4,W4⟩
  rw[if_pos e2]at yT oT
  have u4:=z4.Zd U0
  have u5:=z5.Zd U0
  have u6:=z6.Zd U0
  have u7:=z7.Zd U0
  have iu6:=iv6.Zd U0
  have iu7:=iv7.Zd U0
  have iT:VT o g3 wt (n.data++Y0 (Qo r.b)):=⟨Im.QK oT.own (fun b hb=>K2.ZU b hb),oT.byte⟩
  have eP:JU { n with Zi:=some r } r=⟨{ n with Zi:=some r,data:=n.data++Y0 (Qo r.b),ZQ:=some (.own A V true) },[],[]⟩:=by
   unfold JU
   rw[if_pos c1,if_neg (by rw[←fJ];simpa using e2),hA,hV,hE]
  rw[eP,List.append_nil]
  obtain⟨pt,ct,rfl,_⟩:=oT.bs.open
  have v4:hc g3 ⟨h.size,0,none⟩=some (Zn nb):=Zg u4.2
  have vT:rd g3 ⟨kt,0,none⟩ 2=some [.slice pt (n.data++Y0 (Qo r.b)).length ct,.int .i64 n.Xq]:=Zo yT rfl
  have NX:=Za N4.ZD.2
  obtain⟨g4,w4,N5,k5⟩:=ZT.write (a:={ a with Zi:=some ra,data:=.slice pt (n.data++Y0 (Qo r.b)).length ct }) (n:={ n with Zi:=some r,data:=n.data++Y0 (Qo r.b) }) { N4.pt with data:=iT } K4.ZU N4.ZD ((YI N4.ZD.2 N4.pt.store.len).tape (.slice pt (n.data++Y0 (Qo r.b)).length ct) n.Xq rfl)
  have v4':hc g4 ⟨h.size,0,none⟩=some (Zn nb):=Zg (u4.Zd k5).2
  have Rm:=Za N5.ZD.2
  have pn:Q2 o g4 wb i nb (some ra) (U6 119 [ka,h.size,kc,h.size+1]) (some (.own A V true)):=
   ⟨ka,h.size,kc,h.size+1,w2,ra.rb,rfl,⟨_,u6.Zd k5,iu6.Zd k5⟩,u4.Zd k5,u7.Zd k5,iu7.Zd k5,u5.Zd k5,by rw[if_pos rfl];exact⟨ra,rfl,rfl⟩⟩
  obtain⟨g6,w6,N6,k6⟩:=ZT.write (a:={ a with Zi:=some ra,data:=.slice pt (n.data++Y0 (Qo r.b)).length ct,ZQ:=U6 119 [ka,h.size,kc,h.size+1] }) (n:={ n with Zi:=some r,data:=n.data++Y0 (Qo r.b),ZQ:=some (.own A V true) }) { N5.pt with ZQ:=pn } k5.ZU N5.ZD ((YI N5.ZD.2 N5.pt.store.len).ZQ (U6 119 [ka,h.size,kc,h.size+1]) rfl)
  unfold U6 at w6
  simp only[List.map]at w6
  unfold Zn at v4 v4' w6
  simp -implicitDefEqProofs only[go_sem,↓reduceIte,f10,e2,f4,f5,f6,f7,fT,v4,vT,w4,NX,v4',w6,Rm]
  have K6:Kp (Xu i) o h o g6:=((ZC K4).trans (k5.mono fun t q=>.inr (.inr (.inr (by rw[q];rfl))))).trans (k6.mono fun t q=>.inr (.inr (.inr (by rw[q];rfl))))
  exact⟨o,_,Yy,K6,N6,(W4.Zd k5 (by rintro t rfl;simp[Tg.of])).Zd k6 (by rintro t rfl;simp[Tg.of])⟩
 by_cases c2:5<2*r.prom.length
 case neg=>
  have eP:JU { n with Zi:=some r } r=⟨{ n with Zi:=some r },Rj n r,[]⟩:=by unfold JU;rw[if_neg c1,if_pos c2];rfl
  rw[eP]
  have lm:=fun (K:Value→Hp→Prop) (cs:Array Bool) (ty:TypeId)=>VC (T:=T) (K:=K) (ty:=ty) (cs:=cs) Nw R1.prom.2
  rw[R1.TV.length]at lm
  simp -implicitDefEqProofs only[go_sem,↓reduceIte,f0,f4,f5,f35,c1,r4,r5,q2,lm]
  refine (Mr T g1 r.prom.length ME).use ?_
  rintro _ _ ⟨rfl,rfl⟩
  simp -implicitDefEqProofs only[go_sem,↓reduceIte,c2,f0,f4,f5]
  obtain⟨pf,hpf⟩:∃pf:Nat→List YY,pf=fun (m:Nat)=>if Y9 r.prom (m:Int)=none then [⟨0,n.me,m,r.b,Tm,[]⟩] else []:=⟨_,rfl⟩
  have Zer:Rj n r=(List.range 5).flatMap pf:=by rw[hpf];rfl
  have Zm9:∀m,(pf m).length≤1:=fun m=>by rw[hpf];simp only;split<;>simp
  rw[Zer]
  clear r4 r5 q0 q2 q3 q4 q5 l4 l5 DW Jv P1 R1 lm Zer
  refine VS.ZV (fun F g=>F 0=.pointer (some ⟨wb,0,none⟩)∧F 4=.pointer (some ⟨h.size,0,none⟩)∧F 5=.pointer (some ⟨h.size+1,0,none⟩)∧∃(m:Nat) (o':Ow) (Xl:WA),m≤5∧F 78=.int .i64 m∧Kp aW o h o' g∧ZH o' g wb i nb { a with Zi:=some ra } { n with Zi:=some r }∧ZE o' g wb Z4 Xl (fl++(List.range m).flatMap pf) bad told∧ZK o' g h.size (.cells [Zn nb].toArray 98)∧ZK o' g (h.size+1) (.cells [Zn ra.rb].toArray 106))
   (fun F _=>5-(vi (F 78)).toNat) rfl ⟨f0,f4,f5,0,o,Yy,by omega,rfl,ZC k1,N1,by simpa using W1,x4,x5⟩ ?_
  rintro F2 g2 ⟨f0,f4,f5,m,o2,WA2,hm,f78,K2,N2,W2,x4,x5⟩
  by_cases ZA:m<5
  ·have ZI:(m:Int)<5:=by omega
   have R2:YA o2 i g2 ra r:=N2.pt.Zi
   obtain⟨q0,q2,q3,q4,q5⟩:=R2.rr
   have P2:=Zx N2.ZD.2 N2.pt.store.len
   have l4:=Za x4.2
   have l5:=Za x5.2
   have DW:=Za R2.ZD.2
   have JA:=Za N2.ZD.2
   have r4:hc g2 ⟨h.size,0,none⟩=some (Zn nb):=Zg x4.2
   have r5:hc g2 ⟨h.size+1,0,none⟩=some (Zn ra.rb):=Zg x5.2
   unfold Zn at r4 r5
   unfold X1 at q0
   have lk:=fun (K:Value→Hp→Prop)=>Yn (K:=K) (n:=(m:Int)) (c:=true) Nw mB R2.prom.2
   have hpm:pf m=if Y9 r.prom (m:Int)=none then [⟨0,n.me,m,r.b,Tm,[]⟩] else []:=by rw[hpf]
   rcases R2.TV.Y9 (m:Int) with⟨z1,z2⟩|⟨w,vs,z1,z2,iv⟩
   ·rw[if_pos z2]at hpm
    simp only[z1,Option.getD_none,Option.isSome_none,↓reduceIte]at lk
    simp -implicitDefEqProofs only[go_sem,↓reduceIte,f0,f4,f5,f78,ZI,r5,q2,lk]
    refine VS.z (g2.size) [8] (.p 0 (.q 1 (.p 2 (.q 3 (.p 4 (.p 5 (.q 6 (.p 7 (.w 8 .nil))))))))) mixed (by kernel_rfl) ?_
    simp -implicitDefEqProofs only[go_sem,↓reduceIte,f0,f4,f5,f78,r4,r5,q0,l4,l5,DW]
    have rl:(fl++(List.range m).flatMap pf).length≤1000000000000:=by
     have:=US pf 1 m Zm9
     rw[List.length_append];omega
    refine (Uv T g2 o2 wb nb Z4 n.me WA2 _ bad told (m:Int) ⟨0,0,0,r.b,Tm,[]⟩ (.slice none 0 0) K2.ZU W2 P2.me JA (Im.nil _ _ _ _) rl).use ?_
    rintro v' g3 ⟨o3,oK,k3,_,W3⟩
    simp -implicitDefEqProofs only[go_sem,↓reduceIte,f78]
    unfold Y6
    refine⟨⟨f0,f4,f5,m+1,o3,oK,ZA,rfl,K2.trans k3,N2.Zd k3 (by rintro t (rfl|rfl)<;>simp[Tg.of]),by rw[JV,hpm,←List.append_assoc];exact W3,x4.Zd k3,x5.Zd k3⟩,?_⟩
    simp only[vi,Zj,↓reduceIte,f78];omega
   ·rw[if_neg (by rw[z2];simp)]at hpm
    obtain⟨pw,cw,rfl⟩:=iv.isSlice
    simp only[z1,Option.getD_some,Option.isSome_some,↓reduceIte]at lk
    simp -implicitDefEqProofs only[go_sem,↓reduceIte,f0,f4,f5,f78,ZI,r5,q2,lk]
    unfold Y6
    refine⟨⟨f0,f4,f5,m+1,o2,WA2,ZA,rfl,K2,N2,by rw[JV,hpm,List.append_nil];exact W2,x4,x5⟩,?_⟩
    simp only[vi,Zj,↓reduceIte,f78];omega
  ·have YF:¬(m:Int)<5:=by omega
   obtain rfl:m=5:=by omega
   simp -implicitDefEqProofs only[go_sem,↓reduceIte,f78,YF]
   exact⟨o2,_,WA2,K2.mono (fun t q=>by rcases q with rfl|rfl<;>simp[Xu]),N2,W2⟩
 have lm:=fun (K:Value→Hp→Prop) (cs:Array Bool) (ty:TypeId)=>VC (T:=T) (K:=K) (ty:=ty) (cs:=cs) Nw R1.prom.2
 rw[R1.TV.length]at lm
 obtain⟨r1,gS⟩:=Zy (if r.begun=true then r else TT n r)
 have eP:JU { n with Zi:=some r } r=⟨{ n with Zi:=some (Jz n r1 n.queue) },LV n (Jz n r1 n.queue),[]⟩:=by
  unfold JU
  rw[if_neg c1,if_neg (by simpa using c2)]
  have e1:LW { n with Zi:=some r } r=Jz n r1 n.queue:=by
   unfold LW
   rw[gS,fR (n:={ n with Zi:=some r }) (n':=n) rfl rfl,Al (n:={ n with Zi:=some r }) (n':=n) rfl rfl]
  rw[e1,mW (n:={ n with Zi:=some r }) (n':=n) rfl rfl]
 rw[eP]
 simp -implicitDefEqProofs only[go_sem,↓reduceIte,f0,f4,f5,f35,c1,r4,r5,q2,lm]
 refine (Mr T g1 r.prom.length ME).use ?_
 rintro _ g' ⟨rfl,Es⟩
 rw[Es]
 cases cb:r.begun
 all_goals
 first
 | (rw[cb,if_neg (by simp)]at gS
    rw[cb]at q3
    simp -implicitDefEqProofs only[go_sem,↓reduceIte,c2,f0,f4,f5,r4,r5,q3]
    refine (mU T g1 o wb i nb a n ra r k1.ZU N1 hp hs hl).use ?_
    rintro v' g2 ⟨yO,Ad,kx,N3⟩
    rw[←gS]at N3
    have kx':Kp (Xu i) o g1 o g2:=kx.mono fun t q=>.inr (.inr (.inr (OD q)))
    have W3:=W1.Zd kx (by intro t q;rw[OD q];simp)
    have y4:=x4.Zd kx
    have y5:=x5.Zd kx
    have K3:Kp (Xu i) o h o g2:=(ZC k1).trans kx')
 | (rw[cb,if_pos rfl]at gS
    rw[cb]at q3
    simp -implicitDefEqProofs only[go_sem,↓reduceIte,c2,f0,f4,f5,r4,r5,q3]
    obtain⟨g2,Qt⟩:=Zy (g1)
    obtain⟨yO,fH⟩:=Zy (ra)
    have Ad:yO.rb=ra.rb:=by rw[fH]
    have N3:ZH o g2 wb i nb { a with Zi:=some yO } { n with Zi:=some r1 }:=by rw[fH,gS,Qt];exact N1
    have W3:ZE o g2 wb Z4 Yy fl bad told:=by rw[Qt];exact W1
    have y4:ZK o g2 h.size (.cells [Zn nb].toArray 98):=by rw[Qt];exact x4
    have y5:ZK o g2 (h.size+1) (.cells [Zn ra.rb].toArray 106):=by rw[Qt];exact x5
    have K3:Kp (Xu i) o h o g2:=by rw[Qt];exact ZC k1
    rw[←Qt])
 all_goals
  clear r4 r5 q0 q2 q3 q4 q5 l4 l5 DW Jv P1 R1 lm
  have P3:=Zx N3.ZD.2 N3.pt.store.len
  obtain⟨pq,cq,sJ,_⟩:=Ys.isSlice N3.pt.queue
  have sJ:a.queue=.slice pq n.queue.length cq:=sJ
  have P3q:hc g2 ⟨nb,52,none⟩=some (.slice pq n.queue.length cq):=by rw[←sJ];exact P3.queue
  have r4:hc g2 ⟨h.size,0,none⟩=some (Zn nb):=Zg y4.2
  have r5:hc g2 ⟨h.size+1,0,none⟩=some (Zn ra.rb):=Zg y5.2
  unfold Zn at r4 r5
  simp -implicitDefEqProofs only[go_sem,↓reduceIte,f0,f4,f5,r4,r5,P3q]
  clear r4 r5 P3q P3
  refine VS.ZV (fun F g=>F 0=.pointer (some ⟨wb,0,none⟩)∧F 4=.pointer (some ⟨h.size,0,none⟩)∧F 5=.pointer (some ⟨h.size+1,0,none⟩)∧F 113=.slice pq n.queue.length cq∧F 114=.int .i64 n.queue.length∧∃(j:Nat) (ra':RA),j≤n.queue.length∧F 115=.int .i64 j∧Kp (Xu i) o h o g∧ra'.rb=ra.rb∧ZH o g wb i nb { a with Zi:=some ra' } { n with Zi:=some (Jz n r1 (n.queue.take j)) }∧ZE o g wb Z4 Yy fl bad told∧ZK o g h.size (.cells [Zn nb].toArray 98)∧ZK o g (h.size+1) (.cells [Zn ra.rb].toArray 106))
   (fun F _=>n.queue.length-(vi (F 115)).toNat) rfl ⟨f0,f4,f5,rfl,rfl,0,yO,by omega,rfl,K3,Ad,N3,W3,y4,y5⟩ ?_
  clear f0 f4 f5 y4 y5 K3 N3 W3 Ad
  rintro F3 g3 ⟨f0,f4,f5,f113,f114,j,ra',hj,f115,K3,Ad,N3,W3,y4,y5⟩
  obtain⟨rj,hrj⟩:=Zy (Jz n r1 (n.queue.take j))
  rw[←hrj]at N3
  have r4:hc g3 ⟨h.size,0,none⟩=some (Zn nb):=Zg y4.2
  have r5:hc g3 ⟨h.size+1,0,none⟩=some (Zn ra.rb):=Zg y5.2
  unfold Zn at r4 r5
  have l4:=Za y4.2
  have l5:=Za y5.2
  by_cases ZA:j<n.queue.length
  ·have ZI:(j:Int)<n.queue.length:=by omega
   obtain⟨pz,cz,H4,Bt⟩:=Ju N3.pt.queue.ts
   obtain⟨bb,oo,ru,UX,PO⟩:=Bt (by intro e;have:n.queue=[]:=e;rw[this]at ZA;simp at ZA)
   have H4:a.queue=.slice pz n.queue.length cz:=H4
   rw[sJ]at H4
   simp only[Value.slice.injEq]at H4
   obtain⟨rfl,_,rfl⟩:=H4
   subst ru
   have re:rd g3 ⟨bb,oo+j*5,none⟩ 5=some (n.queue[j]).C:=PO j ZA
   obtain⟨x,hx⟩:=Zy (n.queue[j])
   rw[←hx]at re
   have YE:Jz n r1 (n.queue.take (j+1))=Vn n rj x:=by
    rw[Ye _ j ZA,←hx,hrj]
    unfold Jz
    rw[List.foldl_append];rfl
   obtain⟨g4,PN⟩:=Zy (g3.push (.cells x.C.toArray 49):Hp)
   have k4:Kp Qe o g3 o g4:=by rw[PN];exact ZW K3.ZU _
   have x4':ZK o g4 g3.size (.cells x.C.toArray 49):=⟨K3.ZU _ (Nat.le_refl _),by rw[PN];exact Zb⟩
   have e4:=PN.symm
   have N4:=N3.still k4
   have R4:YA o i g4 ra' rj:=N4.pt.Zi
   have z4:=y4.Zd k4
   have z5:=y5.Zd k4
   have s4:hc g4 ⟨h.size,0,none⟩=some (Zn nb):=Zg z4.2
   have s5:hc g4 ⟨h.size+1,0,none⟩=some (Zn ra'.rb):=by rw[Ad];exact Zg z5.2
   have sx:rd g4 ⟨g3.size,0,none⟩ 5=some x.C:=Zo x4'.2 rfl
   have cf:=sA T g4 o wb i nb { a with Zi:=some ra' } { n with Zi:=some rj } ra' rj x k4.ZU N4 R4 hl
   rw[show Ul { n with Zi:=some rj } rj x=Ul n rj x from by unfold Ul;rw[GH (n:={ n with Zi:=some rj }) (n':=n) rfl rfl],GH (n:={ n with Zi:=some rj }) (n':=n) rfl rfl]at cf
   unfold Wr Zn at cf
   unfold Zn at s4 s5
   simp -implicitDefEqProofs only[go_sem,↓reduceIte,f0,f4,f5,f113,f114,f115,ZI,re,e4,s4,s5,sx]
   refine cf.use ?_
   rintro _ g5 ⟨rfl,b5⟩
   have k5:=ZB k4.ZU b5
   have K5:Kp (Xu i) o h o g5:=(K3.trans (ZC k4)).trans (ZC k5)
   have N5:=N4.still k5
   have R5:YA o i g5 ra' rj:=N5.pt.Zi
   have W5:=(W3.still k4).still k5
   have u4:=z4.Zd k5
   have u5:=z5.Zd k5
   have ux:=x4'.Zd k5
   cases hf:free n rj x with
   | none=>
    have e1:Vn n rj x=rj:=by unfold Vn;rw[hf]
    simp -implicitDefEqProofs only[go_sem,↓reduceIte,Option.isSome_none,f115]
    unfold Y6
    refine⟨⟨f0,f4,f5,f113,f114,j+1,ra',ZA,rfl,K5,Ad,by rw[YE,e1];exact N5,W5,u4,u5⟩,?_⟩
    simp only[vi,Zj,↓reduceIte,f115];omega
   | some sl=>
    have e1:Vn n rj x = { rj with prop:=ins rj.prop (sl:Int) x }:=by unfold Vn;rw[hf]
    have e2:Ul n rj x=sl:=by unfold Ul;rw[hf]
    rw[e2]
    simp -implicitDefEqProofs only[go_sem,↓reduceIte,Option.isSome_some]
    have t5:hc g5 ⟨h.size+1,0,none⟩=some (Zn ra'.rb):=by rw[Ad];exact Zg u5.2
    unfold Zn at t5
    have tx:rd g5 ⟨g3.size,0,none⟩ 5=some x.C:=Zo ux.2 rfl
    obtain⟨_,_,_,t4,_⟩:=R5.rr
    have m5:=Za u5.2
    have mr:=Za R5.ZD.2
    have mx:=Za ux.2
    refine VS.z (g5.size) [6] (.q 0 (.p 1 (.p 2 (.q 3 (.p 4 (.q 5 (.w 6 .nil))))))) mixed (by kernel_rfl) ?_
    simp -implicitDefEqProofs only[go_sem,↓reduceIte,f5,t5,t4,tx,m5,mr,mx]
    rw[XK Vp R5.prop.2]
    obtain⟨k6,R6⟩:=R5.bB K5.ZU (k:=(sl:Int)) (x:=x)
    have k6':Kp (Xz i) o g5 o _:=k6.mono fun t q=>.inr (.inr (.inl q))
    have k6a:Kp (Xu i) o g5 o _:=k6.mono fun t q=>.inr (.inr (.inr (by rw[q];rfl)))
    simp -implicitDefEqProofs only[go_sem,↓reduceIte,f115]
    unfold Y6
    refine⟨⟨f0,f4,f5,f113,f114,j+1,ra',ZA,rfl,K5.trans k6a,Ad,?_,W5.Zd k6 (by rintro t rfl;simp[Tg.of]),u4.Zd k6,u5.Zd k6⟩,?_⟩
    ·rw[YE,e1]
     exact⟨N5.ZD.Zd k6 (by intro e;cases e),ZT.J7 N5.pt k6' rfl rfl R6⟩
    ·simp only[vi,Zj,↓reduceIte,f115];omega
  ·have YF:¬(j:Int)<n.queue.length:=by omega
   obtain rfl:j=n.queue.length:=by omega
   rw[List.take_length]at hrj
   simp -implicitDefEqProofs only[go_sem,↓reduceIte,f114,f115,YF]
   rw[←hrj]
   obtain⟨r2,hr2⟩:=Zy (rj)
   rw[←hr2]at N3 ⊢
   have Zet:∀s x m,(PD n r2 s x m).length≤1:=fun s x m=>by unfold PD;split<;>simp
   have Zeu:∀s,(WJ n r2 s).length≤5:=fun s=>by
    unfold WJ
    split
    ·split
     ·exact US _ 1 5 (Zet s _)
     ·simp
    ·simp
   clear r4 r5 l4 l5
   refine VS.ZV (fun F g=>F 0=.pointer (some ⟨wb,0,none⟩)∧F 4=.pointer (some ⟨h.size,0,none⟩)∧F 5=.pointer (some ⟨h.size+1,0,none⟩)∧∃(s:Nat) (o':Ow) (Xl:WA),s≤40∧F 134=.int .i64 s∧Kp (Xu i) o h o' g∧ZH o' g wb i nb { a with Zi:=some ra' } { n with Zi:=some r2 }∧ZE o' g wb Z4 Xl (fl++(List.range s).flatMap (WJ n r2)) bad told∧ZK o' g h.size (.cells [Zn nb].toArray 98)∧ZK o' g (h.size+1) (.cells [Zn ra.rb].toArray 106))
    (fun F _=>40-(vi (F 134)).toNat) rfl ⟨f0,f4,f5,0,o,Yy,by omega,rfl,K3,N3,by simpa using W3,y4,y5⟩ ?_
   clear f0 f4 f5 y4 y5 K3 N3 W3
   rintro F4 g4 ⟨f0,f4,f5,s,o4,bC,hs4,f134,K4,N4,W4,y4,y5⟩
   by_cases dJ:s<40
   case neg=>
    have xI:¬(s:Int)<40:=by omega
    obtain rfl:s=40:=by omega
    simp -implicitDefEqProofs only[go_sem,↓reduceIte,f134,xI]
    exact⟨o4,_,bC,K4,N4,W4⟩
   have II:(s:Int)<40:=by omega
   have R4:YA o4 i g4 ra' r2:=N4.pt.Zi
   obtain⟨_,_,_,t4,t5⟩:=R4.rr
   have P4:=Zx N4.ZD.2 N4.pt.store.len
   have r4:hc g4 ⟨h.size,0,none⟩=some (Zn nb):=Zg y4.2
   have r5:hc g4 ⟨h.size+1,0,none⟩=some (Zn ra'.rb):=by rw[Ad];exact Zg y5.2
   unfold Zn at r4 r5
   have l4:=Za y4.2
   have l5:=Za y5.2
   have n4:¬h.size=g4.size:=by omega
   have n5:¬h.size+1=g4.size:=by omega
   have nnb:¬nb=g4.size:=by have:=Za N4.ZD.2;omega
   have Hc:=fun (K:Value→Hp→Prop)=>Yn (K:=K) (n:=(s:Int)) (c:=true) Vp PH R4.prop.2
   rw[Xf]at Hc
   have WN:=fun (K:Value→Hp→Prop) (z:Obj)=>Yn (h:=g4.push z) (K:=K) (n:=(s:Int)) (c:=true) Vp PH ((Zq (Za N4.pt.known.2)).trans N4.pt.known.2)
   simp only[Xf,show ({ n with Zi:=some r2 }:Nd).known=n.known from rfl]at WN
   have sK:∀x y:Obj,Kp Qe o4 g4 o4 ((g4.push x).push y):=fun x y=>(ZW K4.ZU _).push _
   have skip:∀(x y:Obj),WJ n r2 s=[]→ZH o4 ((g4.push x).push y) wb i nb { a with Zi:=some ra' } { n with Zi:=some r2 }∧ZE o4 ((g4.push x).push y) wb Z4 bC (fl++(List.range (s+1)).flatMap (WJ n r2)) bad told∧ZK o4 ((g4.push x).push y) h.size (.cells [Zn nb].toArray 98)∧ZK o4 ((g4.push x).push y) (h.size+1) (.cells [Zn ra.rb].toArray 106):=fun x y hz=>
    ⟨N4.still (sK x y),by rw[JV,hz,List.append_nil];exact W4.still (sK x y),y4.Zd (sK x y),y5.Zd (sK x y)⟩
   cases c3:Y9 r2.prop (s:Int) with
   | none=>
    have hz:WJ n r2 s=[]:=by unfold WJ;rw[c3]
    simp only[c3,Option.map_none,Option.getD_none,Option.isSome_none,↓reduceIte]at Hc
    cases c4:Y9 n.known (s:Int) with
    | none=>
     simp only[c4,Option.map_none,Option.getD_none,Option.isSome_none,↓reduceIte]at WN
     simp -implicitDefEqProofs only[go_sem,↓reduceIte,f0,f4,f5,f134,II,r5,t4,r4,n4,n5,nnb,Hc,WN,P4.known]
     unfold Y6
     refine⟨⟨f0,f4,f5,s+1,o4,bC,dJ,rfl,K4.trans (ZC (sK _ _)),skip _ _ hz⟩,?_⟩
     simp only[vi,Zj,↓reduceIte,f134];omega
    | some y=>
     simp only[c4,Option.map_some,Option.getD_some,Option.isSome_some,↓reduceIte]at WN
     simp -implicitDefEqProofs only[go_sem,↓reduceIte,f0,f4,f5,f134,II,r5,t4,r4,n4,n5,nnb,Hc,WN,P4.known,Wr]
     unfold Y6
     refine⟨⟨f0,f4,f5,s+1,o4,bC,dJ,rfl,K4.trans (ZC (sK _ _)),skip _ _ hz⟩,?_⟩
     simp only[vi,Zj,↓reduceIte,f134];omega
   | some x=>
    simp only[c3,Option.map_some,Option.getD_some,Option.isSome_some,↓reduceIte]at Hc
    cases c4:Y9 n.known (s:Int) with
    | some y=>
     have hz:WJ n r2 s=[]:=by unfold WJ;rw[c3];simp only;rw[if_neg (by rw[c4];simp)]
     simp only[c4,Option.map_some,Option.getD_some,Option.isSome_some,↓reduceIte]at WN
     simp -implicitDefEqProofs only[go_sem,↓reduceIte,f0,f4,f5,f134,II,r5,t4,r4,n4,n5,nnb,Hc,WN,P4.known,Wr]
     unfold Y6
     refine⟨⟨f0,f4,f5,s+1,o4,bC,dJ,rfl,K4.trans (ZC (sK _ _)),skip _ _ hz⟩,?_⟩
     simp only[vi,Zj,↓reduceIte,f134];omega
    | none=>
     have hz:WJ n r2 s=(List.range 5).flatMap (PD n r2 s x):=by unfold WJ;rw[c3];simp only;rw[if_pos c4]
     simp only[c4,Option.map_none,Option.getD_none,Option.isSome_none,↓reduceIte]at WN
     simp -implicitDefEqProofs only[go_sem,↓reduceIte,f0,f4,f5,f134,II,r5,t4,r4,n4,n5,nnb,Hc,WN,P4.known,Wr]
     obtain⟨fs,hfs⟩:=Zy (fl++(List.range s).flatMap (WJ n r2))
     have ZyH:fs.length≤900000001000:=by
      have:=US (WJ n r2) 5 s Zeu
      rw[hfs,List.length_append];omega
     have hnx:fl++(List.range (s+1)).flatMap (WJ n r2)=fs++(List.range 5).flatMap (PD n r2 s x):=by rw[JV,hz,←List.append_assoc,←hfs]
     rw[←hfs]at W4
     have kz:=sK (.cells x.C.toArray 49) (.cells oF.C.toArray 49)
     have xb:ZK o4 ((g4.push (.cells x.C.toArray 49)).push (.cells oF.C.toArray 49)) g4.size (.cells x.C.toArray 49):=⟨K4.ZU _ (Nat.le_refl _),fI _ _ _⟩
     refine VS.ZV (fun F g=>F 0=.pointer (some ⟨wb,0,none⟩)∧F 4=.pointer (some ⟨h.size,0,none⟩)∧F 5=.pointer (some ⟨h.size+1,0,none⟩)∧F 134=.int .i64 s∧F 18=.int .i64 s∧F 19=.pointer (some ⟨g4.size,0,none⟩)∧∃(m:Nat) (o':Ow) (Xl:WA),m≤5∧F 160=.int .i64 m∧Kp (Xu i) o h o' g∧ZH o' g wb i nb { a with Zi:=some ra' } { n with Zi:=some r2 }∧ZE o' g wb Z4 Xl (fs++(List.range m).flatMap (PD n r2 s x)) bad told∧ZK o' g h.size (.cells [Zn nb].toArray 98)∧ZK o' g (h.size+1) (.cells [Zn ra.rb].toArray 106)∧ZK o' g g4.size (.cells x.C.toArray 49))
      (fun F _=>5-(vi (F 160)).toNat) rfl ⟨f0,f4,f5,f134,rfl,rfl,0,o4,bC,by omega,rfl,K4.trans (ZC kz),N4.still kz,by simpa using W4.still kz,y4.Zd kz,y5.Zd kz,xb⟩ ?_
     clear f0 f4 f5 f134 y4 y5 r4 r5 t4 t5 P4 Hc WN skip sK kz xb l4 l5 n4 n5 nnb R4
     rintro F5 g5 ⟨f0,f4,f5,f134,f18,f19,m,o5,WA5,hm,f160,K5,N5,W5,y4,y5,xb⟩
     by_cases ic:m<5
     case neg=>
      have hgm:¬(m:Int)<5:=by omega
      obtain rfl:m=5:=by omega
      simp -implicitDefEqProofs only[go_sem,↓reduceIte,f160,hgm,f134]
      unfold Y6
      refine⟨⟨f0,f4,f5,s+1,o5,WA5,dJ,rfl,K5,N5,by rw[hnx];exact W5,y4,y5⟩,?_⟩
      simp only[vi,Zj,↓reduceIte,f134];omega
     have Zew:(m:Int)<5:=by omega
     have R5:YA o5 i g5 ra' r2:=N5.pt.Zi
     obtain⟨v0,_,_,_,v5⟩:=R5.rr
     unfold X1 at v0
     have r5:hc g5 ⟨h.size+1,0,none⟩=some (Zn ra'.rb):=by rw[Ad];exact Zg y5.2
     unfold Zn at r5
     have lkv:=fun (K:Value→Hp→Prop)=>Yn (K:=K) (n:=(s:Int)) (c:=false) LY I3 R5.Jk.2
     rw[Xf]at lkv
     simp only[Bool.false_eq_true,if_false]at lkv
     obtain⟨g6,PQ⟩:=Zy (g5.push (.cells [].toArray 205):Hp)
     have e6:=PQ.symm
     have k6:Kp Qe o5 g5 o5 g6:=by rw[PQ];exact ZW K5.ZU _
     have w6:wr g6 ⟨g5.size,0,none⟩ []=some g6:=by
      have hx:g6[g5.size]? = some (.cells [].toArray 205):=by rw[PQ];exact Zb
      rw[ZP hx 0 [],if_pos ⟨by simp,rfl⟩]
      congr 1
      exact Pj hx
     have N6:=N5.still k6
     have W6:=W5.still k6
     have z4:=y4.Zd k6
     have z5:=y5.Zd k6
     have zx:=xb.Zd k6
     have K6:Kp (Xu i) o h o5 g6:=K5.trans (ZC k6)
     have P6:=Zx N6.ZD.2 N6.pt.store.len
     have R6:YA o5 i g6 ra' r2:=N6.pt.Zi
     obtain⟨u0,_,_,_,_⟩:=R6.rr
     unfold X1 at u0
     have s4:hc g6 ⟨h.size,0,none⟩=some (Zn nb):=Zg z4.2
     have s5:hc g6 ⟨h.size+1,0,none⟩=some (Zn ra'.rb):=by rw[Ad];exact Zg z5.2
     unfold Zn at s4 s5
     have sx:rd g6 ⟨g4.size,0,none⟩ 5=some [.int .i64 x.k,.int .i64 x.c,.int .i64 x.s,.int .i64 x.n,.int .i64 x.v]:=Zo zx.2 rfl
     have m4:=Za z4.2
     have m5:=Za z5.2
     have mx:=Za zx.2
     have mr:=Za R6.ZD.2
     have mY:=Za N6.ZD.2
     obtain⟨S,hS⟩:=Zy ((Y9 r2.Jk (s:Int)).getD [])
     have Er:PD n r2 s x m=if Y9 S (m:Int)=none then [⟨2,n.me,m,Jy,Tf s r2.b x,[]⟩] else []:=by unfold PD;rw[hS]
     obtain⟨mv,hmv,lki⟩:∃mv,(Option.map oH (Y9 ra'.sv (s:Int))).getD (.map none)=mv∧∀K:Value→Hp→Prop,OX Tryz.prog 204 mv (.int .i64 (m:Int)) true K g5=K (.tuple #[.agg #[],.bool (Y9 S (m:Int)).isSome]) g5:=by
      rcases R5.VU.Y9 (s:Int) with⟨z1,z2⟩|⟨sb,S',z1,z2,uM⟩
      ·refine⟨.map none,by rw[z1];rfl,fun K=>?_⟩
       rw[HX I1 vd,hS,z2];rfl
      ·refine⟨.map (some sb),by rw[z1];rfl,fun K=>?_⟩
       have:=Yn (K:=K) (n:=(m:Int)) (c:=true) I1 vd uM.2
       have yo:S=S':=by rw[hS,z2];rfl
       rw[this]
       unfold NW
       rw[Xf,←yo]
       cases Y9 S (m:Int)<;>rfl
     rw[hmv]at lkv
     cases cS:Y9 S (m:Int) with
     | some uu=>
      rw[if_neg (by rw[cS];simp)]at Er
      simp only[cS,Option.isSome_some]at lki
      simp -implicitDefEqProofs only[go_sem,↓reduceIte,f0,f4,f5,f18,f19,f160,Zew,r5,v5,lkv,lki,e6,w6]
      unfold Y6
      refine⟨⟨f0,f4,f5,f134,f18,f19,m+1,o5,WA5,ic,rfl,K6,N6,by rw[JV,Er,List.append_nil];exact W6,z4,z5,zx⟩,?_⟩
      simp only[vi,Zj,↓reduceIte,f160];omega
     | none=>
      rw[if_pos cS]at Er
      simp only[cS,Option.isSome_none]at lki
      simp -implicitDefEqProofs only[go_sem,↓reduceIte,f0,f4,f5,f18,f19,f160,Zew,r5,v5,lkv,lki,e6,w6]
      refine VS.z (g6.size) [11] (.p 0 (.q 1 (.p 2 (.p 3 (.q 4 (.p 5 (.p 6 (.q 7 (.q 8 (.p 9 (.p 10 (.w 11 .nil)))))))))))) mixed (by kernel_rfl) ?_
      simp -implicitDefEqProofs only[go_sem,↓reduceIte,f0,f4,f5,f18,f19,f160,s4,s5,u0,sx,m4,m5,mx,mr]
      have rl:(fs++(List.range m).flatMap (PD n r2 s x)).length≤1000000000000:=by
       have:=US (PD n r2 s x) 1 m (Zet s x)
       rw[List.length_append];omega
      refine (Uv T g6 o5 wb nb Z4 n.me WA5 _ bad told (m:Int) ⟨2,0,0,Jy,Tf s r2.b x,[]⟩ (.slice none 0 0) K6.ZU W6 P6.me mY (Im.nil _ _ _ _) rl).use ?_
      rintro v' g7 ⟨o7,WA7,k7,_,W7⟩
      simp -implicitDefEqProofs only[go_sem,↓reduceIte,f160]
      unfold Y6
      refine⟨⟨f0,f4,f5,f134,f18,f19,m+1,o7,WA7,ic,rfl,K6.trans (k7.mono fun t q=>by rcases q with rfl|rfl<;>simp[Xu]),N6.Zd k7 (by rintro t (rfl|rfl)<;>simp[Tg.of]),by rw[JV,Er,←List.append_assoc];exact W7,z4.Zd k7,z5.Zd k7,zx.Zd k7⟩,?_⟩
      simp only[vi,Zj,↓reduceIte,f160];omega
theorem Q2.fn {o:Ow} {h:Hp} {wb i nb:Nat} {ra:Option RA} {v:Value} {p:Option DS} (s:Q2 o h wb i nb ra v p):(p=none∧v=.nilFunc)∨(p.isSome=true∧∃f l,v=.func (.func f) #[] l):=by
 match p,s with
 | none,s=>exact .inl ⟨rfl,s⟩
 | some (.Ig _ _ _ _),⟨_,_,_,_,e,_⟩=>exact .inr ⟨rfl,_,_,e⟩
 | some (.Kx _ _ _),⟨_,_,_,_,e,_⟩=>exact .inr ⟨rfl,_,_,e⟩
 | some (.own _ _ _),⟨_,_,_,_,_,_,e,_⟩=>exact .inr ⟨rfl,_,_,e⟩
theorem fS (n:Nd) (r:Qd):(JU n r).n.Xh=n.Xh∧(JU n r).n.log=n.log∧(JU n r).n.me=n.me∧(JU n r).n.heard=n.heard∧(JU n r).n.own=n.own∧(JU n r).ts=[]:=by
 unfold JU
 split
 ·split<;>exact⟨rfl,rfl,rfl,rfl,rfl,rfl⟩
 ·split<;>exact⟨rfl,rfl,rfl,rfl,rfl,rfl⟩
theorem Am (n:Nd) (r:Qd):(Rj n r).length≤5:=by
 have:=US (fun (m:Nat)=>if Y9 r.prom (m:Int)=none then [(⟨0,n.me,m,r.b,Tm,[]⟩:YY)] else []) 1 5 (fun m=>by split<;>simp)
 exact this
theorem fU (n:Nd) (r:Qd):(LV n r).length≤200:=by
 have h1:∀s x m,(PD n r s x m).length≤1:=fun s x m=>by unfold PD;split<;>simp
 have h2:∀s,(WJ n r s).length≤5:=fun s=>by
  unfold WJ
  split
  ·split
   ·exact US _ 1 5 (h1 s _)
   ·simp
  ·simp
 exact US _ 5 40 h2
theorem sL (n:Nd) (r:Qd):(JU n r).ls.length≤200:=by
 unfold JU
 split
 ·split<;>simp
 ·split
  ·have:=Am n r;simp only;omega
  ·exact fU n _
theorem An (n:Nd):(still n).Xh=n.Xh∧(still n).log=n.log∧(still n).me=n.me∧(still n).heard=n.heard∧(still n).own=n.own∧(still n).queue=n.queue∧(still n).ZQ=n.ZQ∧(still n).data=n.data∧(still n).Xq=n.Xq:=by
 unfold still
 split
 ·split<;>exact⟨rfl,rfl,rfl,rfl,rfl,rfl,rfl,rfl,rfl⟩
 ·exact⟨rfl,rfl,rfl,rfl,rfl,rfl,rfl,rfl,rfl⟩
theorem Dh (n:Nd):(still n).Zi=none∨(still n).Zi=n.Zi:=by
 unfold still
 split
 ·split
  ·exact .inl rfl
  ·exact .inr rfl
 ·exact .inr rfl
theorem Ro (n:Nd):(Yl n).n.Xh=n.Xh∧(Yl n).n.log=n.log∧(Yl n).n.me=n.me∧(Yl n).n.heard=n.heard∧(Yl n).n.own=n.own∧(Yl n).ts=[]:=by
 unfold Yl
 split
 ·exact fS _ _
 ·split<;>exact⟨rfl,rfl,rfl,rfl,rfl,rfl⟩
theorem Di (n:Nd):(Yl n).ls.length≤200+n.queue.length:=by
 unfold Yl
 split
 ·next r _=>have:=sL n r;omega
 ·split
  ·simp[Vo]
  ·simp
set_option maxHeartbeats 4000000 in
theorem sO (T:World) (h:Hp) (o:Ow) (wb i nb:Nat) (Z4:Nat→Nat) (a:NA) (n:Nd) (Yy:WA) (fl:List YY) (bad:Nat→Int) (told:List TS) (d:Q3 o h)
  (N:ZH o h wb i nb a n) (W:ZE o h wb Z4 Yy fl bad told) (tb:DT o h) (hp0:n.ZQ=none) (Yk:fl.length≤800000000000) (lX:n.own.l.length≤1000000) (lD:n.data.length≤1000000)
  (hr:∀r,n.Zi=some r→(∀x∈r.prom,x.2.length≤1000000)∧(∀x∈r.prom,∀v∈x.2,v.slot≤1000000)∧r.prom.length≤1000000000000) (hl:n.log.length≤100000000000) (hq:n.queue.length≤10000000000) (ht:0≤n.Xh∧n.Xh<5) :
  Zc Tryz.prog T 79 #[Zn wb,Zn nb] h fun v' h'=>∃o' a' Xl,Kp (Xu i) o h o' h'∧ZH o' h' wb i nb a' (Uf n).n∧ZE o' h' wb Z4 Xl (fl++(Uf n).ls) bad told:=by
 refine Zc.Mb (args:=#[_,_]) Tryz.func79 rfl rfl rfl ?_
 obtain⟨vp,zf,sme,zh,fV,GI,mZ,vq,Znd⟩:=An n
 refine VS.seq (VS.mono (N:=fun F' g'=>F' 0=.pointer (some ⟨wb,0,none⟩)∧F' 1=.pointer (some ⟨nb,0,none⟩)∧∃a1,Kp (Xu i) o h o g'∧ZH o g' wb i nb a1 (still n)∧ZE o g' wb Z4 Yy fl bad told) ?_ ?_ (fun _ _ _ h=>h) (fun _ _ h=>h))
 ·refine XZ _ _ _ _ _ _ rfl ?_
  unfold Zn
  have P:=Zx N.ZD.2 N.pt.store.len
  have WS:=Za N.ZD.2
  have Pr:=P.Zi
  have Po:=P.EY
  cases OG:a.Zi with
  | none=>
   rw[OG]at Pr
   have hn:n.Zi=none:=by
    have:=N.pt.Zi
    rw[OG]at this
    cases hx:n.Zi with
    | none=>rfl
    | some r=>rw[hx]at this;exact this.elim
   have es:still n=n:=by unfold still;rw[hn]
   rw[es]
   unfold Rk at Pr
   simp -implicitDefEqProofs only[go_sem,↓reduceIte,Pr]
   refine VS.mono (N:=fun F' g'=>Zf h.size h g'∧F' 0=.pointer (some ⟨wb,0,none⟩)∧F' 1=.pointer (some ⟨nb,0,none⟩)∧F' 26=.bool false) ?_ ?_ (fun _ _ _ h=>h) (fun _ _ h=>h)
   ·refine VS.z (h.size) [12] (.p 0 (.p 1 (.p 2 (.p 3 (.p 4 (.p 5 (.p 6 (.q 7 (.p 8 (.p 9 (.p 10 (.q 11 (.w 12 (.p 13 .nil)))))))))))))) mixed (by kernel_rfl) ?_
    simp -implicitDefEqProofs only[go_sem,↓reduceIte,Pr,Po,WS]
    try exact Zf.refl _ _
   rintro F1 g1 ⟨b1,f0,f1,f26⟩
   have kb:=ZB d b1
   simp -implicitDefEqProofs only[go_sem,↓reduceIte,f26]
   exact⟨f0,f1,a,ZC kb,N.still kb,W.still kb⟩
  | some ra=>
   obtain⟨r,hn⟩:∃r,n.Zi=some r:=by
    have:=N.pt.Zi
    rw[OG]at this
    cases hx:n.Zi with
    | none=>rw[hx]at this;exact this.elim
    | some r=>exact⟨r,rfl⟩
   rw[OG]at Pr
   unfold Rk Zn at Pr
   have R:YA o i h ra r:=by have:=N.pt.Zi;rw[OG,hn]at this;exact this
   obtain⟨q0,_,_,_,_⟩:=R.rr
   have DW:=Za R.ZD.2
   simp -implicitDefEqProofs only[go_sem,↓reduceIte,Pr]
   refine VS.mono (N:=fun F' g'=>Zf h.size h g'∧F' 0=.pointer (some ⟨wb,0,none⟩)∧F' 1=.pointer (some ⟨nb,0,none⟩)∧F' 26=.bool (decide (below r.b n.own.p))) ?_ ?_ (fun _ _ _ h=>h) (fun _ _ h=>h)
   ·refine VS.z (h.size) [12] (.p 0 (.p 1 (.p 2 (.p 3 (.p 4 (.p 5 (.p 6 (.q 7 (.p 8 (.p 9 (.p 10 (.q 11 (.w 12 (.p 13 .nil)))))))))))))) mixed (by kernel_rfl) ?_
    simp -implicitDefEqProofs only[go_sem,↓reduceIte,Pr,Po,q0,WS,DW]
    refine (PM T h n.own.p r.b).use ?_
    rintro _ g ⟨rfl,b⟩
    simp -implicitDefEqProofs only[go_sem,↓reduceIte,b]
   rintro F1 g1 ⟨b1,f0,f1,f26⟩
   have kb:=ZB d b1
   have N1:=N.still kb
   have W1:=W.still kb
   by_cases c:below r.b n.own.p
   ·have es:still n = { n with Zi:=none }:=by unfold still;rw[hn];simp only;rw[if_pos c]
    rw[es]
    have hpn:a.ZQ=.nilFunc:=by
     have:=N.pt.ZQ
     rw[hp0]at this
     exact this
    have pn:Q2 o g1 wb i nb none a.ZQ n.ZQ:=by rw[hp0];exact hpn
    obtain⟨g2,w2,N2,k2⟩:=ZT.write (a:={ a with Zi:=none }) (n:={ n with Zi:=none }) { N1.pt with Zi:=trivial,ZQ:=pn } kb.ZU N1.ZD ((YI N1.ZD.2 N1.pt.store.len).Zi none)
    have Jv:=Za N1.ZD.2
    unfold Rk at w2
    simp -implicitDefEqProofs only[go_sem,↓reduceIte,f0,f1,f26,c,w2,Jv]
    exact⟨_,(ZC kb).trans (k2.mono fun t q=>.inr (.inr (.inr (by rw[q];rfl)))),N2,W1.Zd k2 (by rintro t rfl;simp[Tg.of])⟩
   ·have es:still n=n:=by unfold still;rw[hn];simp only;rw[if_neg c]
    rw[es]
    simp -implicitDefEqProofs only[go_sem,↓reduceIte,f26,c]
    exact⟨f0,f1,a,ZC kb,N1,W1⟩
 rintro F1 g1 ⟨f0,f1,a1,K1,N1,W1⟩
 obtain⟨s,hs⟩:=Zy (still n)
 rw[←hs]at N1 vp zf sme zh fV GI mZ vq Znd
 have srg:s.Zi=none∨s.Zi=n.Zi:=by rw[hs];exact Dh n
 obtain⟨vr,Zey,eme,zi,Zne,ets⟩:=Ro s
 have els:=Di s
 unfold Uf
 rw[←hs]
 clear hs
 refine VS.seq (VS.mono (N:=fun F' g'=>F' 0=.pointer (some ⟨wb,0,none⟩)∧F' 1=.pointer (some ⟨nb,0,none⟩)∧∃kb a1,F' 5=.pointer (some ⟨kb,0,none⟩)∧ZK o g' kb (.cells [.int .i64 n.own.p.r,.int .i64 n.own.p.n].toArray 102)∧Kp (Xu i) o h o g'∧ZH o g' wb i nb a1 s∧ZE o g' wb Z4 Yy fl bad told) ?_ ?_ (fun _ _ _ h=>h) (fun _ _ h=>h))
 ·refine XZ _ _ _ _ _ _ rfl ?_
  have P1:=Zx N1.ZD.2 N1.pt.store.len
  have P1o:=P1.EY
  rw[fV]at P1o
  have WS:=Za N1.ZD.2
  obtain⟨g2,Qt⟩:=Zy (g1.push (.cells [.int .i64 n.own.p.r,.int .i64 n.own.p.n].toArray 102):Hp)
  have k2:Kp Qe o g1 o g2:=by rw[Qt];exact ZW K1.ZU _
  have x5:ZK o g2 g1.size (.cells [.int .i64 n.own.p.r,.int .i64 n.own.p.n].toArray 102):=⟨K1.ZU _ (Nat.le_refl _),by rw[Qt];exact Zb⟩
  have e2:=Qt.symm
  simp -implicitDefEqProofs only[go_sem,↓reduceIte,f0,f1,P1o,WS,e2]
  exact⟨_,a1,rfl,x5,K1.trans (ZC k2),N1.still k2,W1.still k2⟩
 clear f0 f1 K1 N1 W1
 rintro F2 g2 ⟨f0,f1,kb,a2,f5,x5,K2,N2,W2⟩
 have CY:=tb.Zd K2
 refine VS.seq (VS.mono (N:=fun F' g'=>F' 0=.pointer (some ⟨wb,0,none⟩)∧F' 1=.pointer (some ⟨nb,0,none⟩)∧(Yl s).n.ZQ=none∧∃o' a1 Xl,Kp (Xu i) o h o' g'∧ZH o' g' wb i nb a1 (Yl s).n∧ZE o' g' wb Z4 Xl (fl++(Yl s).ls) bad told) ?_ ?_ (fun _ _ _ h=>h) (fun _ _ h=>h))
 ·refine XZ _ _ _ _ _ _ rfl ?_
  have P2:=Zx N2.ZD.2 N2.pt.store.len
  have zj:=P2.Zi
  have fW:=P2.me
  have WS:=Za N2.ZD.2
  have l5:=Za x5.2
  cases OG:a2.Zi with
  | some ra=>
   obtain⟨r,hn⟩:∃r,s.Zi=some r:=by
    have:=N2.pt.Zi
    rw[OG]at this
    cases hx:s.Zi with
    | none=>rw[hx]at this;exact this.elim
    | some r=>exact⟨r,rfl⟩
   have hnr:n.Zi=some r:=by
    rcases srg with e|e
    ·rw[e]at hn;cases hn
    ·rw[←e,hn]
   have e1:Yl s=JU s r:=by unfold Yl;rw[hn]
   have ea:a2 = { a2 with Zi:=some ra }:=by rw[←OG]
   have es:s = { s with Zi:=some r }:=by rw[←hn]
   obtain⟨gS,hr2,hr3⟩:=hr r hnr
   rw[OG]at zj
   unfold Rk Zn at zj
   have cr:=sH T g2 o wb i nb Z4 a2 s ra r Yy fl bad told K2.ZU (by rw[←ea,←es];exact N2) W2 CY (by omega) (by rw[fV];exact lX) (by rw[vq];exact lD) gS hr2 hr3 (by rw[zf];omega) (by rw[GI];omega)
   rw[←es,←e1]at cr
   unfold Zn at cr
   simp -implicitDefEqProofs only[go_sem,↓reduceIte,f0,f1,zj]
   refine cr.use ?_
   rintro v' g3 ⟨o3,a3,oK,k3,N3,W3⟩
   have P3:=(Zx N3.ZD.2 N3.pt.store.len).ZQ
   rcases N3.pt.ZQ.fn with⟨c1,c2⟩|⟨c1,f,l,c2⟩
   ·rw[c2]at P3
    simp -implicitDefEqProofs only[go_sem,↓reduceIte,f0,f1,P3]
    exact⟨c1,o3,a3,oK,K2.trans k3,N3,W3⟩
   ·rw[c2]at P3
    simp -implicitDefEqProofs only[go_sem,↓reduceIte,f0,f1,P3]
    rw[if_pos c1]
    exact⟨o3,a3,oK,K2.trans k3,N3,W3⟩
  | none=>
   have hn:s.Zi=none:=by
    have:=N2.pt.Zi
    rw[OG]at this
    cases hx:s.Zi with
    | none=>rfl
    | some r=>rw[hx]at this;exact this.elim
   rw[OG]at zj
   unfold Rk at zj
   have r5a:hc g2 ⟨kb,0,none⟩=some (.int .i64 n.own.p.r):=Zg x5.2
   have r5b:hc g2 ⟨kb,1,none⟩=some (.int .i64 n.own.p.n):=Zg x5.2
   rw[sme]at fW
   by_cases c:0<n.own.p.r∧n.own.p.n≠n.me
   case neg=>
    have e1:Yl s=⟨s,[],[]⟩:=by unfold Yl;rw[hn];simp only;rw[fV,sme,if_neg c]
    rw[e1]
    have PZ:s.ZQ=none:=by rw[mZ];exact hp0
    simp -implicitDefEqProofs only[go_sem,↓reduceIte,f0,f1,zj]
    refine VS.mono (N:=fun F' g'=>Zf g2.size g2 g'∧F' 0=.pointer (some ⟨wb,0,none⟩)∧F' 1=.pointer (some ⟨nb,0,none⟩)∧F' 53=.bool false) ?_ ?_ (fun _ _ _ h=>h) (fun _ _ h=>h)
    ·refine VS.z (g2.size) [] (.p 0 (.q 1 (.p 2 (.p 3 (.p 4 (.q 5 (.p 6 (.p 7 (.p 8 (.q 9 (.p 10 (.p 11 (.p 12 .nil))))))))))))) mixed (by kernel_rfl) ?_
     by_cases c1:0<n.own.p.r
     ·have c2:n.own.p.n=n.me:=by
       rcases Decidable.em (n.own.p.n=n.me) with e|e
       ·exact e
       ·exact (c ⟨c1,e⟩).elim
      simp -implicitDefEqProofs only[go_sem,↓reduceIte,f0,f1,f5,r5a,r5b,fW,l5,WS,c1,c2]
      try exact Zf.refl _ _
     ·simp -implicitDefEqProofs only[go_sem,↓reduceIte,f0,f1,f5,r5a,r5b,fW,l5,WS,c1]
      try exact Zf.refl _ _
    rintro F3 g3 ⟨b3,f0,f1,f53⟩
    have U0:=ZB K2.ZU b3
    simp -implicitDefEqProofs only[go_sem,↓reduceIte,f53]
    exact⟨f0,f1,PZ,o,a2,Yy,K2.trans (ZC U0),N2.still U0,by rw[List.append_nil];exact W2.still U0⟩
   have e1:Yl s=⟨s,Vo s,[]⟩:=by unfold Yl;rw[hn];simp only;rw[fV,sme,if_pos c]
   rw[e1]
   have PZ:s.ZQ=none:=by rw[mZ];exact hp0
   obtain⟨c1,c2⟩:=c
   simp -implicitDefEqProofs only[go_sem,↓reduceIte,f0,f1,zj]
   refine VS.mono (N:=fun F' g'=>Zf g2.size g2 g'∧F' 0=.pointer (some ⟨wb,0,none⟩)∧F' 1=.pointer (some ⟨nb,0,none⟩)∧F' 5=.pointer (some ⟨kb,0,none⟩)∧F' 53=.bool true) ?_ ?_ (fun _ _ _ h=>h) (fun _ _ h=>h)
   ·refine VS.z (g2.size) [] (.p 0 (.q 1 (.p 2 (.p 3 (.p 4 (.q 5 (.p 6 (.p 7 (.p 8 (.q 9 (.p 10 (.p 11 (.p 12 .nil))))))))))))) mixed (by kernel_rfl) ?_
    simp -implicitDefEqProofs only[go_sem,↓reduceIte,f0,f1,f5,r5a,r5b,fW,l5,WS,c1,c2]
    try exact Zf.refl _ _
   clear f0 f1 f5
   rintro F3 g3 ⟨b3,f0,f1,f5,f53⟩
   have U0:=ZB K2.ZU b3
   have N3:=N2.still U0
   have W3:=W2.still U0
   have K3:=K2.trans (ZC (S:=Xu i) U0)
   have y5:=x5.Zd U0
   obtain⟨pq,cq,sJ,_⟩:=Ys.isSlice N3.pt.queue
   have sJ:a2.queue=.slice pq s.queue.length cq:=sJ
   have P3q:=(Zx N3.ZD.2 N3.pt.store.len).queue
   rw[sJ]at P3q
   simp -implicitDefEqProofs only[go_sem,↓reduceIte,f0,f1,f53,P3q]
   have hql:s.queue.length≤10000000000:=by rw[GI];exact hq
   refine VS.ZV (fun F g=>F 0=.pointer (some ⟨wb,0,none⟩)∧F 1=.pointer (some ⟨nb,0,none⟩)∧F 5=.pointer (some ⟨kb,0,none⟩)∧F 69=.slice pq s.queue.length cq∧F 70=.int .i64 s.queue.length∧∃(j:Nat) (o':Ow) (Xl:WA),j≤s.queue.length∧F 71=.int .i64 j∧Kp (Xu i) o h o' g∧ZH o' g wb i nb a2 s∧ZE o' g wb Z4 Xl (fl++(Vo s).take j) bad told∧ZK o' g kb (.cells [.int .i64 n.own.p.r,.int .i64 n.own.p.n].toArray 102))
    (fun F _=>s.queue.length-(vi (F 71)).toNat) rfl ⟨f0,f1,f5,rfl,rfl,0,o,Yy,by omega,rfl,K3,N3,by simpa using W3,y5⟩ ?_
   clear f0 f1 f5 f53 P3q N3 W3 K3 y5 U0 b3 x5 K2 N2 W2
   rintro F4 g4 ⟨f0,f1,f5,f69,f70,j,o4,bC,hj,f71,K4,N4,W4,y5⟩
   have qZ:(Vo s).length=s.queue.length:=by unfold Vo;simp
   by_cases ZA:j<s.queue.length
   ·have ZI:(j:Int)<s.queue.length:=by omega
    obtain⟨pz,cz,H4,Bt⟩:=Ju N4.pt.queue.ts
    obtain⟨bb,oo,ru,UX,PO⟩:=Bt (by intro e;have:s.queue=[]:=e;rw[this]at ZA;simp at ZA)
    have H4:a2.queue=.slice pz s.queue.length cz:=H4
    rw[sJ]at H4
    simp only[Value.slice.injEq]at H4
    obtain⟨rfl,_,rfl⟩:=H4
    subst ru
    have re:rd g4 ⟨bb,oo+j*5,none⟩ 5=some (s.queue[j]).C:=PO j ZA
    obtain⟨x,hx⟩:=Zy (s.queue[j])
    rw[←hx]at re
    have YE:(Vo s).take (j+1)=(Vo s).take j++[⟨4,s.me,n.own.p.n,Jy,Tf 0 Jy x,[]⟩]:=by
     rw[Ye _ j (by rw[qZ];exact ZA)]
     congr 2
     unfold Vo
     rw[List.getElem_map,←hx,fV]
    obtain⟨g5,m7⟩:=Zy (g4.push (.cells x.C.toArray 49):Hp)
    have k5:Kp Qe o4 g4 o4 g5:=by rw[m7];exact ZW K4.ZU _
    have x7:ZK o4 g5 g4.size (.cells x.C.toArray 49):=⟨K4.ZU _ (Nat.le_refl _),by rw[m7];exact Zb⟩
    have e5:=m7.symm
    have N5:=N4.still k5
    have W5:=W4.still k5
    have z5:=y5.Zd k5
    have s5:hc g5 ⟨kb,1,none⟩=some (.int .i64 n.own.p.n):=Zg z5.2
    have sx:rd g5 ⟨g4.size,0,none⟩ 5=some [.int .i64 x.k,.int .i64 x.c,.int .i64 x.s,.int .i64 x.n,.int .i64 x.v]:=Zo x7.2 rfl
    have re:rd g4 ⟨bb,oo+j*5,none⟩ 5=some [.int .i64 x.k,.int .i64 x.c,.int .i64 x.s,.int .i64 x.n,.int .i64 x.v]:=re
    have e5:g4.push (.cells [.int .i64 x.k,.int .i64 x.c,.int .i64 x.s,.int .i64 x.n,.int .i64 x.v].toArray 49)=g5:=e5
    have P5:=Zx N5.ZD.2 N5.pt.store.len
    have Rm:=Za N5.ZD.2
    simp -implicitDefEqProofs only[go_sem,↓reduceIte,f0,f1,f5,f69,f70,f71,ZI,re,e5,s5,sx]
    have rl:(fl++(Vo s).take j).length≤1000000000000:=by
     rw[List.length_append,List.length_take];omega
    refine (Uv T g5 o4 wb nb Z4 s.me bC _ bad told n.own.p.n ⟨4,0,0,Jy,Tf 0 Jy x,[]⟩ (.slice none 0 0) k5.ZU W5 P5.me Rm (Im.nil _ _ _ _) rl).use ?_
    rintro v' g6 ⟨o6,WA6,k6,_,W6⟩
    simp -implicitDefEqProofs only[go_sem,↓reduceIte,f71]
    unfold Y6
    refine⟨⟨f0,f1,f5,f69,f70,j+1,o6,WA6,ZA,rfl,(K4.trans (ZC k5)).trans (k6.mono fun t q=>by rcases q with rfl|rfl<;>simp[Xu]),N5.Zd k6 (by rintro t (rfl|rfl)<;>simp[Tg.of]),by rw[YE,←List.append_assoc];exact W6,z5.Zd k6⟩,?_⟩
    simp only[vi,Zj,↓reduceIte,f71];omega
   ·have YF:¬(j:Int)<s.queue.length:=by omega
    obtain rfl:j=s.queue.length:=by omega
    rw[List.take_of_length_le (by rw[qZ];exact Nat.le_refl _)]at W4
    simp -implicitDefEqProofs only[go_sem,↓reduceIte,f70,f71,YF]
    exact⟨f0,f1,PZ,o4,a2,bC,K4,N4,W4⟩
 clear f0 f1 f5 x5 K2 N2 W2 CY
 rintro F3 g3 ⟨f0,f1,PZ,o3,a3,oK,K3,N3,W3⟩
 rw[if_neg (by rw[PZ];simp)]
 obtain⟨m,hm⟩:=Zy ((Yl s).n)
 obtain⟨ls,hls⟩:=Zy ((Yl s).ls)
 rw[←hm]at vr Zey eme zi Zne N3 PZ
 rw[←hls]at W3 els
 rw[←hm,←hls]
 clear hm hls
 have hmt:0≤m.Xh∧m.Xh<5:=by rw[vr,vp];exact ht
 have gX:m.log.length≤100000000000:=by rw[Zey,zf];exact hl
 have hll:ls.length≤10000000200:=by rw[GI]at els;omega
 refine VS.seq (VS.mono (N:=fun F' g'=>F' 0=.pointer (some ⟨wb,0,none⟩)∧F' 1=.pointer (some ⟨nb,0,none⟩)∧Kp (Xu i) o h o3 g'∧ZH o3 g' wb i nb a3 (JR m)∧ZE o3 g' wb Z4 oK (fl++ls) bad told) ?_ ?_ (fun _ _ _ h=>h) (fun _ _ h=>h))
 ·refine XZ _ _ _ _ _ _ rfl ?_
  have P3:=Zx N3.ZD.2 N3.pt.store.len
  have P3t:=P3.Xh
  have WS:=Za N3.ZD.2
  have et:(m.Xh+1).tmod 5=(m.Xh+1)%5:=Int.tmod_eq_emod_of_nonneg (by omega)
  obtain⟨g4,w4,N4,k4⟩:=ZT.write (a:=a3) (n:=JR m) { N3.pt with } K3.ZU N3.ZD ((YI N3.ZD.2 N3.pt.store.len).Xh ((m.Xh+1)%5))
  simp -implicitDefEqProofs only[go_sem,↓reduceIte,f0,f1,P3t,et,w4,WS]
  exact⟨K3.trans (k4.mono fun t q=>.inr (.inr (.inr (by rw[q];rfl)))),N4,W3.Zd k4 (by rintro t rfl;simp[Tg.of])⟩
 clear f0 f1 K3 N3 W3
 rintro F4 g4 ⟨f0,f1,K4,N4,W4⟩
 obtain⟨q,hq0⟩:=Zy (JR m)
 have ql:q.log=m.log:=by rw[hq0];rfl
 rw[←hq0]at N4 ⊢
 clear hq0
 have P4:=Zx N4.ZD.2 N4.pt.store.len
 have P4t:=P4.Xh
 have zk:=P4.me
 have P4o:=P4.EY
 have P4l:=P4.log
 obtain⟨pl,cl,ME,_⟩:=Ys.isSlice N4.pt.log
 have ME:a3.log=.slice pl q.log.length cl:=ME
 rw[ME]at P4l
 have WS:=Za N4.ZD.2
 rw[←ql]at gX
 refine XZ _ _ _ _ _ _ rfl ?_
 simp -implicitDefEqProofs only[go_sem,↓reduceIte]
 by_cases c:q.Xh≠q.me∧q.log.length<40
 case neg=>
  have e1:VP q=[]:=by unfold VP;rw[if_neg c]
  rw[e1,List.append_nil]
  refine VS.mono (N:=fun F' g'=>Zf g4.size g4 g'∧F' 109=.bool false) ?_ ?_ (fun _ _ _ h=>h) (fun _ _ h=>h)
  ·refine VS.z (g4.size) [] (.p 0 (.p 1 (.p 2 (.q 3 (.p 4 (.p 5 (.p 6 (.q 7 (.p 8 (.p 9 (.p 10 (.p 11 (.p 12 (.q 13 (.p 14 (.p 15 (.p 16 .nil))))))))))))))))) mixed (by kernel_rfl) ?_
   by_cases c1:q.Xh=q.me
   ·simp -implicitDefEqProofs only[go_sem,↓reduceIte,f0,f1,P4t,zk,P4l,WS,c1]
    try exact Zf.refl _ _
   ·have c2:¬(q.log.length:Int)<40:=by
     intro e
     exact c ⟨c1,by omega⟩
    simp -implicitDefEqProofs only[go_sem,↓reduceIte,f0,f1,P4t,zk,P4l,WS,c1,c2]
    try exact Zf.refl _ _
  rintro F5 g5 ⟨b5,f109⟩
  have I9:=ZB K4.ZU b5
  simp -implicitDefEqProofs only[go_sem,↓reduceIte,f109]
  exact⟨o3,a3,oK,K4.trans (ZC I9),N4.still I9,W4.still I9⟩
 have e1:VP q=[⟨5,q.me,q.Xh,Uj q,Tf q.log.length Jy oF,[]⟩]:=by unfold VP;rw[if_pos c]
 rw[e1]
 obtain⟨c1,c2⟩:=c
 have c2:(q.log.length:Int)<40:=by omega
 refine VS.mono (N:=fun F' g'=>Zf g4.size g4 g'∧F' 0=.pointer (some ⟨wb,0,none⟩)∧F' 1=.pointer (some ⟨nb,0,none⟩)∧F' 109=.bool true) ?_ ?_ (fun _ _ _ h=>h) (fun _ _ h=>h)
 ·refine VS.z (g4.size) [] (.p 0 (.p 1 (.p 2 (.q 3 (.p 4 (.p 5 (.p 6 (.q 7 (.p 8 (.p 9 (.p 10 (.p 11 (.p 12 (.q 13 (.p 14 (.p 15 (.p 16 .nil))))))))))))))))) mixed (by kernel_rfl) ?_
  simp -implicitDefEqProofs only[go_sem,↓reduceIte,f0,f1,P4t,zk,P4l,WS,c1,c2]
  try exact Zf.refl _ _
 clear f0 f1
 rintro F5 g5 ⟨b5,f0,f1,f109⟩
 have I9:=ZB K4.ZU b5
 have N5:=N4.still I9
 have W5:=W4.still I9
 have K5:Kp (Xu i) o h o3 g5:=K4.trans (ZC I9)
 have P5:=Zx N5.ZD.2 N5.pt.store.len
 have P5o:=P5.EY
 have Rm:=Za N5.ZD.2
 obtain⟨g6,PQ⟩:=Zy (g5.push (.cells [.int .i64 q.own.p.r,.int .i64 q.own.p.n].toArray 102):Hp)
 have k6:Kp Qe o3 g5 o3 g6:=by rw[PQ];exact ZW K5.ZU _
 have x8:ZK o3 g6 g5.size (.cells [.int .i64 q.own.p.r,.int .i64 q.own.p.n].toArray 102):=⟨K5.ZU _ (Nat.le_refl _),by rw[PQ];exact Zb⟩
 have e6:=PQ.symm
 have N6:=N5.still k6
 have W6:=W5.still k6
 have K6:Kp (Xu i) o h o3 g6:=K5.trans (ZC k6)
 have P6h:=(Zx N6.ZD.2 N6.pt.store.len).heard
 have mY:=Za N6.ZD.2
 have l8:=Za x8.2
 have r8:rd g6 ⟨g5.size,0,none⟩ 2=some [.int .i64 q.own.p.r,.int .i64 q.own.p.n]:=Zo x8.2 rfl
 obtain⟨kb,nW⟩:=Zy (g5.size)
 simp -implicitDefEqProofs only[go_sem,↓reduceIte,f0,f1,f109,P5o,Rm,e6]
 rw[←nW]at x8 l8 r8 ⊢
 refine VS.mono (N:=fun F' g'=>Zf g6.size g6 g'∧F' 0=.pointer (some ⟨wb,0,none⟩)∧F' 1=.pointer (some ⟨nb,0,none⟩)∧F' 8=.pointer (some ⟨kb,0,none⟩)∧F' 120=.bool (decide (below q.own.p q.heard))) ?_ ?_ (fun _ _ _ h=>h) (fun _ _ h=>h)
 ·refine VS.z (g6.size) [5] (.p 0 (.p 1 (.p 2 (.q 3 (.q 4 (.w 5 .nil)))))) mixed (by kernel_rfl) ?_
  simp -implicitDefEqProofs only[go_sem,↓reduceIte,f0,f1,P6h,r8,mY,l8]
  refine (PM T g6 q.heard q.own.p).use ?_
  rintro _ g ⟨rfl,b⟩
  simp -implicitDefEqProofs only[go_sem,↓reduceIte,b]
  exact⟨f0,f1⟩
 clear f0 f1
 rintro F7 g7 ⟨b7,f0,f1,f8,f120⟩
 have kb7:=ZB K6.ZU b7
 have N7:=N6.still kb7
 have W7:=W6.still kb7
 have K7:Kp (Xu i) o h o3 g7:=K6.trans (ZC kb7)
 have y8:=x8.Zd kb7
 have P7h:=(Zx N7.ZD.2 N7.pt.store.len).heard
 have zm:=Za N7.ZD.2
 have m8:=Za y8.2
 by_cases c6:below q.own.p q.heard
 all_goals
 first
 | (have eb:Uj q=q.heard:=by unfold Uj;rw[if_pos c6]
    obtain⟨g8,PC⟩:=Zy (g7.setIfInBounds kb (.cells [.int .i64 q.heard.r,.int .i64 q.heard.n].toArray 102):Hp)
    have w8:wr g7 ⟨kb,0,none⟩ [.int .i64 q.heard.r,.int .i64 q.heard.n]=some g8:=by rw[ZP y8.2 0 _,PC];rfl
    have k8:Kp Qe o3 g5 o3 g8:=by rw[PC];exact (k6.trans kb7).CX (by omega) _
    have z8:ZK o3 g8 kb (.cells [.int .i64 (Uj q).r,.int .i64 (Uj q).n].toArray 102):=⟨y8.1,by rw[PC,eb];exact Zt y8.2⟩
    simp -implicitDefEqProofs only[go_sem,↓reduceIte,f0,f1,f8,f120,c6,P7h,zm,w8])
 | (have eb:Uj q=q.own.p:=by unfold Uj;rw[if_neg c6]
    obtain⟨g8,PC⟩:=Zy (g7:Hp)
    have k8:Kp Qe o3 g5 o3 g8:=by rw[PC];exact k6.trans kb7
    have z8:ZK o3 g8 kb (.cells [.int .i64 (Uj q).r,.int .i64 (Uj q).n].toArray 102):=⟨y8.1,by rw[PC,eb];exact y8.2⟩
    simp -implicitDefEqProofs only[go_sem,↓reduceIte,f120,c6]
    rw[←PC])
 all_goals
  have N8:=N5.still k8
  have W8:=W5.still k8
  have K8:Kp (Xu i) o h o3 g8:=K5.trans (ZC k8)
  have P8:=Zx N8.ZD.2 N8.pt.store.len
  have P8t:=P8.Xh
  have P8l:=P8.log
  rw[ME]at P8l
  have sQ:=Za N8.ZD.2
  have n8:=Za z8.2
  have s8:rd g8 ⟨kb,0,none⟩ 2=some [.int .i64 (Uj q).r,.int .i64 (Uj q).n]:=Zo z8.2 rfl
  refine VS.z (g8.size) [14] (.p 0 (.p 1 (.p 2 (.p 3 (.p 4 (.q 5 (.q 6 (.p 7 (.p 8 (.p 9 (.q 10 (.p 11 (.p 12 (.p 13 (.w 14 .nil))))))))))))))) mixed (by kernel_rfl) ?_
  simp -implicitDefEqProofs only[go_sem,↓reduceIte,f0,f1,f8,P8t,P8l,s8,sQ,n8]
  have rl:(fl++ls).length≤1000000000000:=by rw[List.length_append];omega
  refine (Uv T g8 o3 wb nb Z4 q.me oK _ bad told q.Xh ⟨5,0,0,Uj q,Tf q.log.length Jy oF,[]⟩ (.slice none 0 0) K8.ZU W8 P8.me sQ (Im.nil _ _ _ _) rl).use ?_
  rintro v' g9 ⟨o9,WA9,k9,_,W9⟩
  simp -implicitDefEqProofs only[go_sem,↓reduceIte]
  exact⟨o9,a3,WA9,K8.trans (k9.mono fun t q=>by rcases q with rfl|rfl<;>simp[Xu]),N8.Zd k9 (by rintro t (rfl|rfl)<;>simp[Tg.of]),by rw[←List.append_assoc];exact W9⟩
structure Ao (n:Nd) (l:YY) (fl told:Nat):Prop where
 kind:0≤l.kind∧l.kind≤7
 room:fl≤1000000000000
 YD:n.own.l.length≤1000000
 data:n.data.length≤1000000
 known:n.known.length≤100000000000
 log:n.log.length≤100000000000
 told:told≤100000000000
 queue:n.queue.length≤1000000000000
 waiting:n.waiting.length≤1000000000000
 VU:∀r s,n.Zi=some r→((Y9 r.Jk s).getD []).length≤1000000
structure nc (n:Nd) (fl:Nat):Prop where
 room:fl≤800000000000
 YD:n.own.l.length≤1000000
 data:n.data.length≤1000000
 rgn:∀r,n.Zi=some r→(∀x∈r.prom,x.2.length≤1000000)∧(∀x∈r.prom,∀v∈x.2,v.slot≤1000000)∧r.prom.length≤1000000000000
 log:n.log.length≤100000000000
 queue:n.queue.length≤10000000000
 Xh:0≤n.Xh∧n.Xh<5
def So:Nd→List YY→Nat→Nat→Prop
 | _,[],_,_=>True
 | n,l :: k,f,t=>n.ZQ.isSome=true∨(Ao { n with inbox:=k } l f t∧So (handle { n with inbox:=k } l).n k (f+(handle { n with inbox:=k } l).ls.length) (t+(handle { n with inbox:=k } l).ts.length))
structure Ap (n:Nd) (fl told:Nat):Prop where
 data:n.data.length≤1000000
 room:fl≤1000000000000
 dr:n.ZQ=none→So n n.inbox fl told
 du:n.ZQ=none→(drain n n.inbox).n.ZQ=none→nc (drain n n.inbox).n (fl+(drain n n.inbox).ls.length)
theorem GJ (n:Nd) (l:YY) (k:List YY):(handle { n with inbox:=k } l).n.inbox=k:=by
 have hL:∀(m:Nat) (x:Nd),(YH m x).1.inbox=x.inbox:=by
  intro m
  induction m with
  | zero=>intro x;rfl
  | succ m ih=>
   intro x
   unfold YH
   split
   ·rfl
   ·simp only;rw[ih];rfl
 have hl:∀(x:Nd) s c,(Ui x s c).n.inbox=x.inbox:=fun x s c=>by unfold Ui;simp only;rw[hL];rfl
 have hn:∀x:Nd,(notes x l).inbox=x.inbox:=fun x=>by unfold notes;split<;>rfl
 unfold handle
 split
 ·unfold YO;split;· rfl
  split;· rfl
  split<;>rfl
 split
 ·unfold Yr
  split
  ·rfl
  ·split
   ·split<;>rfl
   ·split;· rfl
    split
    ·rw[hl];rfl
    ·rfl
 split
 ·unfold asked;split;· rfl
  split;· rfl
  split<;>rfl
 split
 ·unfold add;simp only;split<;>rfl
 split
 ·unfold UR;split
  ·simp only;rw[hn]
  ·simp only;rw[hn]
 split
 ·rw[hl]
 ·simp only;rw[hn]
theorem sR {o:Ow} {t:Tg} {h:Hp} {v:Value} {l:YY} {k:List YY} (s:Qz o t h v (l :: k)) :
  ∃w b off c,v=.slice (some ⟨b,off,none⟩) (k.length+1) c∧k.length+1≤c∧rd h ⟨b,off,none⟩ 14=some (YP l w)∧UZ o h w l.vs∧Qz o t h (.slice (if c=1 then some ⟨b,off,none⟩ else some ⟨b,off+14,none⟩) k.length (c-1)) k:=by
 obtain⟨xs,h1,h2,h3⟩:=s
 cases xs with
 | nil=>cases h1
 | cons x xs=>
  obtain⟨l',w⟩:=x
  simp only[List.map_cons,List.cons.injEq]at h1
  obtain⟨rfl,rfl⟩:=h1
  have h2':=h2
  rcases h2 with⟨_,e,_⟩|⟨b,off,cap,pre,spare,g1,rfl,g3,g4,g5,g6,g7⟩
  ·cases e
  refine⟨w,b,off,cap,by rw[List.length_map];rfl,by rw[List.length_map];exact g7,?_,h3 (l',w) (by simp),?_⟩
  ·have e1:Zu Nx ((l',w) :: xs)=YP l' w++Zu Nx xs:=by simp[Zu,Nx]
   have g5':(Zu Nx ((l',w) :: xs)).length=(xs.length+1)*14:=g5
   rw[Z3 g3 (by simp only[List.length_append];omega),←g4,List.drop_left,e1,List.append_assoc]
   rfl
  ·refine⟨xs,rfl,?_,fun x hx=>h3 x (by simp[hx])⟩
   have tl:=h2'.tail (k:=1) (by simp)
   have e1:Zu Nx ((l',w) :: xs)=YP l' w++Zu Nx xs:=by simp[Zu,Nx]
   rw[e1]at tl
   have e2:(YP l' w++Zu Nx xs).drop (1*14)=Zu Nx xs:=rfl
   rw[e2]at tl
   simpa [YN] using tl
def Dj (nb:Nat) (g:Hp):Nat:=match hc g ⟨nb,54,none⟩ with
 | some (.slice _ m _)=>m
 | _=>0
theorem Dk {o:Ow} {h:Hp} {wb i nb:Nat} {a:NA} {n:Nd} (N:ZH o h wb i nb a n):Dj nb h=n.inbox.length:=by
 obtain⟨xs,h1,h2,_⟩:=N.pt.inbox
 obtain⟨p,c,h3,_⟩:=h2.isSlice
 have:=(Zx N.ZD.2 N.pt.store.len).inbox
 unfold Dj
 rw[this,h3,←h1,List.length_map]
theorem Dl {i:Nat} (t:Tg) (q:zc i t):Xu i t:=by
 rcases q with rfl|rfl|rfl|rfl|rfl
 ·exact .inl rfl
 ·exact .inr (.inl rfl)
 all_goals exact .inr (.inr (.inr rfl))
set_option maxHeartbeats 4000000 in
theorem nf (T:World) (h:Hp) (o:Ow) (wb i nb:Nat) (Z4:Nat→Nat) (a:NA) (n:Nd) (Yy:WA) (fl:List YY) (bad:Nat→Int) (told:List TS) (d:Q3 o h)
  (N:ZH o h wb i nb a n) (W:ZE o h wb Z4 Yy fl bad told) (tb:DT o h) (ok:Ap n fl.length told.length) :
  Zc Tryz.prog T 57 #[Zn wb,Zn nb] h fun v' h'=>∃o' a' Xl,Kp (Xu i) o h o' h'∧ZH o' h' wb i nb a' (step n).n∧ZE o' h' wb Z4 Xl (fl++(step n).ls) bad (told++(step n).ts):=by
 refine Zc.Zh (args:=[_,_]) Tryz.func57 rfl rfl rfl rfl ?_
 unfold Zn
 have P:=Zx N.ZD.2 N.pt.store.len
 have WS:=Za N.ZD.2
 have Pu:=P.up
 cases hu:n.up with
 | false=>
  have e1:step n=⟨n,[],[]⟩:=by unfold step;rw[hu];rfl
  rw[hu]at Pu
  rw[e1,List.append_nil,List.append_nil]
  simp -implicitDefEqProofs only[go_sem,↓reduceIte,Pu]
  exact⟨o,a,Yy,Kp.refl d _,N,W⟩
 | true=>
 rw[hu]at Pu
 have Pp:=P.ZQ
 cases hp:n.ZQ with
 | some p=>
  have e1:step n=finish (synced n) p:=by unfold step;rw[hu,hp];rfl
  rw[e1]
  have Pn:=N.pt.ZQ
  rw[hp]at Pn
  obtain⟨f,l,hf⟩:∃f l,a.ZQ=.func (.func f) #[] l:=by
   rcases Pn.fn with⟨c,_⟩|⟨_,c⟩
   ·cases c
   ·exact c
  have Pp':=Pp
  rw[hf]at Pp'
  obtain⟨pd,cd,PZ⟩:=N.pt.data.1.isSlice
  have PZ:a.data=.slice pd n.data.length cd:=PZ
  have Pt:=P.tape
  rw[PZ]at Pt
  have Nd:=N.pt.data
  rw[PZ]at Nd
  simp -implicitDefEqProofs only[go_sem,↓reduceIte,Pu,Pp',Pt]
  refine (qx T h _ n.Xq n.data Nd.bs (by have:=ok.data;omega)).use ?_
  rintro v1 h1 ⟨b1,s1⟩
  have kb:=ZB d b1
  have N1:=N.still kb
  have W1:=W.still kb
  obtain⟨p1,c1,rfl,i1⟩:∃p1 c1,v1=.tuple [.agg [.slice p1 (synced n).data.length c1,.int .i64 (synced n).Xq].toArray,.int .i64 (if Y1 n.data n.Xq then 0 else 5)].toArray∧VT o h1 (.slice p1 (synced n).data.length c1) (synced n).data:=by
   unfold Bf at s1
   by_cases c:Y1 n.data n.Xq
   ·rw[if_pos (show n.data.length≤100000∧0≤n.Xq∧n.Xq≤n.data.length from c)]at s1
    obtain⟨w,rfl,o1⟩:=s1
    obtain⟨p1,c1,rfl,_⟩:=o1.bs.open
    have e2:(synced n).data=n.data:=by unfold synced;simp only;rw[if_pos c]
    have e3:(synced n).Xq=n.data.length:=by unfold synced;simp only;rw[if_pos c]
    rw[e2,e3,if_pos c]
    exact⟨p1,c1,rfl,Im.QK o1.own (fun b hb=>d b hb),o1.byte⟩
   ·rw[if_neg (show ¬(n.data.length≤100000∧0≤n.Xq∧n.Xq≤n.data.length) from c)]at s1
    have e2:(synced n).data=[]:=by unfold synced;simp only;rw[if_neg c]
    have e3:(synced n).Xq=0:=by unfold synced;simp only;rw[if_neg c]
    rw[e2,e3,if_neg c]
    exact⟨none,0,s1,Im.nil _ _ _ _,fun x hx=>by cases hx⟩
  obtain⟨g2,w2,N2,k2⟩:=ZT.write (a:={ a with data:=.slice p1 (synced n).data.length c1 }) (n:={ n with data:=(synced n).data,Xq:=(synced n).Xq }) { N1.pt with data:=i1 } kb.ZU N1.ZD ((YI N1.ZD.2 N1.pt.store.len).tape (.slice p1 (synced n).data.length c1) (synced n).Xq rfl)
  have Jv:=Za N1.ZD.2
  have JA:=Za N2.ZD.2
  have Aq:hc g2 ⟨nb,55,none⟩=some a.ZQ:=(Zx N2.ZD.2 N2.pt.store.len).ZQ
  have pn:Q2 o g2 wb i nb a.Zi .nilFunc none:=rfl
  obtain⟨g3,w3,N3,k3⟩:=ZT.write (a:={ a with data:=.slice p1 (synced n).data.length c1,ZQ:=.nilFunc }) (n:=synced n) { N2.pt with ZQ:=pn } k2.ZU N2.ZD ((YI N2.ZD.2 N2.pt.store.len).ZQ .nilFunc rfl)
  have K3:Kp (Xu i) o h o g3:=((ZC kb).trans (k2.mono fun t q=>.inr (.inr (.inr (by rw[q];rfl))))).trans (k3.mono fun t q=>.inr (.inr (.inr (by rw[q];rfl))))
  have W3:=(W1.Zd k2 (by rintro t rfl;simp[Tg.of])).Zd k3 (by rintro t rfl;simp[Tg.of])
  have Pn3:Q2 o g3 wb i nb a.Zi a.ZQ (some p):=((Pn.Zd kb (by rintro⟨⟩)).Zd k2 (by intro e;cases e)).Zd k3 (by intro e;cases e)
  clear hf Pp'
  rw[show (finish (synced n) p).ts=[] from by cases p<;>rfl,List.append_nil]
  have rm:=ok.room
  have hns:(synced n).ZQ=none:=rfl
  cases p with
  | Ig acc to b vs=>
   obtain⟨b6,b4,b9,u,h1',h2',h3',xR,xV⟩:=Pn3
   have cf:=rX T g3 o wb i nb Z4 Yy fl bad told _ (synced n) acc to b vs b6 b4 b9 u k3.ZU N3 W3 rm h2' h3' xR xV
   rw[h1']at Aq
   unfold U6 at Aq
   simp only[List.map]at Aq
   unfold Zn at Aq cf
   simp -implicitDefEqProofs only[go_sem,↓reduceIte,w2,Jv,Aq,w3,JA]
   refine cf.use ?_
   rintro v' h' ⟨o',a',Xl,k,N',W'⟩
   simp -implicitDefEqProofs only[go_sem,↓reduceIte]
   exact⟨o',a',Xl,K3.trans (k.mono Dl),N',W'⟩
  | Kx acc to x=>
   obtain⟨b6,b4,b9,u,h1',h2',h3',xR,xV⟩:=Pn3
   have cf:=rY T g3 o wb i nb Z4 Yy fl bad told _ (synced n) acc to x b6 b4 b9 u k3.ZU N3 W3 rm h2' h3' xR xV
   rw[h1']at Aq
   unfold U6 at Aq
   simp only[List.map]at Aq
   unfold Zn at Aq cf
   simp -implicitDefEqProofs only[go_sem,↓reduceIte,w2,Jv,Aq,w3,JA]
   refine cf.use ?_
   rintro v' h' ⟨o',a',Xl,k,N',W'⟩
   simp -implicitDefEqProofs only[go_sem,↓reduceIte]
   exact⟨o',a',Xl,K3.trans (k.mono Dl),N',W'⟩
  | own acc vs cur=>
   obtain⟨b6,b4,b7,b5,h1',cf⟩:=rZ T g3 o wb i nb _ (synced n) acc vs cur a.ZQ k3.ZU N3 hns Pn3
   rw[h1']at Aq
   unfold U6 at Aq
   simp only[List.map]at Aq
   unfold Zn at Aq cf
   rw[show (finish (synced n) (.own acc vs cur)).ls=[] from rfl,List.append_nil]
   simp -implicitDefEqProofs only[go_sem,↓reduceIte,w2,Jv,Aq,w3,JA]
   refine cf.use ?_
   rintro v' h' ⟨o',a',k,N'⟩
   simp -implicitDefEqProofs only[go_sem,↓reduceIte]
   exact⟨o',a',Yy,K3.trans (k.mono fun t q=>by rcases q with rfl|rfl|rfl<;>exact .inr (.inr (.inr rfl))),N',W3.Zd k (fun t q=>by rcases q with rfl|rfl|rfl<;>simp[Tg.of])⟩
 | none=>
  have Pp0:a.ZQ=.nilFunc:=by have:=N.pt.ZQ;rw[hp]at this;exact this
  have Pp1:=P.ZQ
  rw[Pp0]at Pp1
  simp -implicitDefEqProofs only[go_sem,↓reduceIte,Pu,Pp1]
  obtain⟨D,hD⟩:=Zy (drain n n.inbox)
  have dr:=ok.dr hp
  have du:=ok.du hp
  have e1:step n=if D.n.ZQ.isSome=true then D else ⟨(Uf D.n).n,D.ls++(Uf D.n).ls,D.ts++(Uf D.n).ts⟩:=by unfold step;rw[hu,hp,hD];rfl
  rw[←hD]at du
  rw[e1]
  refine VS.ZV (fun F g=>F 0=.pointer (some ⟨wb,0,none⟩)∧F 1=.pointer (some ⟨nb,0,none⟩)∧∃(o':Ow) (a':NA) (Xl:WA) (m:Nd) (ls:List YY) (ts:List TS),Kp (Xu i) o h o' g∧ZH o' g wb i nb a' m∧ZE o' g wb Z4 Xl (fl++ls) bad (told++ts)∧D=⟨(drain m m.inbox).n,ls++(drain m m.inbox).ls,ts++(drain m m.inbox).ts⟩∧So m m.inbox (fl.length+ls.length) (told.length+ts.length))
   (fun _ g=>Dj nb g) rfl ⟨rfl,rfl,o,a,Yy,n,[],[],Kp.refl d _,N,by simpa using W,by rw[hD];rfl,by simpa using dr⟩ ?_
  clear Pu Pp Pp0 Pp1 P WS N W d
  rintro F1 g1 ⟨f0,f1,o1,a1,oL,m,ls,ts,K1,N1,W1,hDm,dr1⟩
  have P1:=Zx N1.ZD.2 N1.pt.store.len
  have Jv:=Za N1.ZD.2
  have zn:=P1.inbox
  have sI:=P1.ZQ
  have stop:(m.inbox=[]∨m.ZQ.isSome=true)→D=⟨m,ls,ts⟩:=by
   intro q
   have e2:drain m m.inbox=⟨m,[],[]⟩:=by
    cases oM:m.inbox with
    | nil=>unfold drain;rw[←oM]
    | cons l k=>
     rcases q with q|q
     ·rw[oM]at q;cases q
     ·unfold drain;rw[if_pos q,←oM]
   rw[hDm,e2];simp
  rcases N1.pt.ZQ.fn with⟨c1,c2⟩|⟨c1,f,fl',c2⟩
  ·rw[c2]at sI
   cases oM:m.inbox with
   | nil=>
    have eD:=stop (.inl oM)
    obtain⟨p,c,hi⟩:∃p c,a1.inbox=.slice p 0 c:=by
     have:=N1.pt.inbox
     rw[oM]at this
     obtain⟨xs,h1,h2,_⟩:=this
     obtain⟨p,c,h3,_⟩:=h2.isSlice
     rw[List.map_eq_nil_iff]at h1
     subst h1
     exact⟨p,c,h3⟩
    rw[hi]at zn
    have vu:=du (by rw[eD];exact c1)
    rw[eD]at vu
    rw[eD,if_neg (by rw[c1];simp)]
    have cd:=sO T g1 o1 wb i nb Z4 a1 m oL (fl++ls) bad (told++ts) K1.ZU N1 W1 (tb.Zd K1) c1 (by rw[List.length_append];exact vu.room) vu.YD vu.data vu.rgn vu.log vu.queue vu.Xh
    unfold Zn at cd
    simp -implicitDefEqProofs only[go_sem,↓reduceIte,f0,f1,zn,sI]
    refine cd.use ?_
    rintro v' g2 ⟨o2,a2,WA2,k2,N2,W2⟩
    simp -implicitDefEqProofs only[go_sem,↓reduceIte]
    have edt:(Uf m).ts=[]:=by
     unfold Uf
     split
     ·exact (Ro _).2.2.2.2.2
     ·rfl
    refine⟨o2,a2,WA2,K1.trans k2,N2,?_⟩
    rw[edt,List.append_nil,←List.append_assoc]
    exact W2
   | cons l k=>
    have NI:=N1.pt.inbox
    rw[oM]at NI
    obtain⟨w,b,off,c,hi,Uo,PO,iv,tl⟩:=sR NI
    rw[hi]at zn
    rw[oM]at dr1
    have hk:Ao { m with inbox:=k } l (fl.length+ls.length) (told.length+ts.length)∧So (handle { m with inbox:=k } l).n k (fl.length+ls.length+(handle { m with inbox:=k } l).ls.length) (told.length+ts.length+(handle { m with inbox:=k } l).ts.length):=by
     rcases dr1 with q|q
     ·rw[c1]at q;cases q
     ·exact q
    obtain⟨hk,dr2⟩:=hk
    have DU:D=⟨(drain (handle { m with inbox:=k } l).n k).n,(ls++(handle { m with inbox:=k } l).ls)++(drain (handle { m with inbox:=k } l).n k).ls,(ts++(handle { m with inbox:=k } l).ts)++(drain (handle { m with inbox:=k } l).n k).ts⟩:=by
     rw[hDm,oM]
     have e2:drain m (l :: k)=⟨(drain (handle { m with inbox:=k } l).n k).n,(handle { m with inbox:=k } l).ls++(drain (handle { m with inbox:=k } l).n k).ls,(handle { m with inbox:=k } l).ts++(drain (handle { m with inbox:=k } l).n k).ts⟩:=by
      rw[drain];rw[if_neg (by rw[c1];simp)]
     rw[e2];simp
    have SX:=GJ m l k
    clear stop dr1 hDm
    obtain⟨pw,cw,rfl⟩:=iv.isSlice
    obtain⟨g2,Qt⟩:=Zy (g1.push (.cells (YP l (.slice pw l.vs.length cw)).toArray 148):Hp)
    have k2:Kp Qe o1 g1 o1 g2:=by rw[Qt];exact ZW K1.ZU _
    have x5:ZK o1 g2 g1.size (.cells (YP l (.slice pw l.vs.length cw)).toArray 148):=⟨K1.ZU _ (Nat.le_refl _),by rw[Qt];exact Zb⟩
    have e2:=Qt.symm
    have N2:=N1.still k2
    have W2:=W1.still k2
    have P2i:=(Zx N2.ZD.2 N2.pt.store.len).inbox
    rw[hi]at P2i
    have JA:=Za N2.ZD.2
    obtain⟨vi',hvi⟩:∃v:Value,v=.slice (if c=1 then some ⟨b,off,none⟩ else some ⟨b,off+14,none⟩) k.length (c-1):=⟨_,rfl⟩
    have tl2:Qz o1 (.inbox i) g2 vi' k:=by rw[hvi];exact tl.Zd k2 (fun q=>q.elim)
    obtain⟨g3,w3,N3,k3⟩:=ZT.write (a:={ a1 with inbox:=vi' }) (n:={ m with inbox:=k }) { N2.pt with inbox:=tl2 } k2.ZU N2.ZD ((YI N2.ZD.2 N2.pt.store.len).inbox vi' (by rw[hvi];rfl))
    rw[hvi]at w3
    have y5:=x5.Zd k3
    have W3:=W2.Zd k3 (by rintro t rfl;simp[Tg.of])
    have r5:rd g3 ⟨g1.size,0,none⟩ 14=some (YP l (.slice pw l.vs.length cw)):=Zo y5.2 rfl
    have K3:Kp (Xu i) o h o1 g3:=(K1.trans (ZC k2)).trans (k3.mono fun t q=>.inr (.inr (.inr (by rw[q];rfl))))
    have Ix:(1:Int)≤c:=by omega
    have ch:=fM T g3 o1 wb i nb Z4 _ { m with inbox:=k } oL (fl++ls) bad (told++ts) l (.slice pw l.vs.length cw) k3.ZU N3 W3 ((iv.Zd k2).Zd k3) (tb.Zd K3) hk.kind (by rw[List.length_append];exact hk.room) hk.YD hk.data hk.known hk.log (by rw[List.length_append];exact hk.told) hk.queue hk.waiting hk.VU
    unfold Zn YP at ch
    unfold YP at PO e2 r5
    simp -implicitDefEqProofs only[go_sem,↓reduceIte,f0,f1,zn,sI,PO,e2,P2i,JA,w3,Uo,Ix,r5,Nat.add_sub_cancel]
    refine ch.use ?_
    rintro v' g4 ⟨o4,a4,bC,k4,N4,W4⟩
    simp -implicitDefEqProofs only[go_sem,↓reduceIte]
    unfold Y6
    have in4:=Dk N4
    have in1:=Dk N1
    rw[SX]at in4
    rw[oM]at in1
    refine⟨⟨f0,f1,o4,a4,bC,(handle { m with inbox:=k } l).n,ls++(handle { m with inbox:=k } l).ls,ts++(handle { m with inbox:=k } l).ts,K3.trans k4,N4,by rw[←List.append_assoc,←List.append_assoc];exact W4,by rw[SX];exact DU,by rw[SX,List.length_append,List.length_append,←Nat.add_assoc,←Nat.add_assoc];exact dr2⟩,?_⟩
    show Dj nb g4<Dj nb g1
    rw[in4,in1]
    simp
  ·rw[c2]at sI
   have eD:=stop (.inr c1)
   rw[eD,if_pos c1]
   obtain⟨p,c,hi⟩:∃p c,a1.inbox=.slice p m.inbox.length c:=by
    obtain⟨xs,h1,h2,_⟩:=N1.pt.inbox
    obtain⟨p,c,h3,_⟩:=h2.isSlice
    rw[←h1,List.length_map]
    exact⟨p,c,h3⟩
   rw[hi]at zn
   by_cases hz:0<m.inbox.length
   ·have Fb:(0:Int)<m.inbox.length:=by omega
    simp -implicitDefEqProofs only[go_sem,↓reduceIte,f0,f1,zn,sI,Fb]
    exact⟨o1,a1,oL,K1,N1,W1⟩
   ·have Fb:¬(0:Int)<m.inbox.length:=by omega
    simp -implicitDefEqProofs only[go_sem,↓reduceIte,f0,f1,zn,sI,Fb]
    exact⟨o1,a1,oL,K1,N1,W1⟩
def WO (t:Tg):Prop:=True
def ZeB (t:Tg):Prop:=∃i,t.of=some i
theorem Ya {S:Tg→Prop} {o o':Ow} {h h':Hp} (k:Kp S o h o' h'):Kp WO o h o' h':=k.mono fun _ _=>trivial
structure X2 (o:Ow) (h:Hp) (wb:Nat) (Z4:Nat→Nat) (Yy:WA) (w:Wd):Prop where
 wd:ZE o h wb Z4 Yy w.Zl w.bad w.told
 nd:∀i,i<5→∃a,ZH o h wb i (Z4 i) a (w.nodes i)
theorem X2.still {o:Ow} {h h':Hp} {wb:Nat} {Z4:Nat→Nat} {Yy:WA} {w:Wd} {o':Ow} (A:X2 o h wb Z4 Yy w) (k:Kp Qe o h o' h'):X2 o' h' wb Z4 Yy w:=
 ⟨A.wd.still k,fun i hi=>by obtain⟨a,N⟩:=A.nd i hi;exact⟨a,N.still k⟩⟩
theorem X2.Xh {o o':Ow} {h h':Hp} {wb:Nat} {Z4:Nat→Nat} {Yy oL:WA} {w:Wd} {i:Nat} {a:NA} {n:Nd} {fl:List YY} {bad:Nat→Int} {told:List TS} (A:X2 o h wb Z4 Yy w) (k:Kp (Xu i) o h o' h')
  (N:ZH o' h' wb i (Z4 i) a n) (W:ZE o' h' wb Z4 oL fl bad told):X2 o' h' wb Z4 oL { nodes:=fun j=>if j=i then n else w.nodes j,Zl:=fl,bad:=bad,told:=told }:=by
 refine⟨W,fun j hj=>?_⟩
 by_cases e:j=i
 ·subst e
  exact⟨a,by simpa using N⟩
 ·obtain⟨b,M⟩:=A.nd j hj
  refine⟨b,?_⟩
  simp only[if_neg e]
  refine M.Zd k fun t q hq=>?_
  rcases q with rfl|rfl|rfl|q
  ·cases hq
  ·cases hq
  ·cases hq
  ·rw[hq]at q;exact e (Option.some.inj q)
theorem UT {o:Ow} {h:Hp} {wb:Nat} {Z4:Nat→Nat} {Yy:WA} {fl:List YY} {bad:Nat→Int} {told:List TS} (W:ZE o h wb Z4 Yy fl bad told) :
  ∃b off c,Yy.nodes=.slice (some ⟨b,off,none⟩) 5 c∧5≤c∧b<h.size∧∀i,i<5→hc h ⟨b,off+i,none⟩=some (Zn (Z4 i)):=by
 rcases W.nodes with⟨_,e,_⟩|⟨b,off,cap,pre,spare,g1,g2,g3,g4,g5,g6,g7⟩
 ·cases e
 refine⟨b,off,cap,g2,g7,Za g3,fun i hi=>?_⟩
 rw[Zg g3,Yi,←g4,List.getElem?_append_right (by omega),Nat.add_sub_cancel_left]
 match i,hi with
 | 0,_=>rfl
 | 1,_=>rfl
 | 2,_=>rfl
 | 3,_=>rfl
 | 4,_=>rfl
theorem fX {T:World} {K:Value→Hp→Prop} {ty:TypeId} {o:Ow} {t:Tg} {h:Hp} {v:Value} {l:List YY} {x:YY} {w:Value} {bx:Nat} {cb:Array Bool} (s:Qz o t h v l) (d:Q3 o h) (iv:UZ o h w x.vs) (hb:h[bx]? = some (.cells (YP x w).toArray 148)) (hr:l.length≤1000000000000)
  (H:∀p c o' h',Qz o' t h' (.slice p (l.length+1) c) (l++[x])→Kp (fun u=>u=t) o h o' h'→K (.slice p (l.length+1) c) h') :
  Tj Tryz.prog T .append #[95,95] ty cb [v,.slice (some ⟨bx,0,none⟩) 1 1] K h:=by
 have src:Sl 14 h (.slice (some ⟨bx,0,none⟩) 1 1) 1 (YP x w):=⟨_,1,rfl,rfl,fun _=>⟨bx,0,rfl,fun i hi=>by
  rw[Zg hb,Yi,Nat.zero_add];exact List.getElem?_eq_getElem hi⟩⟩
 obtain⟨p,c,hw⟩:=iv.isSlice
 have Y8:Z6 w=true:=by rw[hw];rfl
 obtain⟨xs,Qg,S9,Br⟩:=s
 have BH:xs.length=l.length:=by rw[←Qg,List.length_map]
 refine XQ (E:=148) (n:=14) (bytes:=128) (k:=1) ak Tryz.underlying95 jY ar rfl uC S9 d src (by rw[YP,List.all_eq_true];intro x hx;simp at hx;rcases hx with rfl|rfl|rfl|rfl|rfl|rfl|rfl|rfl|rfl|rfl|rfl|rfl|rfl|rfl<;>first|rfl|exact Y8) (by omega) (by omega) ?_
 intro v' o' h' w' k _
 obtain⟨p',c',rfl,_⟩:=w'.isSlice
 rw[BH]
 refine H p' c' o' h' ⟨xs++[(x,w)],by rw[List.map_append,Qg];rfl,?_,fun y hy=>?_⟩ k
 ·rw[Yc,QU,List.length_append,←BH]
  exact w'
 ·rcases List.mem_append.1 hy with hy|hy
  ·exact (Br y hy).Zd k
  ·have:y=(x,w):=by simpa using hy
   subst this
   exact iv.Zd k
theorem Vs {o:Ow} {t:Tg} {h:Hp} {v:Value} {l:List YY} (s:Qz o t h v l):∃p c,v=.slice p l.length c∧l.length≤c:=by
 obtain⟨xs,h1,h2,_⟩:=s
 obtain⟨p,c,h3,h4⟩:=h2.isSlice
 rw[←h1,List.length_map]
 exact⟨p,c,h3,h4⟩
set_option maxHeartbeats 4000000 in
theorem GK (T:World) (h:Hp) (o:Ow) (wb:Nat) (Z4:Nat→Nat) (Yy:WA) (w:Wd) (l:YY) (v:Value) (d:Q3 o h) (A:X2 o h wb Z4 Yy w) (iv:UZ o h v l.vs) (vw:0≤l.to∧l.to<5)
  (SX:∀i,i<5→(w.nodes i).inbox.length≤1000000000000) :
  Zc Tryz.prog T 59 #[Zn wb,.agg (YP l v).toArray] h fun v' h'=>∃o',Kp ZeB o h o' h'∧X2 o' h' wb Z4 Yy (QV w l):=by
 obtain⟨pw,cw,rfl⟩:=iv.isSlice
 obtain⟨j,hj⟩:∃j:Nat,(j:Int)=l.to:=⟨l.to.toNat,by omega⟩
 have hj5:j<5:=by omega
 have hjn:l.to.toNat=j:=by omega
 refine Zc.Zh (args:=[_,_]) Tryz.func59 rfl rfl rfl rfl ?_
 unfold Zn YP
 obtain⟨h1,Yv⟩:=Zy (h.push (.cells (YP l (.slice pw l.vs.length cw)).toArray 148):Hp)
 have k1:Kp Qe o h o h1:=by rw[Yv];exact ZW d _
 have x3:ZK o h1 h.size (.cells (YP l (.slice pw l.vs.length cw)).toArray 148):=⟨d _ (Nat.le_refl _),by rw[Yv];exact Zb⟩
 have e0:=Yv.symm
 unfold YP at e0
 have A1:=A.still k1
 have R1:=YQ A1.wd.ZD.2
 obtain⟨b,off,c,hn,hc5,hb,PO⟩:=UT A1.wd
 have Rn:=R1.nodes
 rw[hn]at Rn
 have GG:=Za A1.wd.ZD.2
 have r3:hc h1 ⟨h.size,2,none⟩=some (.int .i64 j):=by rw[hj];exact Zg x3.2
 have l3:=Za x3.2
 have rj:=PO j hj5
 unfold Zn at rj
 have Zns:(j:Int)<5:=by omega
 simp -implicitDefEqProofs only[go_sem,↓reduceIte,e0]
 refine VS.mono (N:=fun F' g'=>Zf h1.size h1 g'∧F' 3=.pointer (some ⟨h.size,0,none⟩)∧F' 4=.pointer (some ⟨Z4 j,0,none⟩)) ?_ ?_ (fun _ _ _ h=>h) (fun _ _ h=>h)
 ·refine VS.z (h1.size) [] (.p 0 (.p 1 (.p 2 (.q 3 (.p 4 (.q 5 (.p 6 (.q 7 (.p 8 .nil))))))))) mixed (by kernel_rfl) ?_
  simp -implicitDefEqProofs only[go_sem,↓reduceIte,Rn,r3,GG,l3,hb,Zns,rj]
  try exact Zf.refl _ _
 rintro F1 g1 ⟨b1,f3,f4⟩
 have kb:=ZB k1.ZU b1
 have A2:=A1.still kb
 have K2:=k1.trans kb
 have y3:=x3.Zd kb
 obtain⟨a,N2⟩:=A2.nd j hj5
 have P2:=Zx N2.ZD.2 N2.pt.store.len
 have bD:=P2.up
 have WS:=Za N2.ZD.2
 unfold QV
 rw[hjn]
 cases hu:(w.nodes j).up with
 | false=>
  rw[hu]at bD
  rw[if_neg (by simp)]
  simp -implicitDefEqProofs only[go_sem,↓reduceIte,f4,bD]
  exact⟨o,ZC K2,A2⟩
 | true=>
  rw[hu]at bD
  rw[if_pos rfl]
  obtain⟨pi,ci,hi,_⟩:=Vs N2.pt.inbox
  have P2i:=P2.inbox
  rw[hi]at P2i
  have r3:rd g1 ⟨h.size,0,none⟩ 14=some (YP l (.slice pw l.vs.length cw)):=Zo y3.2 rfl
  unfold YP at r3
  have l3:=Za y3.2
  simp -implicitDefEqProofs only[go_sem,↓reduceIte,f4,bD]
  refine VS.z (g1.size) [7,10] (.p 0 (.p 1 (.p 2 (.p 3 (.q 4 (.q 5 (.s 6 (.w 7 (.p 8 (.p 9 (.w 10 .nil))))))))))) mixed (by kernel_rfl) ?_
  simp -implicitDefEqProofs only[go_sem,↓reduceIte,f3,f4,P2i,r3,WS,l3]
  obtain⟨g2,Qt⟩:=Zy (g1.push (.cells (YP l (.slice pw l.vs.length cw)).toArray 148):Hp)
  have k2:Kp Qe o g1 o g2:=by rw[Qt];exact ZW K2.ZU _
  have e2:=Qt.symm
  unfold YP at e2
  rw[e2]
  have N3:=N2.still k2
  have A3:=A2.still k2
  have K3:=K2.trans k2
  have LI:=N3.pt.inbox
  rw[hi]at LI
  refine fX LI K3.ZU ((iv.Zd K2).Zd k2) (by rw[Qt];exact Zb) (SX j hj5) ?_
  intro p3 c3 o3 g3 L3 k3
  have k3:Kp (fun t=>t=.inbox j) o g2 o3 g3:=k3
  have N4:=ZT.fB N3.pt k3 L3
  have B4:=N3.ZD.Zd k3 (by intro e;cases e)
  have W4:=A3.wd.Zd k3 (by rintro t rfl;simp[Tg.of])
  obtain⟨g5,w5,N5,k5⟩:=ZT.write N4 k3.ZU B4 ((YI B4.2 N3.pt.store.len).inbox (.slice p3 ((w.nodes j).inbox.length+1) c3) rfl)
  have NX:=Za B4.2
  simp -implicitDefEqProofs only[go_sem,↓reduceIte,w5,NX]
  have W5:=W4.Zd k5 (by rintro t rfl;simp[Tg.of])
  have kk:Kp (fun t=>t.of=some j) o g2 o3 g5:=(k3.mono fun t q=>by rw[q];rfl).trans (k5.mono fun t q=>by rw[q];rfl)
  exact⟨o3,(ZC K3).trans (kk.mono fun t q=>⟨j,q⟩),A3.Xh (kk.mono fun t q=>.inr (.inr (.inr q))) N5 W5⟩
theorem bE {o:Ow} {t:Tg} {h:Hp} {v:Value} {l:List YY} (s:Qz o t h v l) (k:Nat) (hk:k<l.length) :
  ∃w b off c,v=.slice (some ⟨b,off,none⟩) l.length c∧l.length≤c∧b<h.size∧rd h ⟨b,off+k*14,none⟩ 14=some (YP l[k] w)∧UZ o h w l[k].vs:=by
 obtain⟨xs,rfl,h2,h3⟩:=s
 rw[List.length_map]at hk
 rcases h2 with⟨_,e,_⟩|⟨b,off,cap,pre,spare,g1,rfl,g3,g4,g5,g6,g7⟩
 ·omega
 refine⟨xs[k].2,b,off,cap,by rw[List.length_map],by rw[List.length_map];exact g7,Za g3,?_,?_⟩
 ·have hlen:∀x,(Nx x).length=14:=fun x=>rfl
  have hle:k*14+14≤xs.length*14:=by omega
  rw[Z3 g3 (by simp only[List.length_append];omega),←g4,List.drop_append,List.drop_of_length_le (by omega),List.nil_append,Nat.add_sub_cancel_left]
  rw[List.drop_append_of_le_length (by omega),List.take_append_of_le_length (by rw[List.length_drop];omega)]
  rw[Vr hlen xs k (by omega),List.drop_eq_getElem_cons hk]
  have e1:Zu Nx (xs[k] :: xs.drop (k+1))=YP xs[k].1 xs[k].2++Zu Nx (xs.drop (k+1)):=by simp[Zu,Nx]
  rw[e1,List.getElem_map]
  rfl
 ·rw[List.getElem_map]
  exact h3 _ (List.getElem_mem hk)
theorem fY {o':Ow} {t:Tg} {h':Hp} {xs:List (YY × Value)} {v:Value} {k:Nat} (hk:k<xs.length) (h2:Ys o' t 148 14 h' v (xs.length-1) ((Zu Nx xs).take (k*14)++(Zu Nx xs).drop ((k+1)*14))) (h3:∀x∈xs,UZ o' h' x.2 x.1.vs) :
  Qz o' t h' v ((xs.map (·.1)).eraseIdx k):=by
 have hlen:∀x,(Nx x).length=14:=fun x=>rfl
 have el:(xs.eraseIdx k).length=xs.length-1:=by rw[List.length_eraseIdx_of_lt hk]
 refine⟨xs.eraseIdx k,?_,?_,fun x hx=>h3 x (List.mem_of_mem_eraseIdx hx)⟩
 ·rw[List.eraseIdx_eq_take_drop_succ,List.eraseIdx_eq_take_drop_succ,List.map_append,List.map_take,List.map_drop]
 ·rw[el]
  have e1:Zu Nx (xs.eraseIdx k)=(Zu Nx xs).take (k*14)++(Zu Nx xs).drop ((k+1)*14):=by
   rw[Sn hlen xs k (by omega),Vr hlen xs (k+1) (by omega),←Yc,List.eraseIdx_eq_take_drop_succ]
  rw[e1]
  exact h2
theorem ZE.He {o o1:Ow} {h h1:Hp} {wb:Nat} {nb:Nat→Nat} {a:WA} {fl fl':List YY} {bad:Nat→Int} {told:List TS} {v:Value} (W:ZE o h wb nb a fl bad told) (k:Kp (fun t=>t=.Zl) o h o1 h1)
  (hv:Qz o1 .Zl h1 v fl') {e:Option Hp} (w:e=some (h1.setIfInBounds wb (.cells (Y2 bad { a with Zl:=v }).toArray 97))) :
  ∃g,e=some g∧ZE o1 g wb nb { a with Zl:=v } fl' bad told∧Kp (fun t=>t=.world) o1 h1 o1 g:=by
 have b:=W.ZD.Zd k (by intro e;cases e)
 have kk:Kp (fun t=>t=.world) o1 h1 o1 (h1.setIfInBounds wb (.cells (Y2 bad { a with Zl:=v }).toArray 97)):=(Kp.refl k.ZU (fun t=>t=.world)).set b.1 rfl _
 exact⟨_,w,⟨⟨b.1,Zt b.2⟩,(W.nodes.Zd k (by intro e;cases e)).Zd kk (by intro e;cases e),hv.Zd kk (by intro e;cases e),(W.told.Zd k (by intro e;cases e)).Zd kk (by intro e;cases e)⟩,kk⟩
theorem X2.sU {S:Tg→Prop} {o o':Ow} {h h':Hp} {wb:Nat} {Z4:Nat→Nat} {Yy oL:WA} {w:Wd} {fl:List YY} {bad:Nat→Int} {told:List TS} (A:X2 o h wb Z4 Yy w) (k:Kp S o h o' h') (hn:∀t,S t→t.of=none) (W:ZE o' h' wb Z4 oL fl bad told) :
  X2 o' h' wb Z4 oL { w with Zl:=fl,bad:=bad,told:=told }:=
 ⟨W,fun i hi=>by obtain⟨a,N⟩:=A.nd i hi;exact⟨a,N.Zd k fun t q e=>by rw[hn t q]at e;cases e⟩⟩
theorem sV {o:Ow} {h:Hp}:∀(xs:List (YY × Value)),(∀x∈xs,UZ o h x.2 x.1.vs)→(Zu Nx xs).all Z6=true:=by
 intro xs
 induction xs with
 | nil=>intro _;rfl
 | cons x xs ih=>
  intro hx
  have e1:Zu Nx (x :: xs)=Nx x++Zu Nx xs:=by simp[Zu]
  obtain⟨p,c,hw⟩:=(hx x (by simp)).isSlice
  rw[e1,List.all_append,ih (fun y hy=>hx y (by simp[hy])),Bool.and_true]
  unfold Nx
  rw[hw];rfl
set_option maxHeartbeats 4000000 in
theorem ng (T:World) (h:Hp) (o:Ow) (wb:Nat) (Z4:Nat→Nat) (Yy:WA) (w:Wd) (at':Nat) (comes stays:Bool) (d:Q3 o h) (A:X2 o h wb Z4 Yy w) (vw:∀l∈w.Zl,0≤l.to∧l.to<5)
  (qZ:w.Zl.length≤1000000000000) (SX:∀i,i<5→(w.nodes i).inbox.length≤1000000000000) :
  Zc Tryz.prog T 58 #[Zn wb,.int .i64 at',.bool comes,.bool stays] h fun v' h'=>∃o' Xl,Kp WO o h o' h'∧X2 o' h' wb Z4 Xl (pick w at' comes stays):=by
 refine Zc.Zh (args:=[_,_,_,_]) Tryz.func58 rfl rfl rfl rfl ?_
 unfold Zn
 have R:=YQ A.wd.ZD.2
 have Rf:=R.Zl
 have GG:=Za A.wd.ZD.2
 obtain⟨pf,cf,hf,hfc⟩:=Vs A.wd.Zl
 rw[hf]at Rf
 by_cases hz:w.Zl.length=0
 ·have hp:pick w at' comes stays=w:=by
   unfold pick
   rw[List.getElem?_eq_none (by rw[hz];exact Nat.zero_le _)]
  rw[hp]
  have Fb:(w.Zl.length:Int)=0:=by omega
  simp -implicitDefEqProofs only[go_sem,↓reduceIte,Rf,Fb]
  exact⟨o,Yy,Kp.refl d _,A⟩
 have Fb:¬(w.Zl.length:Int)=0:=by omega
 obtain⟨k,hk⟩:=Zy (at'%w.Zl.length)
 have hkl:k<w.Zl.length:=by rw[hk];exact Nat.mod_lt _ (by omega)
 have ek:(at':Int).tmod (w.Zl.length:Int)=(k:Int):=by rw[hk];rfl
 have zo:(k:Int)<w.Zl.length:=by omega
 obtain⟨v,b,off,c,hv,hvc,hb,PO,iv⟩:=bE A.wd.Zl k hkl
 rw[hf]at hv
 simp only[Value.slice.injEq]at hv
 obtain⟨rfl,_,rfl⟩:=hv
 obtain⟨l,hl⟩:=Zy (w.Zl[k])
 rw[←hl]at PO iv
 have ic:l∈w.Zl:=by rw[hl];exact List.getElem_mem hkl
 obtain⟨pw,cw,rfl⟩:=iv.isSlice
 obtain⟨h1,Yv⟩:=Zy (h.push (.cells (YP l (.slice pw l.vs.length cw)).toArray 148):Hp)
 have k1:Kp Qe o h o h1:=by rw[Yv];exact ZW d _
 have x9:ZK o h1 h.size (.cells (YP l (.slice pw l.vs.length cw)).toArray 148):=⟨d _ (Nat.le_refl _),by rw[Yv];exact Zb⟩
 have e0:=Yv.symm
 unfold YP at e0 PO
 have A1:=A.still k1
 have R1:=YQ A1.wd.ZD.2
 have R1f:=R1.Zl
 rw[hf]at R1f
 have zp:=Za A1.wd.ZD.2
 have r9:rd h1 ⟨h.size,0,none⟩ 14=some (YP l (.slice pw l.vs.length cw)):=Zo x9.2 rfl
 unfold YP at r9
 have eg:w.Zl[at'%w.Zl.length]? = some l:=by rw[←hk,hl];exact List.getElem?_eq_getElem hkl
 have ep:pick w at' comes stays=if comes=true then QV (if stays=true then w else { w with Zl:=w.Zl.eraseIdx k }) l else (if stays=true then w else { w with Zl:=w.Zl.eraseIdx k }):=by
  unfold pick;rw[eg,hk]
 rw[ep]
 cases stays with
 | true=>
  rw[if_pos rfl]
  cases comes with
  | false=>
   rw[if_neg (by simp)]
   simp -implicitDefEqProofs only[go_sem,↓reduceIte,Rf,Fb,ek,zo,PO,e0]
   exact⟨o,Yy,Ya k1,A1⟩
  | true=>
   rw[if_pos rfl]
   have cc:=GK T h1 o wb Z4 Yy w l (.slice pw l.vs.length cw) k1.ZU A1 (iv.Zd k1) (vw l ic) SX
   unfold Zn YP at cc
   simp -implicitDefEqProofs only[go_sem,↓reduceIte,Rf,Fb,ek,zo,PO,e0,r9]
   refine cc.use ?_
   rintro v' g ⟨o',kk,A'⟩
   simp -implicitDefEqProofs only[go_sem,↓reduceIte]
   exact⟨o',Yy,(Ya k1).trans (Ya kk),A'⟩
 | false=>
  rw[if_neg (show ¬(false=true) by simp)]
  obtain⟨xs,Qg,S9,Br⟩:=A1.wd.Zl
  have BH:xs.length=w.Zl.length:=by rw[←Qg,List.length_map]
  have cd:=E6 T h1 o .Zl Yy.Zl xs.length k (Zu Nx xs) S9 k1.ZU (sV xs Br) (by omega) (by omega)
  rw[hf]at cd
  have ek2:(k:Int)+1=((k:Int)+1):=rfl
  simp -implicitDefEqProofs only[go_sem,↓reduceIte,Rf,Fb,ek,zo,PO,e0,R1f]
  refine cd.use ?_
  rintro v2 g2 ⟨L2,k2⟩
  have k2:Kp (fun t=>t=.Zl) o h1 o g2:=k2
  have L3:Qz o .Zl g2 v2 (w.Zl.eraseIdx k):=by
   rw[←Qg]
   exact fY (by omega) L2 (fun x hx=>(Br x hx).Zd k2)
  have B2:=A1.wd.ZD.Zd k2 (by intro e;cases e)
  obtain⟨p2,c2,rfl,_⟩:=Vs L3
  obtain⟨g3,w3,W3,k3⟩:=A1.wd.He k2 L3 ((YQ B2.2).GF (.slice p2 (w.Zl.eraseIdx k).length c2) rfl)
  have A3:X2 o g3 wb Z4 { Yy with Zl:=.slice p2 (w.Zl.eraseIdx k).length c2 } { w with Zl:=w.Zl.eraseIdx k }:=
   A1.sU (S:=fun t=>t=.Zl∨t=.world) ((k2.mono fun t q=>.inl q).trans (k3.mono fun t q=>.inr q)) (by rintro t (rfl|rfl)<;>rfl) W3
  have zq:=Za B2.2
  have y9:=(x9.Zd k2).Zd k3
  have r9:rd g3 ⟨h.size,0,none⟩ 14=some (YP l (.slice pw l.vs.length cw)):=Zo y9.2 rfl
  unfold YP at r9
  have K3:Kp WO o h o g3:=((Ya k1).trans (Ya k2)).trans (Ya k3)
  cases comes with
  | false=>
   rw[if_neg (show ¬(false=true) by simp)]
   simp -implicitDefEqProofs only[go_sem,↓reduceIte,w3,zq]
   exact⟨o,_,K3,A3⟩
  | true=>
   rw[if_pos rfl]
   have cc:=GK T g3 o wb Z4 _ _ l (.slice pw l.vs.length cw) k3.ZU A3 (((iv.Zd k1).Zd k2).Zd k3) (vw l ic) SX
   unfold Zn YP at cc
   simp -implicitDefEqProofs only[go_sem,↓reduceIte,w3,zq,r9]
   refine cc.use ?_
   rintro v' g ⟨o',kk,A'⟩
   simp -implicitDefEqProofs only[go_sem,↓reduceIte]
   exact⟨o',_,K3.trans (Ya kk),A'⟩
theorem sW (rc:List Nat) (now:Int):EV rc now=(Tb rc now).C:=by
 unfold EV Tb
 split<;>rfl
theorem zu {h:Hp} {wb:Nat} {bad:Nat→Int} {a:WA} (H:h[wb]? = some (.cells (Y2 bad a).toArray 97)) (i:Nat) (hi:i<5) :
  hc h ⟨wb,9+i,none⟩=some (.int .i64 (bad i))∧∀k,Jg h ⟨wb,9+i,none⟩ (.int .i64 k)=some (h.setIfInBounds wb (.cells (Y2 (fun j=>if j=i then k else bad j) a).toArray 97)):=by
 match i,hi with
 | 0,_=>exact⟨Zg H,fun k=>by rw[Yp H,if_pos ⟨by simp[Y2],rfl⟩];rfl⟩
 | 1,_=>exact⟨Zg H,fun k=>by rw[Yp H,if_pos ⟨by simp[Y2],rfl⟩];rfl⟩
 | 2,_=>exact⟨Zg H,fun k=>by rw[Yp H,if_pos ⟨by simp[Y2],rfl⟩];rfl⟩
 | 3,_=>exact⟨Zg H,fun k=>by rw[Yp H,if_pos ⟨by simp[Y2],rfl⟩];rfl⟩
 | 4,_=>exact⟨Zg H,fun k=>by rw[Yp H,if_pos ⟨by simp[Y2],rfl⟩];rfl⟩
theorem nh {i:Nat} (t:Tg) (q:yX i t):Xu i t:=by
 rcases q with rfl|rfl<;>exact .inr (.inr (.inr rfl))
theorem add_same (n:Nd) (x:Cm):(add n x).waiting=n.waiting∧(add n x).me=n.me:=by
 unfold add;split<;>exact⟨rfl,rfl⟩
set_option maxHeartbeats 4000000 in
theorem fZ (T:World) (h:Hp) (o:Ow) (wb:Nat) (Z4:Nat→Nat) (Yy:WA) (w:Wd) (i:Nat) (rc:List Nat) (v:Value) (d:Q3 o h) (A:X2 o h wb Z4 Yy w) (hi:i<5) (fE:(w.nodes i).me=i) (iv:VT o h v rc) (Qa:Td v) (om:rc.length≤140737488355328) (tb:DT o h)
  (hq:(w.nodes i).queue.length≤1000000000000) (hl:(w.nodes i).log.length≤1000000000000) (Mu:(w.nodes i).waiting.length≤1000000000000) (ht:w.told.length≤1000000000000) (hb:0≤w.bad i∧w.bad i≤1000000000000) :
  Zc Tryz.prog T 55 #[Zn wb,Zn (Z4 i),v] h fun v' h'=>∃o' Xl,Kp WO o h o' h'∧X2 o' h' wb Z4 Xl (VQ w i rc):=by
 obtain⟨pv,cv,rfl⟩:=iv.1.isSlice
 refine Zc.Zh (args:=[_,_,_]) Tryz.func55 rfl rfl rfl rfl ?_
 unfold Zn
 obtain⟨a,N⟩:=A.nd i hi
 obtain⟨n,hn⟩:=Zy (w.nodes i)
 unfold VQ
 rw[←hn]at N fE hq hl Mu ⊢
 have P:=Zx N.ZD.2 N.pt.store.len
 have WS:=Za N.ZD.2
 have Pu:=P.up
 cases hu:n.up with
 | false=>
  rw[hu]at Pu
  rw[if_neg (by simp)]
  simp -implicitDefEqProofs only[go_sem,↓reduceIte,Pu]
  exact⟨o,Yy,Kp.refl d _,A⟩
 | true=>
 rw[hu]at Pu
 rw[if_pos rfl]
 have Pl:=P.log
 obtain⟨pl,cl,ME,_⟩:=Ys.isSlice N.pt.log
 have ME:a.log=.slice pl n.log.length cl:=ME
 rw[ME]at Pl
 obtain⟨E,hE⟩:=Zy (Xc rc n.log.length)
 obtain⟨x,hx⟩:=Zy (Tb rc n.log.length)
 have co:=my T h (.slice pv rc.length cv) rc n.log.length iv.bs Qa om tb.tk tb.tn
 rw[sW,←hE,←hx]at co
 rw[←hE,←hx]
 simp -implicitDefEqProofs only[go_sem,↓reduceIte,Pu,Pl]
 refine co.use ?_
 rintro _ g ⟨rfl,b⟩
 have kb:=ZB d b
 obtain⟨g1,PY⟩:=Zy (g.push (.cells x.C.toArray 49):Hp)
 have e1:=PY.symm
 have k1:Kp Qe o h o g1:=by rw[PY];exact kb.push _
 have x6:ZK o g1 g.size (.cells x.C.toArray 49):=⟨kb.ZU _ (Nat.le_refl _),by rw[PY];exact Zb⟩
 have A1:=A.still k1
 have N1:=N.still k1
 have P1:=Zx N1.ZD.2 N1.pt.store.len
 have zv:=P1.me
 rw[fE]at zv
 have Jv:=Za N1.ZD.2
 have zp:=Za A1.wd.ZD.2
 obtain⟨br,bw⟩:=zu A1.wd.ZD.2 i hi
 have r6:rd g1 ⟨g.size,0,none⟩ 5=some x.C:=Zo x6.2 rfl
 have l6:=Za x6.2
 have aH:(i:Int)<5:=by omega
 by_cases hz:E=0
 case neg=>
  rw[if_pos (by simpa using hz)]
  simp -implicitDefEqProofs only[go_sem,↓reduceIte,e1,hz]
  refine VS.z (g1.size) [15] (.p 0 (.p 1 (.p 2 (.p 3 (.q 4 (.p 5 (.p 6 (.p 7 (.p 8 (.q 9 (.p 10 (.p 11 (.p 12 (.p 13 (.p 14 (.w 15 .nil)))))))))))))))) mixed (by kernel_rfl) ?_
  simp -implicitDefEqProofs only[go_sem,↓reduceIte,zv,Jv,zp,aH,br,bw]
  have kk:Kp (fun t=>t=.world) o g1 o (g1.setIfInBounds wb (.cells (Y2 (fun j=>if j=i then w.bad i+1 else w.bad j) Yy).toArray 97)):=(Kp.refl k1.ZU (fun t=>t=.world)).set A1.wd.ZD.1 rfl _
  exact⟨o,Yy,(Ya k1).trans (Ya kk),A1.sU kk (by rintro t rfl;rfl) ⟨⟨A1.wd.ZD.1,Zt A1.wd.ZD.2⟩,A1.wd.nodes.Zd kk (by intro e;cases e),A1.wd.Zl.Zd kk (by intro e;cases e),A1.wd.told.Zd kk (by intro e;cases e)⟩⟩
 rw[if_neg (by simpa using hz)]
 have P1l:hc g1 ⟨Z4 i,11,none⟩=some a.log:=P1.log
 simp -implicitDefEqProofs only[go_sem,↓reduceIte,e1,hz]
 obtain⟨J,hJ⟩:=Zy (Vq n.log x)
 refine VS.mono (N:=fun F' g'=>Zf g1.size g1 g'∧F' 0=.pointer (some ⟨wb,0,none⟩)∧F' 1=.pointer (some ⟨Z4 i,0,none⟩)∧F' 6=.pointer (some ⟨g.size,0,none⟩)∧F' 8=.int .i64 J) ?_ ?_ (fun _ _ _ h=>h) (fun _ _ h=>h)
 ·refine VS.z (g1.size) [5] (.p 0 (.p 1 (.p 2 (.q 3 (.q 4 (.w 5 (.p 6 .nil))))))) mixed (by kernel_rfl) ?_
  simp -implicitDefEqProofs only[go_sem,↓reduceIte,P1l,r6,Jv,l6]
  refine (L0 T g1 _ n.log x N1.pt.log.ts (by omega)).use ?_
  rintro _ g2 ⟨rfl,b2⟩
  simp -implicitDefEqProofs only[go_sem,↓reduceIte,b2,hJ]
 rintro F2 g2 ⟨b2,f0,f1,f6,f8⟩
 have Sx:=ZB k1.ZU b2
 have A2:=A1.still Sx
 have N2:=N1.still Sx
 have y6:=x6.Zd Sx
 have K2:Kp Qe o h o g2:=k1.trans Sx
 have P2:=Zx N2.ZD.2 N2.pt.store.len
 have fW:=P2.me
 rw[fE]at fW
 have JA:=Za N2.ZD.2
 have zq:=Za A2.wd.ZD.2
 have r62:rd g2 ⟨g.size,0,none⟩ 5=some x.C:=Zo y6.2 rfl
 have l62:=Za y6.2
 clear r6 l6 Jv zp br bw P1 zv P1l e1
 by_cases hm:x∈n.log
 ·have hJ0:0≤J:=by rw[hJ];exact (PK _ _).2 hm
  rw[if_pos hm]
  have call:=fun G=>aY T G n.store N2.pt.store x
  have P2s:rd g2 ⟨Z4 i,12,none⟩ 40=some n.store:=P2.store
  obtain⟨D,za⟩:=Zy (GC n.store x)
  obtain⟨E2,fJ⟩:=Zy (PB n.store x)
  obtain⟨c1,Uo⟩:=Zy (Ri n.store x)
  obtain⟨c2,Ix⟩:=Zy (LU n.store x)
  have hD:=N2.pt.store.do x
  rw[←za]at hD
  rw[←za,←fJ,←Uo,←Ix]at call
  rw[←Uo,←Ix]
  have NC:=hD.len
  have DU:=hD.one
  unfold Wr at call
  have Ht:=ZM (zs:=Jp) (vs:=D) (by rw[NC];rfl)
  unfold Jp at Ht
  simp only[rep,List.cons_append,List.nil_append]at Ht
  have wA:∀(G:Hp) (k:Nat),G[k]? = some (.cells Jp.toArray 62)→wr G ⟨k,0,none⟩ D=some (G.setIfInBounds k (.cells D.toArray 62)):=fun G k hx=>by
   rw[ZP hx 0 D,ZM (by rw[NC];rfl),if_pos ⟨by rw[NC];simp[Jp,rep],DU⟩]
  have wB:∀(G:Hp) (k:Nat),G[k]? = some (.cells [.int .i64 0,.int .i64 0].toArray 40)→wr G ⟨k,0,none⟩ [.int .i64 c1,.int .i64 c2]=some (G.setIfInBounds k (.cells [.int .i64 c1,.int .i64 c2].toArray 40)):=fun G k hx=>by
   rw[ZP hx 0 _];rfl
  have gl:∀(G:Hp) (X Y:Obj),((G.push X).push Y)[G.size]? = some X:=fun G X Y=>by rw[Zq (by simp),Zb]
  have gs:∀(G:Hp) (k:Nat) (X Y:Obj),((G.setIfInBounds k X).push Y)[G.size]? = some Y:=fun G k X Y=>by
   have:=Zb (h:=G.setIfInBounds k X) (o:=Y);rwa [Array.size_setIfInBounds]at this
  have gl':=gs
  have gr:∀(G:Hp) (X Y:Obj),((G.push X).push Y)[G.size+1]? = some Y:=fun G X Y=>by
   have:=Zb (h:=G.push X) (o:=Y);rwa [Array.size_push]at this
  simp -implicitDefEqProofs only[go_sem,↓reduceIte,f8,hJ0]
  refine VS.mono (N:=fun F' g'=>Zf g2.size g2 g'∧F' 0=.pointer (some ⟨wb,0,none⟩)∧F' 1=.pointer (some ⟨Z4 i,0,none⟩)∧F' 6=.pointer (some ⟨g.size,0,none⟩)∧∃B,F' 10=.pointer (some ⟨B,0,none⟩)∧g2.size≤B∧g'[B]? = some (.cells [.int .i64 c1,.int .i64 c2].toArray 40)) ?_ ?_ (fun _ _ _ h=>h) (fun _ _ h=>h)
  ·refine VS.z (g2.size) [5,12,13] (.p 0 (.p 1 (.p 2 (.q 3 (.q 4 (.or 5 (.p 6 (.p 7 (.p 8 (.p 9 (.or 10 (.s 11 (.w 12 (.w 13 (.p 14 .nil)))) (.s 11 (.s 10 (.w 12 (.w 13 (.p 14 .nil)))))))))) (.or 10 (.or 5 (.p 6 (.p 7 (.p 8 (.p 9 (.s 11 (.w 12 (.w 13 (.p 14 .nil)))))))) (.s 11 (.w 5 (.p 6 (.p 7 (.p 8 (.p 9 (.w 12 (.w 13 (.p 14 .nil)))))))))) (.s 11 (.or 5 (.p 6 (.p 7 (.p 8 (.p 9 (.s 10 (.w 12 (.w 13 (.p 14 .nil)))))))) (.s 10 (.w 5 (.p 6 (.p 7 (.p 8 (.p 9 (.w 12 (.w 13 (.p 14 .nil)))))))))))))))))) mixed (by kernel_rfl) ?_
   simp -implicitDefEqProofs only[go_sem,↓reduceIte,f0,f1,f6,P2s,JA,l62,r62]
   repeat' (first|with_reducible exact Zf.refl _ _|with_reducible exact Zf.push (by omega) _|with_reducible refine And.intro ?_ ?_)
   all_goals first
    | (refine (call g2).use ?_
       rintro _ g5 ⟨rfl,b5⟩
       have s5:=b5.size
       simp -implicitDefEqProofs only[go_sem,↓reduceIte,b5,NC,DU,Ht]
       refine⟨⟨f0,f1,f6,_,rfl,by omega,gr _ _ _⟩,⟨f0,f1,f6,_,rfl,s5,gl _ _ _⟩⟩)
    | (refine (call (g2.push (.cells _ 62))).use ?_
       rintro _ g5 ⟨rfl,b5⟩
       have s5:=b5.size
       rw[Array.size_push]at s5
       have B5:Zf g2.size g2 g5:=(Zf.push (Nat.le_refl _) _).trans (b5.mono (by simp))
       have xA:=b5.get (k:=g2.size) (by simp) Zb
       have V3:=wA _ _ xA
       have zA:=Za xA
       simp -implicitDefEqProofs only[go_sem,↓reduceIte,B5,NC,DU,V3,zA]
       exact⟨f0,f1,f6,_,rfl,by omega,gs _ _ _ _⟩)
    | (refine (call (g2.push (.cells _ 40))).use ?_
       rintro _ g5 ⟨rfl,b5⟩
       have s5:=b5.size
       rw[Array.size_push]at s5
       have B5:Zf g2.size g2 g5:=(Zf.push (Nat.le_refl _) _).trans (b5.mono (by simp))
       have xB:=b5.get (k:=g2.size) (by simp) Zb
       have L6:=wB _ _ xB
       have zB:=Za xB
       have gB:=Zt (o:=.cells [.int .i64 c1,.int .i64 c2].toArray 40) xB
       simp -implicitDefEqProofs only[go_sem,↓reduceIte,B5,NC,DU,L6,Ht,zB]
       exact⟨f0,f1,f6,_,rfl,Nat.le_refl _,by rw[Zq (by simpa using zB)];exact gB⟩)
    | (refine (call ((g2.push (.cells _ 62)).push (.cells _ 40))).use ?_
       rintro _ g5 ⟨rfl,b5⟩
       have s5:=b5.size
       rw[Array.size_push,Array.size_push]at s5
       have B5:Zf g2.size g2 g5:=((Zf.push (Nat.le_refl _) _).Yf (by simp) _).trans (b5.mono (by simp;omega))
       have xA:=b5.get (k:=g2.size) (by simp;omega) (gl _ _ _)
       have xB:=b5.get (k:=g2.size+1) (by simp) (gr _ _ _)
       have V3:=wA _ _ xA
       have zA:=Za xA
       have OF:=(Yg (o:=.cells D.toArray 62) (show g2.size≠g2.size+1 by omega)).trans xB
       have L6:=wB _ _ OF
       have zB:=Za OF
       simp -implicitDefEqProofs only[go_sem,↓reduceIte,B5,NC,DU,V3,zA,L6,zB]
       exact⟨f0,f1,f6,_,rfl,by omega,Zt OF⟩)
    | (refine (call ((g2.push (.cells _ 40)).push (.cells _ 62))).use ?_
       rintro _ g5 ⟨rfl,b5⟩
       have s5:=b5.size
       rw[Array.size_push,Array.size_push]at s5
       have B5:Zf g2.size g2 g5:=((Zf.push (Nat.le_refl _) _).Yf (by simp) _).trans (b5.mono (by simp;omega))
       have xB:=b5.get (k:=g2.size) (by simp;omega) (gl _ _ _)
       have xA:=b5.get (k:=g2.size+1) (by simp) (gr _ _ _)
       have V3:=wA _ _ xA
       have zA:=Za xA
       have OF:=(Yg (o:=.cells D.toArray 62) (show g2.size+1≠g2.size by omega)).trans xB
       have L6:=wB _ _ OF
       have zB:=Za OF
       simp -implicitDefEqProofs only[go_sem,↓reduceIte,B5,NC,DU,V3,zA,L6,zB]
       exact⟨f0,f1,f6,_,rfl,by omega,Zt OF⟩)
  clear f0 f1 f6 f8
  rintro F5 g5 ⟨b5,f0,f1,f6,B,f10,hB,yB⟩
  have I9:=ZB K2.ZU b5
  have A5:=A2.still I9
  have N5:=N2.still I9
  have z6:=y6.Zd I9
  have K5:Kp Qe o h o g5:=K2.trans I9
  have xB:ZK o g5 B (.cells [.int .i64 c1,.int .i64 c2].toArray 40):=⟨K2.ZU _ hB,yB⟩
  have Znu:=(Zx N5.ZD.2 N5.pt.store.len).me
  have Rm:=Za N5.ZD.2
  have U5:=YQ A5.wd.ZD.2
  have Ar:=Za A5.wd.ZD.2
  have rx1:hc g5 ⟨g.size,1,none⟩=some (.int .i64 x.c):=Zg z6.2
  have rx2:hc g5 ⟨g.size,2,none⟩=some (.int .i64 x.s):=Zg z6.2
  have rB:rd g5 ⟨B,0,none⟩ 2=some [.int .i64 c1,.int .i64 c2]:=Zo yB rfl
  have zx:=Za z6.2
  have zB:=Za yB
  refine VS.z (g5.size) [17,21] (.p 0 (.p 1 (.p 2 (.p 3 (.p 4 (.q 5 (.p 6 (.p 7 (.p 8 (.q 9 (.p 10 (.q 11 (.p 12 (.q 13 (.q 14 (.p 15 (.s 16 (.w 17 (.p 18 (.p 19 (.p 20 (.w 21 .nil)))))))))))))))))))))) mixed (by kernel_rfl) ?_
  simp -implicitDefEqProofs only[go_sem,↓reduceIte,f0,f1,f6,f10,U5.told,Znu,rx1,rx2,rB,Rm,Ar,zx,zB]
  have k6:=ZW K5.ZU (.cells (LZ ⟨n.me,x.c,x.s,c1,c2⟩).toArray 42)
  have A6:=A5.still k6
  refine NB (l:=w.told) (x:=⟨n.me,x.c,x.s,c1,c2⟩) A6.wd.told k6.ZU Zb ht ?_
  intro p7 c7 o7 g7 q7 k7
  have b7:=A6.wd.ZD.Zd k7 (by intro e;cases e)
  obtain⟨g8,w8,W8,k8⟩:=A6.wd.aZ k7 q7 ((YQ b7.2).ve (.slice p7 _ c7) rfl)
  have z7:=Za b7.2
  simp -implicitDefEqProofs only[go_sem,↓reduceIte,w8,z7]
  have A8:=A6.sU (S:=fun t=>t=.told∨t=.world) ((k7.mono fun t q=>.inl q).trans (k8.mono fun t q=>.inr q)) (by rintro t (rfl|rfl)<;>rfl) W8
  exact⟨o7,_,(((Ya K5).trans (Ya k6)).trans (Ya k7)).trans (Ya k8),A8⟩
 ·have hJ0:¬0≤J:=by rw[hJ];exact fun e=>hm ((PK _ _).1 e)
  rw[if_neg hm]
  have ca:=mI T g2 o wb i (Z4 i) a n x K2.ZU N2 hq hl
  unfold Zn Wr at ca
  simp -implicitDefEqProofs only[go_sem,↓reduceIte,f1,f6,f8,hJ0,r62]
  refine ca.use ?_
  rintro v3 g3 ⟨o3,a3,k3,N3⟩
  have k3a:Kp (Xu i) o g2 o3 g3:=k3.mono nh
  obtain⟨aw,am⟩:=add_same n x
  obtain⟨m,qS⟩:=Zy (add n x)
  rw[←qS]at N3 aw am ⊢
  have W3:=A2.wd.Zd k3 (by rintro t (rfl|rfl)<;>simp[Tg.of])
  have z6:=y6.Zd k3
  have P3:=Zx N3.ZD.2 N3.pt.store.len
  have P3w:hc g3 ⟨Z4 i,53,none⟩=some a3.waiting:=P3.waiting
  have Rl:=Za N3.ZD.2
  have r63:rd g3 ⟨g.size,0,none⟩ 5=some x.C:=Zo z6.2 rfl
  have l63:=Za z6.2
  have hmw:m.waiting.length≤1000000000000:=by rw[aw];exact Mu
  have K3:Kp WO o h o3 g3:=(Ya K2).trans (Ya k3)
  simp -implicitDefEqProofs only[go_sem,↓reduceIte]
  refine VS.mono (N:=fun F' g'=>Zf g3.size g3 g'∧F' 1=.pointer (some ⟨Z4 i,0,none⟩)∧F' 6=.pointer (some ⟨g.size,0,none⟩)∧F' 92=.bool (!decide (x∈m.waiting))) ?_ ?_ (fun _ _ _ h=>h) (fun _ _ h=>h)
  ·refine VS.z (g3.size) [5] (.p 0 (.p 1 (.p 2 (.q 3 (.q 4 (.w 5 (.p 6 .nil))))))) mixed (by kernel_rfl) ?_
   simp -implicitDefEqProofs only[go_sem,↓reduceIte,f1,f6,P3w,r63,Rl,l63]
   refine (WL T g3 _ m.waiting x N3.pt.waiting.ts (by omega)).use ?_
   rintro _ g4 ⟨rfl,b4⟩
   simp -implicitDefEqProofs only[go_sem,↓reduceIte,b4]
   exact⟨f1,f6⟩
  clear f0 f1 f6
  rintro F4 g4 ⟨b4,f1,f6,f92⟩
  have kb4:=ZB K3.ZU b4
  have N4:=N3.still kb4
  have W4:=W3.still kb4
  have k4a:Kp (Xu i) o g2 o3 g4:=k3a.trans (ZC kb4)
  have K4:Kp WO o h o3 g4:=K3.trans (Ya kb4)
  by_cases sX:x∈m.waiting
  ·have e5:PG m x=m:=by unfold PG;rw[if_pos sX]
   rw[e5]
   simp -implicitDefEqProofs only[go_sem,↓reduceIte,f92,sX]
   exact⟨o3,_,K4,A2.Xh k4a N4 W4⟩
  ·have e5:PG m x = { m with waiting:=m.waiting++[x] }:=by unfold PG;rw[if_neg sX]
   rw[e5]
   have q6:=z6.Zd kb4
   have P4w:=(Zx N4.ZD.2 N4.pt.store.len).waiting
   obtain⟨pw,cw,hpw,_⟩:=Ys.isSlice N4.pt.waiting
   have hpw:a3.waiting=.slice pw m.waiting.length cw:=hpw
   have P4w:hc g4 ⟨Z4 i,53,none⟩=some (.slice pw m.waiting.length cw):=by rw[←hpw];exact P4w
   have NX:=Za N4.ZD.2
   have r64:rd g4 ⟨g.size,0,none⟩ 5=some x.C:=Zo q6.2 rfl
   have l64:=Za q6.2
   simp -implicitDefEqProofs only[go_sem,↓reduceIte,f92,sX]
   refine VS.z (g4.size) [7,10] (.p 0 (.p 1 (.p 2 (.p 3 (.q 4 (.q 5 (.s 6 (.w 7 (.p 8 (.p 9 (.w 10 .nil))))))))))) mixed (by kernel_rfl) ?_
   simp -implicitDefEqProofs only[go_sem,↓reduceIte,f1,f6,P4w,r64,NX,l64]
   have k5:=ZW K4.ZU (.cells x.C.toArray 49)
   have N5:=N4.still k5
   have W5:=W4.still k5
   have Q5:=N5.pt.waiting
   rw[hpw]at Q5
   refine OE (l:=m.waiting) Q5 k5.ZU Zb hmw ?_
   intro p6 c6 o6 g6 q7 k6
   have b6:=N5.ZD.Zd k6 (by intro e;cases e)
   obtain⟨g7,w7,N7,k7⟩:=(N5.pt.Ny k6 q7).write k6.ZU b6 ((YI b6.2 N5.pt.store.len).waiting (.slice p6 (m.waiting.length+1) c6) rfl)
   have mY:=Za b6.2
   simp -implicitDefEqProofs only[go_sem,↓reduceIte,w7,mY]
   have kk:Kp (Xu i) o g2 o6 g7:=((k4a.trans (ZC k5)).trans (k6.mono fun t q=>.inr (.inr (.inr (by rw[q];rfl))))).trans (k7.mono fun t q=>.inr (.inr (.inr (by rw[q];rfl))))
   exact⟨o6,_,(Ya K2).trans (Ya kk),A2.Xh kk N7 ((W5.Zd k6 (by rintro t rfl;simp[Tg.of])).Zd k7 (by rintro t rfl;simp[Tg.of]))⟩
def Kd (i:Nat) (t:Tg):Prop:=t=.node i∨t=.known i
set_option maxHeartbeats 4000000 in
theorem Ke (T:World) (h:Hp) (o:Ow) (wb i:Nat) (dv:Value) (As:List Nat) (Xq:Int) (vv:Value) (U7:WT) (d:Q3 o h) (iD:VT o h dv As) (iV:UZ o h vv U7.l) :
  Zc Tryz.prog T 54 #[.int .i64 i,.agg #[dv,.int .i64 Xq],.agg #[.int .i64 U7.p.r,.int .i64 U7.p.n,vv]] h fun v' h'=>∃nb o' a',v'=Zn nb∧Zf h.size h h'∧Kp (Kd i) o h o' h'∧ZH o' h' wb i nb a' (blank i true As Xq U7):=by
 obtain⟨pd,cd,rfl⟩:=iD.1.isSlice
 obtain⟨pv,cv,rfl⟩:=iV.isSlice
 refine Zc.Zh (args:=[_,_,_]) Tryz.func54 rfl rfl rfl rfl ?_
 unfold Zn
 obtain⟨h1,Yv⟩:=Zy ((h.push (.cells [.slice pd As.length cd,.int .i64 Xq].toArray 100)).push (.cells [.int .i64 U7.p.r,.int .i64 U7.p.n,.slice pv U7.l.length cv].toArray 105):Hp)
 have k1:Kp Qe o h o h1:=by rw[Yv];exact ((Kp.refl d _).push _).push _
 have x4:ZK o h1 h.size (.cells [.slice pd As.length cd,.int .i64 Xq].toArray 100):=⟨d _ (Nat.le_refl _),by rw[Yv];exact fI _ _ _⟩
 have x5:ZK o h1 (h.size+1) (.cells [.int .i64 U7.p.r,.int .i64 U7.p.n,.slice pv U7.l.length cv].toArray 105):=⟨d _ (by omega),by rw[Yv];exact hQ _ _ _⟩
 have e0:=Yv.symm
 have r4:rd h1 ⟨h.size,0,none⟩ 2=some [.slice pd As.length cd,.int .i64 Xq]:=Zo x4.2 rfl
 have r5:rd h1 ⟨h.size+1,0,none⟩ 3=some [.int .i64 U7.p.r,.int .i64 U7.p.n,.slice pv U7.l.length cv]:=Zo x5.2 rfl
 simp -implicitDefEqProofs only[go_sem,↓reduceIte,e0,r4,r5]
 obtain⟨A,hA⟩:∃A:NA,A=⟨.slice pd As.length cd,.slice pv U7.l.length cv,none,h1.size,.slice none 0 0,.slice none 0 0,.slice none 0 0,.slice none 0 0,.nilFunc⟩:=⟨_,rfl⟩
 obtain⟨h2,UY⟩:=Zy (h1.push (Xg []):Hp)
 obtain⟨h3,oE⟩:=Zy (h2.push (Y4 (blank i true As Xq U7) A):Hp)
 have s2:h2.size=h1.size+1:=by rw[UY];simp
 have ee:h3=(h1.push (.map #[] 0)).push (Y4 (blank i true As Xq U7) A):=by rw[oE,UY];rfl
 rw[hA]at ee
 refine⟨h1.size+1,Ji (Ji o h1.size (.known i)) (h1.size+1) (.node i),A,rfl,?_⟩
 have k2:Kp (Kd i) o h1 (Ji o h1.size (.known i)) h2:=by rw[UY];exact ((Kp.refl k1.ZU _).push _).Tx (Nat.le_refl _) (by simp) (.inr rfl)
 have k3:Kp (Kd i) o h1 (Ji (Ji o h1.size (.known i)) (h1.size+1) (.node i)) h3:=by rw[oE];exact (k2.push _).Tx (by omega) (by rw[Array.size_push];omega) (.inl rfl)
 have kx:Kp (fun t=>t=.node i) (Ji o h1.size (.known i)) h2 (Ji (Ji o h1.size (.known i)) (h1.size+1) (.node i)) h3:=by rw[oE];exact ((Kp.refl k2.ZU _).push _).Tx (by omega) (by rw[Array.size_push];omega) rfl
 have m2:J6 (Ji o h1.size (.known i)) (.known i) h2 h1.size (Ua Wr []):=⟨YR,by rw[UY];exact Zb⟩
 have iD3:=(iD.Zd k1).Zd k3
 have iV3:=(iV.Zd k1).Zd k3
 have K3:Kp (Kd i) o h (Ji (Ji o h1.size (.known i)) (h1.size+1) (.node i)) h3:=(ZC k1).trans k3
 have st:PI Jp:=PI.mK (by kernel_rfl)
 show Zf h.size h ((h1.push (.map #[] 0)).push (Y4 (blank i true As Xq U7) ⟨.slice pd As.length cd,.slice pv U7.l.length cv,none,h1.size,.slice none 0 0,.slice none 0 0,.slice none 0 0,.slice none 0 0,.nilFunc⟩))∧Kp (Kd i) o h _ ((h1.push (.map #[] 0)).push (Y4 (blank i true As Xq U7) ⟨.slice pd As.length cd,.slice pv U7.l.length cv,none,h1.size,.slice none 0 0,.slice none 0 0,.slice none 0 0,.slice none 0 0,.nilFunc⟩))∧ZH _ ((h1.push (.map #[] 0)).push (Y4 (blank i true As Xq U7) ⟨.slice pd As.length cd,.slice pv U7.l.length cv,none,h1.size,.slice none 0 0,.slice none 0 0,.slice none 0 0,.slice none 0 0,.nilFunc⟩)) wb i (h1.size+1) A (blank i true As Xq U7)
 rw[←ee]
 refine⟨by rw[oE,UY,Yv];exact ((((Zf.refl _ _).add _).add _).add _).add _,K3,⟨YR,by rw[oE,←s2];exact Zb⟩,?_⟩
 rw[hA]
 exact⟨iD3,iV3,trivial,m2.Zd kx (by intro e;cases e),Ys.nil _ _ _ _ _,Ys.nil _ _ _ _ _,Ys.nil _ _ _ _ _,⟨[],rfl,Ys.nil _ _ _ _ _,fun x hx=>by cases hx⟩,rfl,st⟩
theorem Dm {S:Tg→Prop} {o o':Ow} {h h':Hp} (k:Kp S o h o' h') {b:Nat} {t u:Tg} (hb:o' b=some t) (ht:S t) (hu:S u):Kp S o h (Ji o' b u) h':=by
 refine⟨k.size,fun c hc hn=>⟨(k.Zd c hc hn).1,?_⟩,fun c hc v hv hs=>?_,fun c hc v hv=>?_,fun c hc=>?_⟩
 ·by_cases e:c=b
  ·subst e
   have:=(k.Zd c hc hn).2
   rw[hb]at this
   exact (hn t this.symm ht).elim
  ·rw[YW e];exact (k.Zd c hc hn).2
 ·by_cases e:c=b
  ·subst e;exact⟨u,YR,hu⟩
  ·rw[YW e];exact k.stay c hc v hv hs
 ·by_cases e:c=b
  ·subst e;rw[YR]at hv;cases hv;exact hu
  ·rw[YW e]at hv;exact k.new c hc v hv
 ·by_cases e:c=b
  ·subst e;rw[k.ZU c hc]at hb;cases hb
  ·rw[YW e];exact k.ZU c hc
def Kf (i:Nat) (t:Tg):Prop:=t=.Zi i∨t=.prom i∨t=.Xb i
theorem ga {o:Ow} {h:Hp} {wb i nb:Nat} {a:NA} {n:Nd} (d:Q3 o h) (N:ZH o h wb i nb a n) :
  ∃o',Kp (Kf i) o h o' h∧ZT o' h wb i nb { a with Zi:=none } { n with Zi:=none,ZQ:=Xb n.ZQ }∧o' nb=some (.node i):=by
 have key:∀o',Kp (Kf i) o h o' h→Q2 o' h wb i nb none a.ZQ (Xb n.ZQ)→ZT o' h wb i nb { a with Zi:=none } { n with Zi:=none,ZQ:=Xb n.ZQ }:=fun o' k p=>
  ⟨N.pt.data.Zd k,N.pt.YD.Zd k,trivial,N.pt.known.Zd k (by rintro (e|e|e)<;>cases e),N.pt.log.Zd k (by rintro (e|e|e)<;>cases e),N.pt.queue.Zd k (by rintro (e|e|e)<;>cases e),N.pt.waiting.Zd k (by rintro (e|e|e)<;>cases e),N.pt.inbox.Zd k (by rintro (e|e|e)<;>cases e),p,N.pt.store⟩
 have hp:=N.pt.ZQ
 have hR:=N.pt.Zi
 cases OG:a.Zi with
 | none=>
  rw[OG]at hp
  refine⟨o,Kp.refl d _,key o (Kp.refl d _) ?_,N.ZD.1⟩
  match hn:n.ZQ,hp with
  | none,hp=>exact hp
  | some (.Ig _ _ _ _),hp=>exact hp
  | some (.Kx _ _ _),hp=>exact hp
  | some (.own _ _ false),hp=>exact hp
  | some (.own _ _ true),⟨b6,b4,b7,b5,w,rb,h1,h2,h3,h4,h5,h6,a',h7,_⟩=>cases h7
 | some ra=>
  rw[OG]at hp hR
  obtain⟨r,hr⟩:∃r,n.Zi=some r:=by
   cases hx:n.Zi with
   | none=>rw[hx]at hR;exact hR.elim
   | some r=>exact⟨r,rfl⟩
  rw[hr]at hR
  have hR:YA o i h ra r:=hR
  have Yq:ra.rb≠ra.pb:=fun e=>by
   have h1:=hR.ZD.1;have h2:=hR.prom.1
   rw[e,h2]at h1;cases h1
  have k1:Kp (Kf i) o h (Ji o ra.rb (.Xb i)) h:=Dm (Kp.refl d (Kf i)) hR.ZD.1 (.inl rfl) (.inr (.inr rfl))
  have nX:Ji o ra.rb (.Xb i) ra.pb=some (.prom i):=by rw[YW (fun e=>Yq e.symm)];exact hR.prom.1
  have k2:Kp (Kf i) o h (Ji (Ji o ra.rb (.Xb i)) ra.pb (.Xb i)) h:=Dm k1 nX (.inr (.inl rfl)) (.inr (.inr rfl))
  obtain⟨o2,oB⟩:=Zy (Ji (Ji o ra.rb (.Xb i)) ra.pb (.Xb i))
  rw[←oB]at k2
  have s1:o2 ra.rb=some (.Xb i):=by rw[oB,YW Yq];exact YR
  have s2:o2 ra.pb=some (.Xb i):=by rw[oB];exact YR
  have so:∀b,b≠ra.rb→b≠ra.pb→o2 b=o b:=fun b e1 e2=>by rw[oB,YW e2,YW e1]
  have sst:∀b,o b=some (.Xb i)→o2 b=some (.Xb i):=fun b hb=>by
   by_cases e1:b=ra.rb
   ·rw[e1];exact s1
   ·by_cases e2:b=ra.pb
    ·rw[e2];exact s2
    ·rw[so b e1 e2];exact hb
  have WS:o2 nb=some (.node i):=by
   rw[so nb (fun e=>by have:=N.ZD.1;rw[e,hR.ZD.1]at this;cases this) (fun e=>by have:=N.ZD.1;rw[e,hR.prom.1]at this;cases this)]
   exact N.ZD.1
  refine⟨o2,k2,key o2 k2 ?_,WS⟩
  match hn:n.ZQ,hp with
  | none,hp=>exact hp
  | some (.Ig a to b vs),⟨b6,b4,b9,u,h1,h2,h3,h4,h5⟩=>exact⟨b6,b4,b9,u,h1,h2.Zd k2,h3.Zd k2,h4.Zd k2,h5.Zd k2⟩
  | some (.Kx a to x),⟨b6,b4,b9,u,h1,h2,h3,h4,h5⟩=>exact⟨b6,b4,b9,u,h1,h2.Zd k2,h3.Zd k2,h4.Zd k2,h5.Zd k2⟩
  | some (.own a vs cur),⟨b6,b4,b7,b5,w,rb,h1,h2,h3,h4,h5,h6,h7⟩=>
   refine⟨b6,b4,b7,b5,w,rb,h1,h2.Zd k2,h3.Zd k2,h4.Zd k2,h5.Zd k2,h6.Zd k2,?_⟩
   rw[if_neg (by simp)]
   cases cur with
   | false=>
    rw[if_neg (by simp)]at h7
    obtain⟨cs,pb,pv,g1,g2,g3⟩:=h7
    exact⟨cs,pb,pv,⟨sst _ g1.1,g1.2⟩,g2,sst _ g3.1,g3.2⟩
   | true=>
    rw[if_pos rfl]at h7
    obtain⟨a',q1,q2⟩:=h7
    obtain rfl:=Option.some.inj q1
    rw[←q2]
    exact⟨_,ra.pb,ra.pv,⟨s1,hR.ZD.2⟩,rfl,s2,hR.prom.2⟩
theorem sY {o:Ow} {h:Hp} {wb i nb:Nat} {ra:Option RA} {v:Value} {p:Option DS} (s:Q2 o h wb i nb none v (Xb p)):Q2 o h wb i nb ra v (Xb p):=by
 match p,s with
 | none,s=>exact s
 | some (.Ig _ _ _ _),s=>exact s
 | some (.Kx _ _ _),s=>exact s
 | some (.own _ _ _),s=>exact s
set_option maxHeartbeats 4000000 in
theorem sZ (T:World) (h:Hp) (o:Ow) (wb i nb:Nat) (a:NA) (n:Nd) (d:Q3 o h) (N:ZH o h wb i nb a n) (hb:n.own.p.r≤1000000000000∧n.heard.r≤1000000000000 ∧ -1000000000000≤n.own.p.r ∧ -1000000000000≤n.heard.r)
  (hr:∀r,n.Zi=some r→r.b.r≤1000000000000 ∧ -1000000000000≤r.b.r) :
  Zc Tryz.prog T 56 #[Zn wb,Zn nb] h fun v' h'=>∃o' a',Kp (fun t=>t.of=some i) o h o' h'∧ZH o' h' wb i nb a' (lead n):=by
 refine Zc.Mb (args:=#[_,_]) Tryz.func56 rfl rfl rfl ?_
 obtain⟨M,hM⟩:=Zy (max n.own.p.r n.heard.r+1)
 refine VS.seq (VS.mono (N:=fun F' g'=>F' 1=.pointer (some ⟨nb,0,none⟩)∧Zf h.size h g'∧∃kb,h.size≤kb∧F' 4=.pointer (some ⟨kb,0,none⟩)∧g'[kb]? = some (.cells [.int .i64 M,.int .i64 n.me].toArray 102)) ?_ ?_ (fun _ _ _ h=>h) (fun _ _ h=>h))
 ·refine XZ _ _ _ _ _ _ rfl ?_
  unfold Zn
  have P:=Zx N.ZD.2 N.pt.store.len
  have WS:=Za N.ZD.2
  simp -implicitDefEqProofs only[go_sem,↓reduceIte]
  refine VS.z (h.size) [19] (.p 0 (.p 1 (.p 2 (.p 3 (.p 4 (.q 5 (.p 6 (.p 7 (.p 8 (.p 9 (.q 10 (.p 11 (.p 12 (.p 13 (.p 14 (.p 15 (.q 16 (.p 17 (.s 18 (.w 19 .nil)))))))))))))))))))) mixed (by kernel_rfl) ?_
  simp -implicitDefEqProofs only[go_sem,↓reduceIte,P.Zmq,P.yU,P.me,WS]
  have em:(if n.heard.r>n.own.p.r then n.heard.r else n.own.p.r)+1=M:=by
   rw[hM]
   split<;>omega
  rw[em]
  exact⟨_,Nat.le_refl _,rfl,Zb⟩
 rintro F1 g1 ⟨f1,b1,kb,nW,f4,y4⟩
 refine VS.seq (VS.mono (N:=fun F' g'=>F' 1=.pointer (some ⟨nb,0,none⟩)∧F' 4=.pointer (some ⟨kb,0,none⟩)∧Zf h.size h g'∧g'[kb]? = some (.cells [.int .i64 (J4 n).r,.int .i64 n.me].toArray 102)) ?_ ?_ (fun _ _ _ h=>h) (fun _ _ h=>h))
 ·refine XZ _ _ _ _ _ _ rfl ?_
  have k1:=ZB d b1
  have N1:=N.still k1
  have P1:=Zx N1.ZD.2 N1.pt.store.len
  have zw:=P1.Zi
  have Jv:=Za N1.ZD.2
  have l4:=Za y4
  have r4:hc g1 ⟨kb,0,none⟩=some (.int .i64 M):=Zg y4
  cases OG:a.Zi with
  | none=>
   rw[OG]at zw
   unfold Rk at zw
   have hn:n.Zi=none:=by
    have:=N.pt.Zi
    rw[OG]at this
    cases hx:n.Zi with
    | none=>rfl
    | some r=>rw[hx]at this;exact this.elim
   have e1:(J4 n).r=M:=by unfold J4;rw[hn,hM]
   rw[e1]
   simp -implicitDefEqProofs only[go_sem,↓reduceIte,f1,zw]
   exact⟨f4,b1,y4⟩
  | some ra=>
   rw[OG]at zw
   unfold Rk Zn at zw
   obtain⟨r,hn⟩:∃r,n.Zi=some r:=by
    have:=N.pt.Zi
    rw[OG]at this
    cases hx:n.Zi with
    | none=>rw[hx]at this;exact this.elim
    | some r=>exact⟨r,rfl⟩
   have R1:YA o i g1 ra r:=by have:=N1.pt.Zi;rw[OG,hn]at this;exact this
   have DW:=Za R1.ZD.2
   have rr0:hc g1 ⟨ra.rb,0,none⟩=some (.int .i64 r.b.r):=Zg R1.ZD.2
   have e1:(J4 n).r=max M (r.b.r+1):=by unfold J4;rw[hn,hM]
   obtain⟨gS,hr2⟩:=hr r hn
   obtain⟨Z,hZ⟩:=Zy ((J4 n).r)
   have hz:(if r.b.r+1>M then r.b.r+1 else M)=Z:=by
    rw[hZ,e1];split<;>omega
   rw[←hZ]
   have w4:Jg g1 ⟨kb,0,none⟩ (.int .i64 Z)=some (g1.setIfInBounds kb (.cells [.int .i64 Z,.int .i64 n.me].toArray 102)):=by rw[Yp y4 0 _];rfl
   simp -implicitDefEqProofs only[go_sem,↓reduceIte,f1,zw]
   refine VS.z (g1.size) [10] (.p 0 (.q 1 (.p 2 (.p 3 (.p 4 (.p 5 (.q 6 (.p 7 (.p 8 (.p 9 (.w 10 .nil))))))))))) mixed (by kernel_rfl) ?_
   simp -implicitDefEqProofs only[go_sem,↓reduceIte,f1,f4,zw,r4,rr0,DW,l4,hz,w4]
   exact⟨b1.Zk nW _,Zt y4⟩
 clear f1 f4 y4 b1
 rintro F3 g3 ⟨f1,f4,b3,y4⟩
 refine XZ _ _ _ _ _ _ rfl ?_
 have k3:=ZB d b3
 have N3:=N.still k3
 have P3:=Zx N3.ZD.2 N3.pt.store.len
 have P3u:=P3.up
 have Rl:=Za N3.ZD.2
 have l4:=Za y4
 have r4a:hc g3 ⟨kb,0,none⟩=some (.int .i64 (J4 n).r):=Zg y4
 cases hu:n.up with
 | false=>
  rw[hu]at P3u
  have e1:lead n=n:=by unfold lead;rw[if_pos (.inl hu)]
  rw[e1]
  simp -implicitDefEqProofs only[go_sem,↓reduceIte,f1,P3u]
  exact⟨o,a,ZC k3,N3⟩
 | true=>
 rw[hu]at P3u
 by_cases c:65536<(J4 n).r
 ·have e1:lead n=n:=by unfold lead;rw[if_pos (.inr c)]
  rw[e1]
  have c':(J4 n).r>65536:=c
  simp -implicitDefEqProofs only[go_sem,↓reduceIte,f1,f4,P3u,r4a,c,c']
  exact⟨o,a,ZC k3,N3⟩
 have e1:lead n = { n with Zi:=some ⟨J4 n,[],false,[],[]⟩,ZQ:=Xb n.ZQ }:=by
  unfold lead;rw[if_neg];rintro (e|e)
  ·rw[hu]at e;cases e
  ·exact c e
 rw[e1]
 have c':¬(J4 n).r>65536:=c
 have r4:rd g3 ⟨kb,0,none⟩ 2=some [.int .i64 (J4 n).r,.int .i64 n.me]:=Zo y4 rfl
 obtain⟨o2,k2,td,JA⟩:=ga k3.ZU N3
 obtain⟨ra,OG⟩:∃ra:RA,ra=⟨g3.size+3,g3.size,g3.size+1,g3.size+2,[],[]⟩:=⟨_,rfl⟩
 obtain⟨r,hr0⟩:∃r:Qd,r=⟨J4 n,[],false,[],[]⟩:=⟨_,rfl⟩
 obtain⟨p1,nX⟩:=Zy (g3.push (Xg []):Hp)
 obtain⟨p2,jO⟩:=Zy (p1.push (Xg []):Hp)
 obtain⟨p3,hp3⟩:=Zy (p2.push (Xg []):Hp)
 obtain⟨p4,zy⟩:=Zy (p3.push (.cells (Ab r ra).toArray 169):Hp)
 have s1:p1.size=g3.size+1:=by rw[nX];simp
 have s2:p2.size=g3.size+2:=by rw[jO,Array.size_push,s1]
 have s3:p3.size=g3.size+3:=by rw[hp3,Array.size_push,s2]
 have s4:p4.size=g3.size+4:=by rw[zy,Array.size_push,s3]
 have q1:p4[g3.size]? = some (Xg []):=by rw[zy,Zq (by omega),hp3,Zq (by omega),jO,Zq (by omega),nX];exact Zb
 have q2:p4[g3.size+1]? = some (Xg []):=by rw[zy,Zq (by omega),hp3,Zq (by omega),jO,←s1];exact Zb
 have q3:p4[g3.size+2]? = some (Xg []):=by rw[zy,Zq (by omega),hp3,←s2];exact Zb
 have q4:p4[g3.size+3]? = some (.cells (Ab r ra).toArray 169):=by rw[zy,←s3];exact Zb
 have kp:Kp (Xz i) o2 g3 o2 p4:=by rw[zy,hp3,jO,nX];exact ((((Kp.refl k2.ZU _).push _).push _).push _).push _
 have ka:=kp.Tx (b:=g3.size) (t:=.prom i) (Nat.le_refl _) (by omega) (.inr (.inl rfl))
 have kb':=ka.Tx (b:=g3.size+1) (t:=.prop i) (by omega) (by omega) (.inr (.inr (.inl rfl)))
 have kc:=kb'.Tx (b:=g3.size+2) (t:=.Jk i) (by omega) (by omega) (.inr (.inr (.inr (.inl rfl))))
 have k5:=kc.Tx (b:=g3.size+3) (t:=.Zi i) (by omega) (by omega) (.inl rfl)
 obtain⟨o5,ho5⟩:=Zy (Ji (Ji (Ji (Ji o2 g3.size (.prom i)) (g3.size+1) (.prop i)) (g3.size+2) (.Jk i)) (g3.size+3) (.Zi i))
 rw[←ho5]at k5
 clear ka kb' kc kp
 have t1:o5 g3.size=some (.prom i):=by rw[ho5,YW (by omega),YW (by omega),YW (by omega)];exact YR
 have t2:o5 (g3.size+1)=some (.prop i):=by rw[ho5,YW (by omega),YW (by omega)];exact YR
 have t3:o5 (g3.size+2)=some (.Jk i):=by rw[ho5,YW (by omega)];exact YR
 have t4:o5 (g3.size+3)=some (.Zi i):=by rw[ho5];exact YR
 have R5:YA o5 i p4 ra r:=by
  rw[OG,hr0]
  rw[OG,hr0]at q4
  exact⟨⟨t4,q4⟩,⟨t1,q1⟩,.nil,⟨t2,q2⟩,⟨t3,q3⟩,.nil,by simp⟩
 have en:∀t:Tg,(t=.known i∨t=.log i∨t=.queue i∨t=.waiting i∨t=.inbox i∨t=.Xb i∨t=.node i)→¬Xz i t:=by
  intro t ht hr
  rcases ht with rfl|rfl|rfl|rfl|rfl|rfl|rfl<;>rcases hr with e|e|e|e|⟨s,e⟩<;>cases e
 have pn:Q2 o5 p4 wb i nb (some ra) a.ZQ (Xb n.ZQ):=sY (td.ZQ.Zd k5 (en _ (by simp)))
 have pt5:ZT o5 p4 wb i nb { a with Zi:=some ra } { n with Zi:=some r,ZQ:=Xb n.ZQ }:=
  ⟨td.data.Zd k5,td.YD.Zd k5,R5,td.known.Zd k5 (en _ (by simp)),td.log.Zd k5 (en _ (by simp)),td.queue.Zd k5 (en _ (by simp)),td.waiting.Zd k5 (en _ (by simp)),td.inbox.Zd k5 (en _ (by simp)),pn,td.store⟩
 have B5:QA o5 (.node i) p4 nb (Y4 n a):=QA.Zd (o:=o2) ⟨JA,N3.ZD.2⟩ k5 (en _ (by simp))
 obtain⟨g6,w6,N6,k6⟩:=ZT.write pt5 k5.ZU B5 ((YI B5.2 N.pt.store.len).Zi (some ra))
 have Rm:=Za B5.2
 have ee:p4=(((g3.push (.map #[] 0)).push (.map #[] 0)).push (.map #[] 0)).push (.cells #[.int .i64 (J4 n).r,.int .i64 n.me,.map (some g3.size),.bool false,.map (some (g3.size+1)),.map (some (g3.size+2))] 169):=by
  rw[zy,hp3,jO,nX,OG,hr0];rfl
 have w6':Jg p4 ⟨nb,9,none⟩ (.pointer (some ⟨g3.size+3,0,none⟩))=some g6:=by rw[←w6,OG];rfl
 have ee':=ee.symm
 rw[hr0]at N6
 simp -implicitDefEqProofs only[go_sem,↓reduceIte,f1,f4,P3u,r4a,c,c',r4,ee',w6',Rm]
 refine⟨o5,_,((ZC k3).trans (k2.mono fun t q=>?_)).trans ((k5.mono fun t q=>OD q).trans (k6.mono fun t q=>by rw[q];rfl)),N6⟩
 rcases q with rfl|rfl|rfl<;>rfl
end Go.Proofs.YtpomedigibbeeaaGreatDoor
