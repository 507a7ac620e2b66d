/- What a leader does of its own. -/
import Derived.Test.YtboeoomhjbcecaaGreatDoorMoy
namespace Go.Proofs.YtboeoomhjbcecaaGreatDoor
open Go Go.V
set_option linter.unusedSimpArgs false
set_option linter.unusedVariables false
set_option maxRecDepth 100000
theorem Qz {α:Type} (f:Nat→List α) (m:Nat):(List.range (m+1)).flatMap f=(List.range m).flatMap f++f m:=by
 rw[List.range_succ,List.flatMap_append];simp
theorem Wv {α:Type} (f:Nat→List α) (k m:Nat) (h:∀i,(f i).length≤k):((List.range m).flatMap f).length≤m*k:=by
 induction m with
 | zero=>simp
 | succ m ih=>rw[Qz,List.length_append,Nat.add_mul];have:=h m;omega
theorem jK {n n':Nd} (hk:n.known=n'.known) (r:JF) (x:Cm):∀k s,QS n r x k s=QS n' r x k s:=by
 intro k
 induction k with
 | zero=>intro s;rfl
 | succ k ih=>intro s;unfold QS;rw[hk,ih]
theorem Ef {n n':Nd} (hk:n.known=n'.known) (hl:n.log=n'.log) (r:JF) (x:Cm):free n r x=free n' r x:=by
 unfold free;rw[hl,jK hk]
theorem qZ {n n':Nd} (hk:n.known=n'.known) (hl:n.log=n'.log) (r:JF) (x:Cm):Wt n r x=Wt n' r x:=by
 unfold Wt;rw[Ef hk hl]
theorem bH {n n':Nd} (hk:n.known=n'.known) (hl:n.log=n'.log):∀(l:List Cm) (r:JF),JN n r l=JN n' r l:=by
 intro l
 induction l with
 | nil=>intro r;rfl
 | cons x l ih=>intro r;show JN n (Wt n r x) l=JN n' (Wt n' r x) l;rw[qZ hk hl,ih]
theorem jL {n n':Nd} (hk:n.known=n'.known) (LL:List (List Vt)):XT n LL=XT n' LL:=by
 funext pr s;unfold XT;rw[hk]
theorem jM {n n':Nd} (hk:n.known=n'.known) (hl:n.log=n'.log) (r:JF):TM n r=TM n' r:=by
 unfold TM;rw[hl,jL hk]
theorem xE {n n':Nd} (hk:n.known=n'.known) (hm:n.me=n'.me) (r:JF):WL n r=WL n' r:=by
 funext s;unfold WL Px;rw[hk,hm]
theorem rh {n n':Nd} (hk:n.known=n'.known) (hm:n.me=n'.me) (r:JF):OS n r=OS n' r:=by
 unfold OS;rw[xE hk hm]
set_option maxHeartbeats 4000000 in
theorem xF (T:World) (h:Hp) (o:Ow) (wb i nb:Nat) (Yb:Nat→Nat) (a:NA) (n:Nd) (ra:RA) (r:JF) (YO:WA) (fl:List Xj) (bad:Nat→Int) (told:List Rr) (d:UE o h)
  (N:ZM o h wb i nb { a with Zj:=some ra } { n with Zj:=some r }) (W:ZH o h wb Yb YO fl bad told) (tb:BA o h) (Ys:fl.length≤900000000000) (qh:n.own.l.length≤1000000) (lj:n.data.length≤1000000)
  (hp:∀x∈r.prom,x.2.length≤1000000) (hs:∀x∈r.prom,∀v∈x.2,v.slot≤1000000) (L0:r.prom.length≤1000000000000) (hl:n.log.length≤1000000000000) (hq:n.queue.length≤1000000000000) :
  Zc Tryz.prog T 72 #[Zp wb,Zp nb,Zp ra.rb] h fun v' h'=>∃o' a' XA,Kp (XL i) o h o' h'∧ZM o' h' wb i nb a' (QY { n with Zj:=some r } r).n∧ZH o' h' wb Yb XA (fl++(QY { n with Zj:=some r } r).ls) bad told:=by
 refine Zc.Zk (args:=[_,_,_]) Tryz.func72 rfl rfl rfl rfl ?_;obtain⟨h1,YK⟩:=Zx ((h.push (.cells [Zp nb].toArray 74)).push (.cells [Zp ra.rb].toArray 82):Hp);have k1:Kp QM o h o h1:=by rw[YK];exact ((Kp.refl d _).push _).push _
 have x4:ZR o h1 h.size (.cells [Zp nb].toArray 74):=⟨d _ (Nat.le_refl _),by rw[YK];exact jD _ _ _⟩
 have x5:ZR o h1 (h.size+1) (.cells [Zp ra.rb].toArray 82):=⟨d _ (by omega),by rw[YK];exact lD _ _ _⟩
 have e0:=YK.symm;unfold Zp at e0 ⊢;have N1:=N.still k1;have W1:=W.still k1;have R1:YR o i h1 ra r:=N1.pt.Zj;obtain⟨q0,q2,q3,q4,q5⟩:=R1.rr;have P1:=ZA N1.ZG.2 N1.pt.store.len;have l4:=Za x4.2;have l5:=Za x5.2;have BD:=Za R1.ZG.2;have JZ:=Za N1.ZG.2;have r4:hc h1 ⟨h.size,0,none⟩=some (Zp nb):=Zh x4.2;have r5:hc h1 ⟨h.size+1,0,none⟩=some (Zp ra.rb):=Zh x5.2;unfold Zp at r4 r5;have xH:rd h1 ⟨nb,4,none⟩ 2=some (Jr n.own.p):=P1.Ct;simp -implicitDefEqProofs only[go_sem,↓reduceIte,e0];refine VS.mono (N:=fun F' g'=>Zf h1.size h1 g'∧F' 0=.pointer (some ⟨wb,0,none⟩)∧F' 4=.pointer (some ⟨h.size,0,none⟩)∧F' 5=.pointer (some ⟨h.size+1,0,none⟩)∧F' 35=.bool (decide (below n.own.p r.b))) ?_ ?_ (fun _ _ _ h=>h) (fun _ _ h=>h)
 ·refine VS.z (h1.size) [9] (.q 0 (.p 1 (.p 2 (.q 3 (.q 4 (.p 5 (.p 6 (.p 7 (.q 8 (.w 9 .nil)))))))))) mixed (by kernel_rfl) ?_;simp -implicitDefEqProofs only[go_sem,↓reduceIte,r4,r5,q0,xH,l4,l5,BD,JZ];refine (OY T h1 r.b n.own.p).use ?_;rintro _ g ⟨rfl,b⟩;simp -implicitDefEqProofs only[go_sem,↓reduceIte,b]
 rintro F1 g1 ⟨b1,f0,f4,f5,f35⟩;have kb:=ZE k1.ZX b1
 replace N1:=N1.still kb
 replace W1:=W1.still kb
 replace k1:=k1.trans kb
 replace x4:=x4.Zd kb
 replace x5:=x5.Zd kb
 have tb1:=tb.Zd k1;clear R1 q0 q2 q3 q4 q5 P1 xH l4 l5 BD JZ r4 r5 e0;have R1:YR o i g1 ra r:=N1.pt.Zj;obtain⟨q0,q2,q3,q4,q5⟩:=R1.rr;have P1:=ZA N1.ZG.2 N1.pt.store.len;have l4:=Za x4.2;have l5:=Za x5.2;have BD:=Za R1.ZG.2;have JZ:=Za N1.ZG.2;have r4:hc g1 ⟨h.size,0,none⟩=some (Zp nb):=Zh x4.2;have r5:hc g1 ⟨h.size+1,0,none⟩=some (Zp ra.rb):=Zh x5.2;unfold Zp at r4 r5;by_cases c1:below n.own.p r.b
 ·have rn:=P1.own;obtain⟨pv,cv,lF⟩:=N1.pt.YP.isSlice;have lF:a.YP=.slice pv n.own.l.length cv:=lF;have rn:rd g1 ⟨nb,4,none⟩ 3=some [.int .i64 n.own.p.r,.int .i64 n.own.p.n,.slice pv n.own.l.length cv]:=by rw[←lF];exact rn
  have N1v:Wz o g1 (.slice pv n.own.l.length cv) n.own.l:=by rw[←lF];exact N1.pt.YP
  unfold Jr at q0;have call:∀G,Zf g1.size g1 G→Zc Tryz.prog T 74 #[.agg #[.int .i64 n.own.p.r,.int .i64 n.own.p.n,.slice pv n.own.l.length cv],.agg #[.int .i64 r.b.r,.int .i64 r.b.n]] G fun v' h'=>DH G.size h' v' n.own.p n.own.l r.b∧Zf G.size G h':=fun G hG=>
   TG T G n.own.p _ n.own.l r.b (N1v.ts.Z2 hG) (by omega)
  obtain⟨E,hE⟩:=Zx (Yu n.own.p n.own.l r.b);have wA:∀(G:Hp) (k:Nat) (r m:Int) (p:Option Addr) (L c:Nat),G[k]? = some (.cells [.int .i64 0,.int .i64 0,.slice none 0 0].toArray 81)→wr G ⟨k,0,none⟩ [.int .i64 r,.int .i64 m,.slice p L c]=some (G.setIfInBounds k (.cells [.int .i64 r,.int .i64 m,.slice p L c].toArray 81)):=fun G k r m p L c hx=>by
   rw[ZU hx 0 _];rfl
  have wB:∀(G:Hp) (k:Nat) (p:Option Addr) (L c:Nat),G[k]? = some (.cells [.slice none 0 0].toArray 79)→JJ G ⟨k,0,none⟩ (.slice p L c)=some (G.setIfInBounds k (.cells [.slice p L c].toArray 79)):=fun G k p L c hx=>by
   rw[YC hx 0 _];rfl
  simp -implicitDefEqProofs only[go_sem,↓reduceIte,f35,c1];refine VS.mono (N:=fun F' g'=>Zf g1.size g1 g'∧F' 4=.pointer (some ⟨h.size,0,none⟩)∧F' 5=.pointer (some ⟨h.size+1,0,none⟩)∧fg g1.size g' (F' 6) (F' 7) n.own.p n.own.l r.b) ?_ ?_ (fun _ _ _ h=>h) (fun _ _ h=>h)
  ·refine VS.z (g1.size) [8,15,16] (.q 0 (.p 1 (.p 2 (.q 3 (.q 4 (.p 5 (.p 6 (.q 7 (.or 8 (.p 9 (.p 10 (.p 11 (.p 12 (.or 13 (.s 14 (.w 15 (.w 16 (.p 17 .nil)))) (.s 14 (.s 13 (.w 15 (.w 16 (.p 17 .nil)))))))))) (.or 13 (.or 8 (.p 9 (.p 10 (.p 11 (.p 12 (.s 14 (.w 15 (.w 16 (.p 17 .nil)))))))) (.s 14 (.w 8 (.p 9 (.p 10 (.p 11 (.p 12 (.w 15 (.w 16 (.p 17 .nil)))))))))) (.s 14 (.or 8 (.p 9 (.p 10 (.p 11 (.p 12 (.s 13 (.w 15 (.w 16 (.p 17 .nil)))))))) (.s 13 (.w 8 (.p 9 (.p 10 (.p 11 (.p 12 (.w 15 (.w 16 (.p 17 .nil))))))))))))))))))))) mixed (by kernel_rfl) ?_;simp -implicitDefEqProofs only[go_sem,↓reduceIte,f4,f5,r4,r5,rn,q0,JZ,BD,l4,l5];unfold fg Zp YT
   repeat' (first|with_reducible exact Zf.refl _ _|with_reducible exact Zf.push (by omega) _|with_reducible refine And.intro ?_ ?_)
   all_goals first
    | (refine (call g1 (Zf.refl _ _)).use ?_
       rintro _ g5 ⟨⟨w1,w2,rfl,o1,o2⟩,b5⟩;obtain⟨p1,c1,rfl,_⟩:=o1.open;obtain⟨p2,c2,rfl,_⟩:=o2.open;rw[←hE]at *;have s5:=b5.size;unfold YT;simp -implicitDefEqProofs only[go_sem,↓reduceIte,b5];refine⟨⟨f4,f5,_,_,_,_,rfl,rfl,s5,by omega,jD _ _ _,lD _ _ _,(o1.push _).push _,(o2.push _).push _⟩,⟨f4,f5,_,_,_,_,rfl,rfl,by omega,s5,lD _ _ _,jD _ _ _,(o1.push _).push _,(o2.push _).push _⟩⟩)
    | (refine (call (g1.push (.cells _ 81)) (Zf.push (Nat.le_refl _) _)).use ?_
       rintro _ g5 ⟨⟨w1,w2,rfl,o1,o2⟩,b5⟩;obtain⟨p1,c1,rfl,_⟩:=o1.open;obtain⟨p2,c2,rfl,_⟩:=o2.open;rw[←hE]at *;have s5:=b5.size;rw[Array.size_push]at s5;have B5:Zf g1.size g1 g5:=(Zf.push (Nat.le_refl _) _).trans (b5.mono (by simp));have xA:=b5.get (k:=g1.size) (by simp) Zb;have TZ:=wA _ _ (if E=0 then r.b else ⟨0,0⟩).r (if E=0 then r.b else ⟨0,0⟩).n p1 (if E=0 then n.own.l else []).length c1 xA;have zA:=Za xA;unfold YT;simp -implicitDefEqProofs only[go_sem,↓reduceIte,B5,TZ,zA];exact⟨f4,f5,_,_,_,_,rfl,rfl,Nat.le_refl _,by omega,by rw[Zt (by simpa using zA)];exact Zy xA,gs2 _ _ _ _,((o1.ZP (by simp) _).push _).mono (by simp),((o2.ZP (by simp) _).push _).mono (by simp)⟩)
    | (refine (call (g1.push (.cells _ 79)) (Zf.push (Nat.le_refl _) _)).use ?_
       rintro _ g5 ⟨⟨w1,w2,rfl,o1,o2⟩,b5⟩;obtain⟨p1,c1,rfl,_⟩:=o1.open;obtain⟨p2,c2,rfl,_⟩:=o2.open;rw[←hE]at *;have s5:=b5.size;rw[Array.size_push]at s5;have B5:Zf g1.size g1 g5:=(Zf.push (Nat.le_refl _) _).trans (b5.mono (by simp));have xB:=b5.get (k:=g1.size) (by simp) Zb;have It:=wB _ _ p2 (if E=0 then n.own.l else []).length c2 xB;have zB:=Za xB;unfold YT;simp -implicitDefEqProofs only[go_sem,↓reduceIte,B5,It,zB];exact⟨f4,f5,_,_,_,_,rfl,rfl,by omega,Nat.le_refl _,gs2 _ _ _ _,by rw[Zt (by simpa using zB)];exact Zy xB,((o1.ZP (by simp) _).push _).mono (by simp),((o2.ZP (by simp) _).push _).mono (by simp)⟩)
    | (refine (call ((g1.push (.cells _ 81)).push (.cells _ 79)) ((Zf.push (Nat.le_refl _) _).Yi (by simp) _)).use ?_
       rintro _ g5 ⟨⟨w1,w2,rfl,o1,o2⟩,b5⟩;obtain⟨p1,c1,rfl,_⟩:=o1.open;obtain⟨p2,c2,rfl,_⟩:=o2.open;rw[←hE]at *;have s5:=b5.size;rw[Array.size_push,Array.size_push]at s5;have B5:Zf g1.size g1 g5:=((Zf.push (Nat.le_refl _) _).Yi (by simp) _).trans (b5.mono (by simp;omega));have xA:=b5.get (k:=g1.size) (by simp;omega) (jD _ _ _);have xB:=b5.get (k:=g1.size+1) (by simp) (lD _ _ _);have TZ:=wA _ _ (if E=0 then r.b else ⟨0,0⟩).r (if E=0 then r.b else ⟨0,0⟩).n p1 (if E=0 then n.own.l else []).length c1 xA;have zA:=Za xA;have NY:=fun o:Obj=>(Yf (o:=o) (show g1.size≠g1.size+1 by omega)).trans xB;have It:=fun o:Obj=>wB _ _ p2 (if E=0 then n.own.l else []).length c2 (NY o);have zB:g1.size+1<g5.size:=Za xB;unfold YT;simp -implicitDefEqProofs only[go_sem,↓reduceIte,B5,TZ,zA,It,zB];exact⟨f4,f5,_,_,_,_,rfl,rfl,by omega,by omega,(Yf (by omega)).trans (Zy xA),Zy (NY _),((o1.ZP (by simp;omega) _).ZP (by simp) _).mono (by simp;omega),((o2.ZP (by simp;omega) _).ZP (by simp) _).mono (by simp;omega)⟩)
    | (refine (call ((g1.push (.cells _ 79)).push (.cells _ 81)) ((Zf.push (Nat.le_refl _) _).Yi (by simp) _)).use ?_
       rintro _ g5 ⟨⟨w1,w2,rfl,o1,o2⟩,b5⟩;obtain⟨p1,c1,rfl,_⟩:=o1.open;obtain⟨p2,c2,rfl,_⟩:=o2.open;rw[←hE]at *;have s5:=b5.size;rw[Array.size_push,Array.size_push]at s5;have B5:Zf g1.size g1 g5:=((Zf.push (Nat.le_refl _) _).Yi (by simp) _).trans (b5.mono (by simp;omega));have xB:=b5.get (k:=g1.size) (by simp;omega) (jD _ _ _);have xA:=b5.get (k:=g1.size+1) (by simp) (lD _ _ _);have TZ:=wA _ _ (if E=0 then r.b else ⟨0,0⟩).r (if E=0 then r.b else ⟨0,0⟩).n p1 (if E=0 then n.own.l else []).length c1 xA;have zA:=Za xA;have NY:=fun o:Obj=>(Yf (o:=o) (show g1.size+1≠g1.size by omega)).trans xB;have It:=fun o:Obj=>wB _ _ p2 (if E=0 then n.own.l else []).length c2 (NY o);have zB:g1.size<g5.size:=Za xB;unfold YT;simp -implicitDefEqProofs only[go_sem,↓reduceIte,B5,TZ,zA,It,zB];exact⟨f4,f5,_,_,_,_,rfl,rfl,by omega,by omega,(Yf (by omega)).trans (Zy xA),Zy (NY _),((o1.ZP (by simp) _).ZP (by simp;omega) _).mono (by simp;omega),((o2.ZP (by simp) _).ZP (by simp;omega) _).mono (by simp;omega)⟩)
  rintro F2 g2 ⟨b2,f4,f5,ka,kc,w1,w2,fA,fC,ge1,ge2,yA,yC,o1,o2⟩;rw[←hE]at yA o1 o2;obtain⟨A,hA⟩:∃A:QK,A=if E=0 then ⟨r.b,n.own.l⟩ else X4:=⟨_,rfl⟩
  obtain⟨V,hV⟩:∃V:List Vt,V=if E=0 then n.own.l else []:=⟨_,rfl⟩
  have hAp:(if E=0 then r.b else ⟨0,0⟩)=A.p:=by rw[hA];split<;>rfl
  have hAl:(if E=0 then n.own.l else [])=A.l:=by rw[hA];split<;>rfl
  have hVl:(if E=0 then n.own.l else [])=V:=hV.symm;rw[hAp]at yA;rw[hAl]at o1;rw[hVl]at o2;have Rs:=ZE k1.ZX b2;have N2:=N1.still Rs;have W2:=W1.still Rs;have K2:=k1.trans Rs;have z4:=x4.Zd Rs;have z5:=x5.Zd Rs;have AS:=tb1.Zd Rs;have R2:YR o i g2 ra r:=N2.pt.Zj;obtain⟨u0,_,_,_,_⟩:=R2.rr;unfold Jr at u0;have iv7:Wz o g2 w2 V:=Im.Ue o2.own (fun b hb=>k1.ZX b hb);have iv6:Wz o g2 w1 A.l:=Im.Ue o1.own (fun b hb=>k1.ZX b hb);have z6:ZR o g2 ka _:=⟨k1.ZX ka ge1,yA⟩
  have z7:ZR o g2 kc _:=⟨k1.ZX kc ge2,yC⟩
  have P2:=ZA N2.ZG.2 N2.pt.store.len;have m4:=Za z4.2;have m5:=Za z5.2;have mr:=Za R2.ZG.2;have J9:=Za N2.ZG.2;have s4:hc g2 ⟨h.size,0,none⟩=some (Zp nb):=Zh z4.2;have s5:hc g2 ⟨h.size+1,0,none⟩=some (Zp ra.rb):=Zh z5.2;unfold Zp at s4 s5 fA fC;have qN:=P2.tape;obtain⟨pd,cd,O1⟩:=N2.pt.data.1.isSlice;have O1:a.data=.slice pd n.data.length cd:=O1;have qN:rd g2 ⟨nb,2,none⟩ 2=some [.slice pd n.data.length cd,.int .i64 n.Xg]:=by rw[←O1];exact qN
  have N2d:VC o g2 (.slice pd n.data.length cd) n.data:=by rw[←O1];exact N2.pt.data
  obtain⟨E2,jE⟩:=Zx (Qi n.data n.Xg r.b);have call2:∀G,Zf g2.size g2 G→Zc Tryz.prog T 90 #[.agg #[.slice pd n.data.length cd,.int .i64 n.Xg],.agg #[.int .i64 r.b.r,.int .i64 r.b.n]] G fun v' h'=>TK G.size h' v' n.data n.Xg E2 (Yo (X3 r.b))∧Zf G.size G h':=fun G hG=>by
   rw[jE];exact MG T G _ n.Xg n.data r.b (N2d.bs.Z2 hG) (by omega) (AS.tk.Je hG)
  have wT:∀(G:Hp) (k:Nat) (m:Int) (p:Option Addr) (L c:Nat),G[k]? = some (.cells [.slice none 0 0,.int .i64 0].toArray 76)→wr G ⟨k,0,none⟩ [.slice p L c,.int .i64 m]=some (G.setIfInBounds k (.cells [.slice p L c,.int .i64 m].toArray 76)):=fun G k m p L c hx=>by
   rw[ZU hx 0 _];rfl
  refine VS.mono (N:=fun F' g'=>Zf g2.size g2 g'∧F' 4=.pointer (some ⟨h.size,0,none⟩)∧F' 5=.pointer (some ⟨h.size+1,0,none⟩)∧F' 6=.pointer (some ⟨ka,0,none⟩)∧F' 7=.pointer (some ⟨kc,0,none⟩)∧F' 10=.int .i64 E2∧GD g2.size g' (F' 9) n.data n.Xg E2 (Yo (X3 r.b))) ?_ ?_ (fun _ _ _ h=>h) (fun _ _ h=>h)
  ·refine VS.z (g2.size) [8,13] (.q 0 (.p 1 (.p 2 (.q 3 (.q 4 (.p 5 (.p 6 (.q 7 (.or 8 (.p 9 (.p 10 (.p 11 (.s 12 (.w 13 (.p 14 .nil)))))) (.s 12 (.w 8 (.p 9 (.p 10 (.p 11 (.w 13 (.p 14 .nil)))))))))))))))) mixed (by kernel_rfl) ?_;simp -implicitDefEqProofs only[go_sem,↓reduceIte,f4,f5,fA,fC,s4,s5,qN,u0,m4,m5,mr,J9];unfold GD
   repeat' (first|with_reducible exact Zf.refl _ _|with_reducible exact Zf.push (by omega) _|with_reducible refine And.intro ?_ ?_)
   all_goals first
    | (refine (call2 g2 (Zf.refl _ _)).use ?_
       rintro _ g5 ⟨⟨w,rfl,o1⟩,b5⟩;obtain⟨p1,c1,rfl,_⟩:=o1.bs.open;have s5:=b5.size;simp -implicitDefEqProofs only[go_sem,↓reduceIte,b5];exact⟨f4,f5,fA,fC,_,_,rfl,s5,Zb,o1.push _⟩)
    | (refine (call2 (g2.push (.cells _ 76)) (Zf.push (Nat.le_refl _) _)).use ?_
       rintro _ g5 ⟨⟨w,rfl,o1⟩,b5⟩;obtain⟨p1,c1,rfl,_⟩:=o1.bs.open;have B5:Zf g2.size g2 g5:=(Zf.push (Nat.le_refl _) _).trans (b5.mono (by simp));have xA:=b5.get (k:=g2.size) (by simp) Zb;have TZ:=wT _ _ (if E2=0 then n.Xg else 0) p1 (if E2=0 then n.data++Yo (X3 r.b) else []).length c1 xA;have zA:=Za xA;simp -implicitDefEqProofs only[go_sem,↓reduceIte,B5,TZ,zA];exact⟨f4,f5,fA,fC,_,_,rfl,Nat.le_refl _,Zy xA,(o1.ZP (by simp) _).mono (by simp)⟩)
  rintro F3 g3 ⟨b3,f4,f5,f6,f7,f10,kt,wt,fT,ge3,yT,oT⟩;have WB:=ZE K2.ZX b3;have N4:=N2.still WB;have W4:=W2.still WB;have K4:Kp QM o h o g3:=K2.Z2 b3;by_cases e2:E2=0
  case neg=>
   have eP:QY { n with Zj:=some r } r=⟨{ n with Zj:=some r },[],[]⟩:=by unfold QY;rw[if_pos c1,if_pos (by rw[←jE];exact e2)]
   rw[eP,List.append_nil];simp -implicitDefEqProofs only[go_sem,↓reduceIte,f10,e2];exact⟨o,_,YO,ZF K4,N4,W4⟩
  rw[if_pos e2]at yT oT;have u4:=z4.Zd WB;have u5:=z5.Zd WB;have u6:=z6.Zd WB;have u7:=z7.Zd WB;have iu6:=iv6.Zd WB;have iu7:=iv7.Zd WB;have iT:VC o g3 wt (n.data++Yo (X3 r.b)):=⟨Im.Ue oT.own (fun b hb=>K2.ZX b hb),oT.byte⟩
  have eP:QY { n with Zj:=some r } r=⟨{ n with Zj:=some r,data:=n.data++Yo (X3 r.b),ZB:=some (.own A V true) },[],[]⟩:=by
   unfold QY;rw[if_pos c1,if_neg (by rw[←jE];simpa using e2),hA,hV,hE]
  rw[eP,List.append_nil];obtain⟨pt,ct,rfl,_⟩:=oT.bs.open;have v4:hc g3 ⟨h.size,0,none⟩=some (Zp nb):=Zh u4.2;have vT:rd g3 ⟨kt,0,none⟩ 2=some [.slice pt (n.data++Yo (X3 r.b)).length ct,.int .i64 n.Xg]:=Zq yT rfl;have Li:=Za N4.ZG.2;obtain⟨g4,w4,N5,k5⟩:=ZV.write (a:={ a with Zj:=some ra,data:=.slice pt (n.data++Yo (X3 r.b)).length ct }) (n:={ n with Zj:=some r,data:=n.data++Yo (X3 r.b) }) { N4.pt with data:=iT } K4.ZX N4.ZG ((Y0 N4.ZG.2 N4.pt.store.len).tape (.slice pt (n.data++Yo (X3 r.b)).length ct) n.Xg rfl);have v4':hc g4 ⟨h.size,0,none⟩=some (Zp nb):=Zh (u4.Zd k5).2;have PB:=Za N5.ZG.2;have pn:UD o g4 wb i nb (some ra) (WM 98 [ka,h.size,kc,h.size+1]) (some (.own A V true)):=
   ⟨ka,h.size,kc,h.size+1,w2,ra.rb,rfl,⟨_,u6.Zd k5,iu6.Zd k5⟩,u4.Zd k5,u7.Zd k5,iu7.Zd k5,u5.Zd k5,by rw[if_pos rfl];exact⟨ra,rfl,rfl⟩⟩
  obtain⟨g6,w6,N6,k6⟩:=ZV.write (a:={ a with Zj:=some ra,data:=.slice pt (n.data++Yo (X3 r.b)).length ct,ZB:=WM 98 [ka,h.size,kc,h.size+1] }) (n:={ n with Zj:=some r,data:=n.data++Yo (X3 r.b),ZB:=some (.own A V true) }) { N5.pt with ZB:=pn } k5.ZX N5.ZG ((Y0 N5.ZG.2 N5.pt.store.len).ZB (WM 98 [ka,h.size,kc,h.size+1]) rfl);unfold WM at w6;simp only[List.map]at w6;unfold Zp at v4 v4' w6;simp -implicitDefEqProofs only[go_sem,↓reduceIte,f10,e2,f4,f5,f6,f7,fT,v4,vT,w4,Li,v4',w6,PB];have K6:Kp (XL i) o h o g6:=((ZF K4).trans (k5.mono fun t q=>.inr (.inr (.inr (by rw[q];rfl))))).trans (k6.mono fun t q=>.inr (.inr (.inr (by rw[q];rfl))));exact⟨o,_,YO,K6,N6,(W4.Zd k5 (by rintro t rfl;simp[Tg.of])).Zd k6 (by rintro t rfl;simp[Tg.of])⟩
 by_cases c2:5<2*r.prom.length
 case neg=>
  have eP:QY { n with Zj:=some r } r=⟨{ n with Zj:=some r },NU n r,[]⟩:=by unfold QY;rw[if_neg c1,if_pos c2];rfl
  rw[eP];have lm:=fun (K:Value→Hp→Prop) (cs:Array Bool) (ty:TypeId)=>TB (T:=T) (K:=K) (ty:=ty) (cs:=cs) MP R1.prom.2;rw[R1.SD.length]at lm;simp -implicitDefEqProofs only[go_sem,↓reduceIte,f0,f4,f5,f35,c1,r4,r5,q2,lm];refine (LG T g1 r.prom.length L0).use ?_;rintro _ _ ⟨rfl,rfl⟩;simp -implicitDefEqProofs only[go_sem,↓reduceIte,c2,f0,f4,f5];obtain⟨pf,hpf⟩:∃pf:Nat→List Xj,pf=fun (m:Nat)=>if Yv r.prom (m:Int)=none then [⟨0,n.me,m,r.b,Tw,[]⟩] else []:=⟨_,rfl⟩
  have Zhh:NU n r=(List.range 5).flatMap pf:=by rw[hpf];rfl
  have Zqq:∀m,(pf m).length≤1:=fun m=>by rw[hpf];simp only;split<;>simp
  rw[Zhh];clear r4 r5 q0 q2 q3 q4 q5 l4 l5 BD JZ P1 R1 lm Zhh;refine VS.ZW (fun F g=>F 0=.pointer (some ⟨wb,0,none⟩)∧F 4=.pointer (some ⟨h.size,0,none⟩)∧F 5=.pointer (some ⟨h.size+1,0,none⟩)∧∃(m:Nat) (o':Ow) (XA:WA),m≤5∧F 78=.int .i64 m∧Kp eQ o h o' g∧ZM o' g wb i nb { a with Zj:=some ra } { n with Zj:=some r }∧ZH o' g wb Yb XA (fl++(List.range m).flatMap pf) bad told∧ZR o' g h.size (.cells [Zp nb].toArray 74)∧ZR o' g (h.size+1) (.cells [Zp ra.rb].toArray 82))
   (fun F _=>5-(vi (F 78)).toNat) rfl ⟨f0,f4,f5,0,o,YO,by omega,rfl,ZF k1,N1,by simpa using W1,x4,x5⟩ ?_
  rintro F2 g2 ⟨f0,f4,f5,m,o2,WA2,hm,f78,K2,N2,W2,x4,x5⟩;by_cases ZD:m<5
  ·have ZL:(m:Int)<5:=by omega
   have R2:YR o2 i g2 ra r:=N2.pt.Zj;obtain⟨q0,q2,q3,q4,q5⟩:=R2.rr;have P2:=ZA N2.ZG.2 N2.pt.store.len;have l4:=Za x4.2;have l5:=Za x5.2;have BD:=Za R2.ZG.2;have J9:=Za N2.ZG.2;have r4:hc g2 ⟨h.size,0,none⟩=some (Zp nb):=Zh x4.2;have r5:hc g2 ⟨h.size+1,0,none⟩=some (Zp ra.rb):=Zh x5.2;unfold Zp at r4 r5;unfold Jr at q0;have lk:=fun (K:Value→Hp→Prop)=>Yz (K:=K) (n:=(m:Int)) (c:=true) MP qB R2.prom.2;have hpm:pf m=if Yv r.prom (m:Int)=none then [⟨0,n.me,m,r.b,Tw,[]⟩] else []:=by rw[hpf]
   rcases R2.SD.Yv (m:Int) with⟨z1,z2⟩|⟨w,vs,z1,z2,iv⟩
   ·rw[if_pos z2]at hpm;simp only[z1,Option.getD_none,Option.isSome_none,↓reduceIte]at lk;simp -implicitDefEqProofs only[go_sem,↓reduceIte,f0,f4,f5,f78,ZL,r5,q2,lk];refine VS.z (g2.size) [8] (.p 0 (.q 1 (.p 2 (.q 3 (.p 4 (.p 5 (.q 6 (.p 7 (.w 8 .nil))))))))) mixed (by kernel_rfl) ?_;simp -implicitDefEqProofs only[go_sem,↓reduceIte,f0,f4,f5,f78,r4,r5,q0,l4,l5,BD];have rl:(fl++(List.range m).flatMap pf).length≤1000000000000:=by
     have:=Wv pf 1 m Zqq;rw[List.length_append];omega
    refine (UY T g2 o2 wb nb Yb n.me WA2 _ bad told (m:Int) ⟨0,0,0,r.b,Tw,[]⟩ (.slice none 0 0) K2.ZX W2 P2.me J9 (Im.nil _ _ _ _) rl).use ?_;rintro v' g3 ⟨o3,tU,k3,_,W3⟩;simp -implicitDefEqProofs only[go_sem,↓reduceIte,f78];unfold Yt;refine⟨⟨f0,f4,f5,m+1,o3,tU,ZD,rfl,K2.trans k3,N2.Zd k3 (by rintro t (rfl|rfl)<;>simp[Tg.of]),by rw[Qz,hpm,←List.append_assoc];exact W3,x4.Zd k3,x5.Zd k3⟩,?_⟩;simp only[vi,Zi,↓reduceIte,f78];omega
   ·rw[if_neg (by rw[z2];simp)]at hpm;obtain⟨pw,cw,rfl⟩:=iv.isSlice;simp only[z1,Option.getD_some,Option.isSome_some,↓reduceIte]at lk;simp -implicitDefEqProofs only[go_sem,↓reduceIte,f0,f4,f5,f78,ZL,r5,q2,lk];unfold Yt;refine⟨⟨f0,f4,f5,m+1,o2,WA2,ZD,rfl,K2,N2,by rw[Qz,hpm,List.append_nil];exact W2,x4,x5⟩,?_⟩;simp only[vi,Zi,↓reduceIte,f78];omega
  ·have YJ:¬(m:Int)<5:=by omega
   obtain rfl:m=5:=by omega
   simp -implicitDefEqProofs only[go_sem,↓reduceIte,f78,YJ];exact⟨o2,_,WA2,K2.mono (fun t q=>by rcases q with rfl|rfl<;>simp[XL]),N2,W2⟩
 have lm:=fun (K:Value→Hp→Prop) (cs:Array Bool) (ty:TypeId)=>TB (T:=T) (K:=K) (ty:=ty) (cs:=cs) MP R1.prom.2;rw[R1.SD.length]at lm;obtain⟨r1,ay⟩:=Zx (if r.begun=true then r else TM n r);have eP:QY { n with Zj:=some r } r=⟨{ n with Zj:=some (JN n r1 n.queue) },OS n (JN n r1 n.queue),[]⟩:=by
  unfold QY;rw[if_neg c1,if_neg (by simpa using c2)];have e1:UC { n with Zj:=some r } r=JN n r1 n.queue:=by
   unfold UC;rw[ay,jM (n:={ n with Zj:=some r }) (n':=n) rfl rfl,bH (n:={ n with Zj:=some r }) (n':=n) rfl rfl]
  rw[e1,rh (n:={ n with Zj:=some r }) (n':=n) rfl rfl]
 rw[eP];simp -implicitDefEqProofs only[go_sem,↓reduceIte,f0,f4,f5,f35,c1,r4,r5,q2,lm];refine (LG T g1 r.prom.length L0).use ?_;rintro _ g' ⟨rfl,IU⟩;rw[IU]
 cases cb:r.begun
 all_goals
 first
 | (rw[cb,if_neg (by simp)]at ay
    rw[cb]at q3;simp -implicitDefEqProofs only[go_sem,↓reduceIte,c2,f0,f4,f5,r4,r5,q3];refine (qX T g1 o wb i nb a n ra r k1.ZX N1 hp hs hl).use ?_;rintro v' g2 ⟨ra1,bu,kx,N3⟩;rw[←ay]at N3;have kx':Kp (XL i) o g1 o g2:=kx.mono fun t q=>.inr (.inr (.inr (NW q)));have W3:=W1.Zd kx (by intro t q;rw[NW q];simp);have y4:=x4.Zd kx;have y5:=x5.Zd kx;have K3:Kp (XL i) o h o g2:=(ZF k1).trans kx')
 | (rw[cb,if_pos rfl]at ay
    rw[cb]at q3;simp -implicitDefEqProofs only[go_sem,↓reduceIte,c2,f0,f4,f5,r4,r5,q3];obtain⟨g2,QW⟩:=Zx (g1);obtain⟨ra1,jC⟩:=Zx (ra);have bu:ra1.rb=ra.rb:=by rw[jC]
    have N3:ZM o g2 wb i nb { a with Zj:=some ra1 } { n with Zj:=some r1 }:=by rw[jC,ay,QW];exact N1
    have W3:ZH o g2 wb Yb YO fl bad told:=by rw[QW];exact W1
    have y4:ZR o g2 h.size (.cells [Zp nb].toArray 74):=by rw[QW];exact x4
    have y5:ZR o g2 (h.size+1) (.cells [Zp ra.rb].toArray 82):=by rw[QW];exact x5
    have K3:Kp (XL i) o h o g2:=by rw[QW];exact ZF k1
    rw[←QW])
 all_goals
  clear r4 r5 q0 q2 q3 q4 q5 l4 l5 BD JZ P1 R1 lm;have P3:=ZA N3.ZG.2 N3.pt.store.len;obtain⟨pq,cq,xI,_⟩:=YG.isSlice N3.pt.queue;have xI:a.queue=.slice pq n.queue.length cq:=xI;have P3q:hc g2 ⟨nb,52,none⟩=some (.slice pq n.queue.length cq):=by rw[←xI];exact P3.queue
  have r4:hc g2 ⟨h.size,0,none⟩=some (Zp nb):=Zh y4.2;have r5:hc g2 ⟨h.size+1,0,none⟩=some (Zp ra.rb):=Zh y5.2;unfold Zp at r4 r5;simp -implicitDefEqProofs only[go_sem,↓reduceIte,f0,f4,f5,r4,r5,P3q];clear r4 r5 P3q P3;refine VS.ZW (fun F g=>F 0=.pointer (some ⟨wb,0,none⟩)∧F 4=.pointer (some ⟨h.size,0,none⟩)∧F 5=.pointer (some ⟨h.size+1,0,none⟩)∧F 113=.slice pq n.queue.length cq∧F 114=.int .i64 n.queue.length∧∃(j:Nat) (ra':RA),j≤n.queue.length∧F 115=.int .i64 j∧Kp (XL i) o h o g∧ra'.rb=ra.rb∧ZM o g wb i nb { a with Zj:=some ra' } { n with Zj:=some (JN n r1 (n.queue.take j)) }∧ZH o g wb Yb YO fl bad told∧ZR o g h.size (.cells [Zp nb].toArray 74)∧ZR o g (h.size+1) (.cells [Zp ra.rb].toArray 82))
   (fun F _=>n.queue.length-(vi (F 115)).toNat) rfl ⟨f0,f4,f5,rfl,rfl,0,ra1,by omega,rfl,K3,bu,N3,W3,y4,y5⟩ ?_
  clear f0 f4 f5 y4 y5 K3 N3 W3 bu;rintro F3 g3 ⟨f0,f4,f5,f113,f114,j,ra',hj,f115,K3,bu,N3,W3,y4,y5⟩;obtain⟨rj,hrj⟩:=Zx (JN n r1 (n.queue.take j));rw[←hrj]at N3;have r4:hc g3 ⟨h.size,0,none⟩=some (Zp nb):=Zh y4.2;have r5:hc g3 ⟨h.size+1,0,none⟩=some (Zp ra.rb):=Zh y5.2;unfold Zp at r4 r5;have l4:=Za y4.2;have l5:=Za y5.2;by_cases ZD:j<n.queue.length
  ·have ZL:(j:Int)<n.queue.length:=by omega
   obtain⟨pz,cz,Fu,az⟩:=JY N3.pt.queue.ts;obtain⟨bb,oo,wq,Wi,O3⟩:=az (by intro e;have:n.queue=[]:=e;rw[this]at ZD;simp at ZD);have Fu:a.queue=.slice pz n.queue.length cz:=Fu;rw[xI]at Fu;simp only[Value.slice.injEq]at Fu;obtain⟨rfl,_,rfl⟩:=Fu;subst wq;have re:rd g3 ⟨bb,oo+j*5,none⟩ 5=some (n.queue[j]).C:=O3 j ZD;obtain⟨x,hx⟩:=Zx (n.queue[j]);rw[←hx]at re;have YX:JN n r1 (n.queue.take (j+1))=Wt n rj x:=by
    rw[Yl _ j ZD,←hx,hrj];unfold JN;rw[List.foldl_append];rfl
   obtain⟨g4,OZ⟩:=Zx (g3.push (.cells x.C.toArray 47):Hp);have k4:Kp QM o g3 o g4:=by rw[OZ];exact ZY K3.ZX _
   have x4':ZR o g4 g3.size (.cells x.C.toArray 47):=⟨K3.ZX _ (Nat.le_refl _),by rw[OZ];exact Zb⟩
   have e4:=OZ.symm;have N4:=N3.still k4;have R4:YR o i g4 ra' rj:=N4.pt.Zj;have z4:=y4.Zd k4;have z5:=y5.Zd k4;have s4:hc g4 ⟨h.size,0,none⟩=some (Zp nb):=Zh z4.2;have s5:hc g4 ⟨h.size+1,0,none⟩=some (Zp ra'.rb):=by rw[bu];exact Zh z5.2
   have sx:rd g4 ⟨g3.size,0,none⟩ 5=some x.C:=Zq x4'.2 rfl;have cf:=xz T g4 o wb i nb { a with Zj:=some ra' } { n with Zj:=some rj } ra' rj x k4.ZX N4 R4 hl;rw[show UO { n with Zj:=some rj } rj x=UO n rj x from by unfold UO;rw[Ef (n:={ n with Zj:=some rj }) (n':=n) rfl rfl],Ef (n:={ n with Zj:=some rj }) (n':=n) rfl rfl]at cf;unfold Vi Zp at cf;unfold Zp at s4 s5;simp -implicitDefEqProofs only[go_sem,↓reduceIte,f0,f4,f5,f113,f114,f115,ZL,re,e4,s4,s5,sx];refine cf.use ?_;rintro _ g5 ⟨rfl,b5⟩;have k5:=ZE k4.ZX b5;have K5:Kp (XL i) o h o g5:=(K3.trans (ZF k4)).trans (ZF k5);have N5:=N4.still k5;have R5:YR o i g5 ra' rj:=N5.pt.Zj;have W5:=(W3.still k4).still k5;have u4:=z4.Zd k5;have u5:=z5.Zd k5;have ux:=x4'.Zd k5
   cases hf:free n rj x with
   | none=>
    have e1:Wt n rj x=rj:=by unfold Wt;rw[hf]
    simp -implicitDefEqProofs only[go_sem,↓reduceIte,Option.isSome_none,f115];unfold Yt;refine⟨⟨f0,f4,f5,f113,f114,j+1,ra',ZD,rfl,K5,bu,by rw[YX,e1];exact N5,W5,u4,u5⟩,?_⟩;simp only[vi,Zi,↓reduceIte,f115];omega
   | some sl=>
    have e1:Wt n rj x = { rj with prop:=ins rj.prop (sl:Int) x }:=by unfold Wt;rw[hf]
    have e2:UO n rj x=sl:=by unfold UO;rw[hf]
    rw[e2];simp -implicitDefEqProofs only[go_sem,↓reduceIte,Option.isSome_some];have t5:hc g5 ⟨h.size+1,0,none⟩=some (Zp ra'.rb):=by rw[bu];exact Zh u5.2
    unfold Zp at t5;have tx:rd g5 ⟨g3.size,0,none⟩ 5=some x.C:=Zq ux.2 rfl;obtain⟨_,_,_,t4,_⟩:=R5.rr;have m5:=Za u5.2;have mr:=Za R5.ZG.2;have mx:=Za ux.2;refine VS.z (g5.size) [6] (.q 0 (.p 1 (.p 2 (.q 3 (.p 4 (.q 5 (.w 6 .nil))))))) mixed (by kernel_rfl) ?_;simp -implicitDefEqProofs only[go_sem,↓reduceIte,f5,t5,t4,tx,m5,mr,mx];rw[XZ Th R5.prop.2];obtain⟨k6,R6⟩:=R5.fi K5.ZX (k:=(sl:Int)) (x:=x);have k6':Kp (XQ i) o g5 o _:=k6.mono fun t q=>.inr (.inr (.inl q));have k6a:Kp (XL i) o g5 o _:=k6.mono fun t q=>.inr (.inr (.inr (by rw[q];rfl)));simp -implicitDefEqProofs only[go_sem,↓reduceIte,f115];unfold Yt;refine⟨⟨f0,f4,f5,f113,f114,j+1,ra',ZD,rfl,K5.trans k6a,bu,?_,W5.Zd k6 (by rintro t rfl;simp[Tg.of]),u4.Zd k6,u5.Zd k6⟩,?_⟩
    ·rw[YX,e1];exact⟨N5.ZG.Zd k6 (by intro e;cases e),ZV.QH N5.pt k6' rfl rfl R6⟩
    ·simp only[vi,Zi,↓reduceIte,f115];omega
  ·have YJ:¬(j:Int)<n.queue.length:=by omega
   obtain rfl:j=n.queue.length:=by omega
   rw[List.take_length]at hrj;simp -implicitDefEqProofs only[go_sem,↓reduceIte,f114,f115,YJ];rw[←hrj];obtain⟨r2,hr2⟩:=Zx (rj);rw[←hr2]at N3 ⊢;have Zhj:∀s x m,(Px n r2 s x m).length≤1:=fun s x m=>by unfold Px;split<;>simp
   have Zhk:∀s,(WL n r2 s).length≤5:=fun s=>by
    unfold WL;split
    ·split
     ·exact Wv _ 1 5 (Zhj s _)
     ·simp
    ·simp
   clear r4 r5 l4 l5;refine VS.ZW (fun F g=>F 0=.pointer (some ⟨wb,0,none⟩)∧F 4=.pointer (some ⟨h.size,0,none⟩)∧F 5=.pointer (some ⟨h.size+1,0,none⟩)∧∃(s:Nat) (o':Ow) (XA:WA),s≤40∧F 134=.int .i64 s∧Kp (XL i) o h o' g∧ZM o' g wb i nb { a with Zj:=some ra' } { n with Zj:=some r2 }∧ZH o' g wb Yb XA (fl++(List.range s).flatMap (WL n r2)) bad told∧ZR o' g h.size (.cells [Zp nb].toArray 74)∧ZR o' g (h.size+1) (.cells [Zp ra.rb].toArray 82))
    (fun F _=>40-(vi (F 134)).toNat) rfl ⟨f0,f4,f5,0,o,YO,by omega,rfl,K3,N3,by simpa using W3,y4,y5⟩ ?_
   clear f0 f4 f5 y4 y5 K3 N3 W3;rintro F4 g4 ⟨f0,f4,f5,s,o4,fj,hs4,f134,K4,N4,W4,y4,y5⟩;by_cases iu:s<40
   case neg=>
    have Zbu:¬(s:Int)<40:=by omega
    obtain rfl:s=40:=by omega
    simp -implicitDefEqProofs only[go_sem,↓reduceIte,f134,Zbu];exact⟨o4,_,fj,K4,N4,W4⟩
   have Gb:(s:Int)<40:=by omega
   have R4:YR o4 i g4 ra' r2:=N4.pt.Zj;obtain⟨_,_,_,t4,t5⟩:=R4.rr;have P4:=ZA N4.ZG.2 N4.pt.store.len;have r4:hc g4 ⟨h.size,0,none⟩=some (Zp nb):=Zh y4.2;have r5:hc g4 ⟨h.size+1,0,none⟩=some (Zp ra'.rb):=by rw[bu];exact Zh y5.2
   unfold Zp at r4 r5;have l4:=Za y4.2;have l5:=Za y5.2;have n4:¬h.size=g4.size:=by omega
   have n5:¬h.size+1=g4.size:=by omega
   have nnb:¬nb=g4.size:=by have:=Za N4.ZG.2;omega
   have GG:=fun (K:Value→Hp→Prop)=>Yz (K:=K) (n:=(s:Int)) (c:=true) Th OU R4.prop.2;rw[Xt]at GG;have VF:=fun (K:Value→Hp→Prop) (z:Obj)=>Yz (h:=g4.push z) (K:=K) (n:=(s:Int)) (c:=true) Th OU ((Zt (Za N4.pt.known.2)).trans N4.pt.known.2);simp only[Xt,show ({ n with Zj:=some r2 }:Nd).known=n.known from rfl]at VF;have xK:∀x y:Obj,Kp QM o4 g4 o4 ((g4.push x).push y):=fun x y=>(ZY K4.ZX _).push _;have skip:∀(x y:Obj),WL n r2 s=[]→ZM o4 ((g4.push x).push y) wb i nb { a with Zj:=some ra' } { n with Zj:=some r2 }∧ZH o4 ((g4.push x).push y) wb Yb fj (fl++(List.range (s+1)).flatMap (WL n r2)) bad told∧ZR o4 ((g4.push x).push y) h.size (.cells [Zp nb].toArray 74)∧ZR o4 ((g4.push x).push y) (h.size+1) (.cells [Zp ra.rb].toArray 82):=fun x y hz=>
    ⟨N4.still (xK x y),by rw[Qz,hz,List.append_nil];exact W4.still (xK x y),y4.Zd (xK x y),y5.Zd (xK x y)⟩
   cases c3:Yv r2.prop (s:Int) with
   | none=>
    have hz:WL n r2 s=[]:=by unfold WL;rw[c3]
    simp only[c3,Option.map_none,Option.getD_none,Option.isSome_none,↓reduceIte]at GG
    cases c4:Yv n.known (s:Int) with
    | none=>
     simp only[c4,Option.map_none,Option.getD_none,Option.isSome_none,↓reduceIte]at VF;simp -implicitDefEqProofs only[go_sem,↓reduceIte,f0,f4,f5,f134,Gb,r5,t4,r4,n4,n5,nnb,GG,VF,P4.known];unfold Yt;refine⟨⟨f0,f4,f5,s+1,o4,fj,iu,rfl,K4.trans (ZF (xK _ _)),skip _ _ hz⟩,?_⟩;simp only[vi,Zi,↓reduceIte,f134];omega
    | some y=>
     simp only[c4,Option.map_some,Option.getD_some,Option.isSome_some,↓reduceIte]at VF;simp -implicitDefEqProofs only[go_sem,↓reduceIte,f0,f4,f5,f134,Gb,r5,t4,r4,n4,n5,nnb,GG,VF,P4.known,Vi];unfold Yt;refine⟨⟨f0,f4,f5,s+1,o4,fj,iu,rfl,K4.trans (ZF (xK _ _)),skip _ _ hz⟩,?_⟩;simp only[vi,Zi,↓reduceIte,f134];omega
   | some x=>
    simp only[c3,Option.map_some,Option.getD_some,Option.isSome_some,↓reduceIte]at GG
    cases c4:Yv n.known (s:Int) with
    | some y=>
     have hz:WL n r2 s=[]:=by unfold WL;rw[c3];simp only;rw[if_neg (by rw[c4];simp)]
     simp only[c4,Option.map_some,Option.getD_some,Option.isSome_some,↓reduceIte]at VF;simp -implicitDefEqProofs only[go_sem,↓reduceIte,f0,f4,f5,f134,Gb,r5,t4,r4,n4,n5,nnb,GG,VF,P4.known,Vi];unfold Yt;refine⟨⟨f0,f4,f5,s+1,o4,fj,iu,rfl,K4.trans (ZF (xK _ _)),skip _ _ hz⟩,?_⟩;simp only[vi,Zi,↓reduceIte,f134];omega
    | none=>
     have hz:WL n r2 s=(List.range 5).flatMap (Px n r2 s x):=by unfold WL;rw[c3];simp only;rw[if_pos c4]
     simp only[c4,Option.map_none,Option.getD_none,Option.isSome_none,↓reduceIte]at VF;simp -implicitDefEqProofs only[go_sem,↓reduceIte,f0,f4,f5,f134,Gb,r5,t4,r4,n4,n5,nnb,GG,VF,P4.known,Vi];obtain⟨fs,hfs⟩:=Zx (fl++(List.range s).flatMap (WL n r2));have ZCE:fs.length≤900000001000:=by
      have:=Wv (WL n r2) 5 s Zhk;rw[hfs,List.length_append];omega
     have hnx:fl++(List.range (s+1)).flatMap (WL n r2)=fs++(List.range 5).flatMap (Px n r2 s x):=by rw[Qz,hz,←List.append_assoc,←hfs]
     rw[←hfs]at W4;have kz:=xK (.cells x.C.toArray 47) (.cells By.C.toArray 47);have xb:ZR o4 ((g4.push (.cells x.C.toArray 47)).push (.cells By.C.toArray 47)) g4.size (.cells x.C.toArray 47):=⟨K4.ZX _ (Nat.le_refl _),jD _ _ _⟩
     refine VS.ZW (fun F g=>F 0=.pointer (some ⟨wb,0,none⟩)∧F 4=.pointer (some ⟨h.size,0,none⟩)∧F 5=.pointer (some ⟨h.size+1,0,none⟩)∧F 134=.int .i64 s∧F 18=.int .i64 s∧F 19=.pointer (some ⟨g4.size,0,none⟩)∧∃(m:Nat) (o':Ow) (XA:WA),m≤5∧F 160=.int .i64 m∧Kp (XL i) o h o' g∧ZM o' g wb i nb { a with Zj:=some ra' } { n with Zj:=some r2 }∧ZH o' g wb Yb XA (fs++(List.range m).flatMap (Px n r2 s x)) bad told∧ZR o' g h.size (.cells [Zp nb].toArray 74)∧ZR o' g (h.size+1) (.cells [Zp ra.rb].toArray 82)∧ZR o' g g4.size (.cells x.C.toArray 47))
      (fun F _=>5-(vi (F 160)).toNat) rfl ⟨f0,f4,f5,f134,rfl,rfl,0,o4,fj,by omega,rfl,K4.trans (ZF kz),N4.still kz,by simpa using W4.still kz,y4.Zd kz,y5.Zd kz,xb⟩ ?_
     clear f0 f4 f5 f134 y4 y5 r4 r5 t4 t5 P4 GG VF skip xK kz xb l4 l5 n4 n5 nnb R4;rintro F5 g5 ⟨f0,f4,f5,f134,f18,f19,m,o5,WA5,hm,f160,K5,N5,W5,y4,y5,xb⟩;by_cases eG:m<5
     case neg=>
      have hgm:¬(m:Int)<5:=by omega
      obtain rfl:m=5:=by omega
      simp -implicitDefEqProofs only[go_sem,↓reduceIte,f160,hgm,f134];unfold Yt;refine⟨⟨f0,f4,f5,s+1,o5,WA5,iu,rfl,K5,N5,by rw[hnx];exact W5,y4,y5⟩,?_⟩;simp only[vi,Zi,↓reduceIte,f134];omega
     have Zhm:(m:Int)<5:=by omega
     have R5:YR o5 i g5 ra' r2:=N5.pt.Zj;obtain⟨v0,_,_,_,v5⟩:=R5.rr;unfold Jr at v0;have r5:hc g5 ⟨h.size+1,0,none⟩=some (Zp ra'.rb):=by rw[bu];exact Zh y5.2
     unfold Zp at r5;have lkv:=fun (K:Value→Hp→Prop)=>Yz (K:=K) (n:=(s:Int)) (c:=false) Ik Gx R5.Xz.2;rw[Xt]at lkv;simp only[Bool.false_eq_true,if_false]at lkv;obtain⟨g6,Rt⟩:=Zx (g5.push (.cells [].toArray 186):Hp);have e6:=Rt.symm;have k6:Kp QM o5 g5 o5 g6:=by rw[Rt];exact ZY K5.ZX _
     have w6:wr g6 ⟨g5.size,0,none⟩ []=some g6:=by
      have hx:g6[g5.size]? = some (.cells [].toArray 186):=by rw[Rt];exact Zb
      rw[ZU hx 0 [],if_pos ⟨by simp,rfl⟩]
      congr 1
      exact OG hx
     have N6:=N5.still k6;have W6:=W5.still k6;have z4:=y4.Zd k6;have z5:=y5.Zd k6;have zx:=xb.Zd k6;have K6:Kp (XL i) o h o5 g6:=K5.trans (ZF k6);have P6:=ZA N6.ZG.2 N6.pt.store.len;have R6:YR o5 i g6 ra' r2:=N6.pt.Zj;obtain⟨u0,_,_,_,_⟩:=R6.rr;unfold Jr at u0;have s4:hc g6 ⟨h.size,0,none⟩=some (Zp nb):=Zh z4.2;have s5:hc g6 ⟨h.size+1,0,none⟩=some (Zp ra'.rb):=by rw[bu];exact Zh z5.2
     unfold Zp at s4 s5;have sx:rd g6 ⟨g4.size,0,none⟩ 5=some [.int .i64 x.k,.int .i64 x.c,.int .i64 x.s,.int .i64 x.n,.int .i64 x.v]:=Zq zx.2 rfl;have m4:=Za z4.2;have m5:=Za z5.2;have mx:=Za zx.2;have mr:=Za R6.ZG.2;have rq:=Za N6.ZG.2;obtain⟨S,hS⟩:=Zx ((Yv r2.Xz (s:Int)).getD []);have Qh:Px n r2 s x m=if Yv S (m:Int)=none then [⟨2,n.me,m,JE,T8 s r2.b x,[]⟩] else []:=by unfold Px;rw[hS]
     obtain⟨mv,hmv,lki⟩:∃mv,(Option.map tP (Yv ra'.sv (s:Int))).getD (.map none)=mv∧∀K:Value→Hp→Prop,Mn Tryz.prog 185 mv (.int .i64 (m:Int)) true K g5=K (.tuple #[.agg #[],.bool (Yv S (m:Int)).isSome]) g5:=by
      rcases R5.Ti.Yv (s:Int) with⟨z1,z2⟩|⟨sb,S',z1,z2,zE⟩
      ·refine⟨.map none,by rw[z1];rfl,fun K=>?_⟩;rw[Fs Gw zZ,hS,z2];rfl
      ·refine⟨.map (some sb),by rw[z1];rfl,fun K=>?_⟩;have:=Yz (K:=K) (n:=(m:Int)) (c:=true) Gw zZ zE.2;have hSS:S=S':=by rw[hS,z2];rfl
       rw[this];unfold Lh;rw[Xt,←hSS]
       cases Yv S (m:Int)<;>rfl
     rw[hmv]at lkv
     cases cS:Yv S (m:Int) with
     | some uu=>
      rw[if_neg (by rw[cS];simp)]at Qh;simp only[cS,Option.isSome_some]at lki;simp -implicitDefEqProofs only[go_sem,↓reduceIte,f0,f4,f5,f18,f19,f160,Zhm,r5,v5,lkv,lki,e6,w6];unfold Yt;refine⟨⟨f0,f4,f5,f134,f18,f19,m+1,o5,WA5,eG,rfl,K6,N6,by rw[Qz,Qh,List.append_nil];exact W6,z4,z5,zx⟩,?_⟩;simp only[vi,Zi,↓reduceIte,f160];omega
     | none=>
      rw[if_pos cS]at Qh;simp only[cS,Option.isSome_none]at lki;simp -implicitDefEqProofs only[go_sem,↓reduceIte,f0,f4,f5,f18,f19,f160,Zhm,r5,v5,lkv,lki,e6,w6];refine VS.z (g6.size) [11] (.p 0 (.q 1 (.p 2 (.p 3 (.q 4 (.p 5 (.p 6 (.q 7 (.q 8 (.p 9 (.p 10 (.w 11 .nil)))))))))))) mixed (by kernel_rfl) ?_;simp -implicitDefEqProofs only[go_sem,↓reduceIte,f0,f4,f5,f18,f19,f160,s4,s5,u0,sx,m4,m5,mx,mr];have rl:(fs++(List.range m).flatMap (Px n r2 s x)).length≤1000000000000:=by
       have:=Wv (Px n r2 s x) 1 m (Zhj s x);rw[List.length_append];omega
      refine (UY T g6 o5 wb nb Yb n.me WA5 _ bad told (m:Int) ⟨2,0,0,JE,T8 s r2.b x,[]⟩ (.slice none 0 0) K6.ZX W6 P6.me rq (Im.nil _ _ _ _) rl).use ?_;rintro v' g7 ⟨o7,WA7,k7,_,W7⟩;simp -implicitDefEqProofs only[go_sem,↓reduceIte,f160];unfold Yt;refine⟨⟨f0,f4,f5,f134,f18,f19,m+1,o7,WA7,eG,rfl,K6.trans (k7.mono fun t q=>by rcases q with rfl|rfl<;>simp[XL]),N6.Zd k7 (by rintro t (rfl|rfl)<;>simp[Tg.of]),by rw[Qz,Qh,←List.append_assoc];exact W7,z4.Zd k7,z5.Zd k7,zx.Zd k7⟩,?_⟩;simp only[vi,Zi,↓reduceIte,f160];omega
theorem UD.fn {o:Ow} {h:Hp} {wb i nb:Nat} {ra:Option RA} {v:Value} {p:Option Bz} (s:UD o h wb i nb ra v p):(p=none∧v=.nilFunc)∨(p.isSome=true∧∃f l,v=.func (.func f) #[] l):=by
 match p,s with
 | none,s=>exact .inl ⟨rfl,s⟩
 | some (.Lf _ _ _ _),⟨_,_,_,_,e,_⟩=>exact .inr ⟨rfl,_,_,e⟩
 | some (.MO _ _ _),⟨_,_,_,_,e,_⟩=>exact .inr ⟨rfl,_,_,e⟩
 | some (.own _ _ _),⟨_,_,_,_,_,_,e,_⟩=>exact .inr ⟨rfl,_,_,e⟩
theorem jN (n:Nd) (r:JF):(QY n r).n.Xr=n.Xr∧(QY n r).n.log=n.log∧(QY n r).n.me=n.me∧(QY n r).n.heard=n.heard∧(QY n r).n.own=n.own∧(QY n r).ts=[]:=by
 unfold QY;split
 ·split<;>exact⟨rfl,rfl,rfl,rfl,rfl,rfl⟩
 ·split<;>exact⟨rfl,rfl,rfl,rfl,rfl,rfl⟩
theorem bI (n:Nd) (r:JF):(NU n r).length≤5:=by
 have:=Wv (fun (m:Nat)=>if Yv r.prom (m:Int)=none then [(⟨0,n.me,m,r.b,Tw,[]⟩:Xj)] else []) 1 5 (fun m=>by split<;>simp);exact this
theorem jO (n:Nd) (r:JF):(OS n r).length≤200:=by
 have h1:∀s x m,(Px n r s x m).length≤1:=fun s x m=>by unfold Px;split<;>simp
 have h2:∀s,(WL n r s).length≤5:=fun s=>by
  unfold WL;split
  ·split
   ·exact Wv _ 1 5 (h1 s _)
   ·simp
  ·simp
 exact Wv _ 5 40 h2
theorem xM (n:Nd) (r:JF):(QY n r).ls.length≤200:=by
 unfold QY;split
 ·split<;>simp
 ·split
  ·have:=bI n r;simp only;omega
  ·exact jO n _
theorem bJ (n:Nd):(still n).Xr=n.Xr∧(still n).log=n.log∧(still n).me=n.me∧(still n).heard=n.heard∧(still n).own=n.own∧(still n).queue=n.queue∧(still n).ZB=n.ZB∧(still n).data=n.data∧(still n).Xg=n.Xg:=by
 unfold still;split
 ·split<;>exact⟨rfl,rfl,rfl,rfl,rfl,rfl,rfl,rfl,rfl⟩
 ·exact⟨rfl,rfl,rfl,rfl,rfl,rfl,rfl,rfl,rfl⟩
theorem CJ (n:Nd):(still n).Zj=none∨(still n).Zj=n.Zj:=by
 unfold still;split
 ·split
  ·exact .inl rfl
  ·exact .inr rfl
 ·exact .inr rfl
theorem PC (n:Nd):(YI n).n.Xr=n.Xr∧(YI n).n.log=n.log∧(YI n).n.me=n.me∧(YI n).n.heard=n.heard∧(YI n).n.own=n.own∧(YI n).ts=[]:=by
 unfold YI;split
 ·exact jN _ _
 ·split<;>exact⟨rfl,rfl,rfl,rfl,rfl,rfl⟩
theorem CK (n:Nd):(YI n).ls.length≤200+n.queue.length:=by
 unfold YI;split
 ·next r _=>have:=xM n r;omega
 ·split
  ·simp[Tf]
  ·simp
set_option maxHeartbeats 4000000 in
theorem xN (T:World) (h:Hp) (o:Ow) (wb i nb:Nat) (Yb:Nat→Nat) (a:NA) (n:Nd) (YO:WA) (fl:List Xj) (bad:Nat→Int) (told:List Rr) (d:UE o h)
  (N:ZM o h wb i nb a n) (W:ZH o h wb Yb YO fl bad told) (tb:BA o h) (hp0:n.ZB=none) (Ys:fl.length≤800000000000) (qh:n.own.l.length≤1000000) (lj:n.data.length≤1000000)
  (hr:∀r,n.Zj=some r→(∀x∈r.prom,x.2.length≤1000000)∧(∀x∈r.prom,∀v∈x.2,v.slot≤1000000)∧r.prom.length≤1000000000000) (hl:n.log.length≤100000000000) (hq:n.queue.length≤10000000000) (ht:0≤n.Xr∧n.Xr<5) :
  Zc Tryz.prog T 50 #[Zp wb,Zp nb] h fun v' h'=>∃o' a' XA,Kp (XL i) o h o' h'∧ZM o' h' wb i nb a' (VA n).n∧ZH o' h' wb Yb XA (fl++(VA n).ls) bad told:=by
 refine Zc.Lo (args:=#[_,_]) Tryz.func50 rfl rfl rfl ?_;obtain⟨Zag,Zcr,sme,Zcs,jP,Eg,ru,Zah,Zqu⟩:=bJ n;refine VS.seq (VS.mono (N:=fun F' g'=>F' 0=.pointer (some ⟨wb,0,none⟩)∧F' 1=.pointer (some ⟨nb,0,none⟩)∧∃a1,Kp (XL i) o h o g'∧ZM o g' wb i nb a1 (still n)∧ZH o g' wb Yb YO fl bad told) ?_ ?_ (fun _ _ _ h=>h) (fun _ _ h=>h))
 ·refine Jp _ _ _ _ _ _ rfl ?_;unfold Zp;have P:=ZA N.ZG.2 N.pt.store.len;have WD:=Za N.ZG.2;have Pr:=P.Zj;have Po:=P.Ct
  cases O0:a.Zj with
  | none=>
   rw[O0]at Pr;have hn:n.Zj=none:=by
    have:=N.pt.Zj;rw[O0]at this
    cases hx:n.Zj with
    | none=>rfl
    | some r=>rw[hx]at this;exact this.elim
   have es:still n=n:=by unfold still;rw[hn]
   rw[es];unfold Pz at Pr;simp -implicitDefEqProofs only[go_sem,↓reduceIte,Pr];refine VS.mono (N:=fun F' g'=>Zf h.size h g'∧F' 0=.pointer (some ⟨wb,0,none⟩)∧F' 1=.pointer (some ⟨nb,0,none⟩)∧F' 26=.bool false) ?_ ?_ (fun _ _ _ h=>h) (fun _ _ h=>h)
   ·refine VS.z (h.size) [12] (.p 0 (.p 1 (.p 2 (.p 3 (.p 4 (.p 5 (.p 6 (.q 7 (.p 8 (.p 9 (.p 10 (.q 11 (.w 12 (.p 13 .nil)))))))))))))) mixed (by kernel_rfl) ?_;simp -implicitDefEqProofs only[go_sem,↓reduceIte,Pr,Po,WD]
    try exact Zf.refl _ _
   rintro F1 g1 ⟨b1,f0,f1,f26⟩;have kb:=ZE d b1;simp -implicitDefEqProofs only[go_sem,↓reduceIte,f26];exact⟨f0,f1,a,ZF kb,N.still kb,W.still kb⟩
  | some ra=>
   obtain⟨r,hn⟩:∃r,n.Zj=some r:=by
    have:=N.pt.Zj;rw[O0]at this
    cases hx:n.Zj with
    | none=>rw[hx]at this;exact this.elim
    | some r=>exact⟨r,rfl⟩
   rw[O0]at Pr;unfold Pz Zp at Pr;have R:YR o i h ra r:=by have:=N.pt.Zj;rw[O0,hn]at this;exact this
   obtain⟨q0,_,_,_,_⟩:=R.rr;have BD:=Za R.ZG.2;simp -implicitDefEqProofs only[go_sem,↓reduceIte,Pr];refine VS.mono (N:=fun F' g'=>Zf h.size h g'∧F' 0=.pointer (some ⟨wb,0,none⟩)∧F' 1=.pointer (some ⟨nb,0,none⟩)∧F' 26=.bool (decide (below r.b n.own.p))) ?_ ?_ (fun _ _ _ h=>h) (fun _ _ h=>h)
   ·refine VS.z (h.size) [12] (.p 0 (.p 1 (.p 2 (.p 3 (.p 4 (.p 5 (.p 6 (.q 7 (.p 8 (.p 9 (.p 10 (.q 11 (.w 12 (.p 13 .nil)))))))))))))) mixed (by kernel_rfl) ?_;simp -implicitDefEqProofs only[go_sem,↓reduceIte,Pr,Po,q0,WD,BD];refine (OY T h n.own.p r.b).use ?_;rintro _ g ⟨rfl,b⟩;simp -implicitDefEqProofs only[go_sem,↓reduceIte,b]
   rintro F1 g1 ⟨b1,f0,f1,f26⟩;have kb:=ZE d b1;have N1:=N.still kb;have W1:=W.still kb;by_cases c:below r.b n.own.p
   ·have es:still n = { n with Zj:=none }:=by unfold still;rw[hn];simp only;rw[if_pos c]
    rw[es];have hpn:a.ZB=.nilFunc:=by
     have:=N.pt.ZB;rw[hp0]at this;exact this
    have pn:UD o g1 wb i nb none a.ZB n.ZB:=by rw[hp0];exact hpn
    obtain⟨g2,w2,N2,k2⟩:=ZV.write (a:={ a with Zj:=none }) (n:={ n with Zj:=none }) { N1.pt with Zj:=trivial,ZB:=pn } kb.ZX N1.ZG ((Y0 N1.ZG.2 N1.pt.store.len).Zj none);have JZ:=Za N1.ZG.2;unfold Pz at w2;simp -implicitDefEqProofs only[go_sem,↓reduceIte,f0,f1,f26,c,w2,JZ];exact⟨_,(ZF kb).trans (k2.mono fun t q=>.inr (.inr (.inr (by rw[q];rfl)))),N2,W1.Zd k2 (by rintro t rfl;simp[Tg.of])⟩
   ·have es:still n=n:=by unfold still;rw[hn];simp only;rw[if_neg c]
    rw[es];simp -implicitDefEqProofs only[go_sem,↓reduceIte,f26,c];exact⟨f0,f1,a,ZF kb,N1,W1⟩
 rintro F1 g1 ⟨f0,f1,a1,K1,N1,W1⟩;obtain⟨s,hs⟩:=Zx (still n);rw[←hs]at N1 Zag Zcr sme Zcs jP Eg ru Zah Zqu;have srg:s.Zj=none∨s.Zj=n.Zj:=by rw[hs];exact CJ n
 obtain⟨Zai,Zho,eme,Zct,Zqv,ets⟩:=PC s;have els:=CK s;unfold VA;rw[←hs];clear hs;refine VS.seq (VS.mono (N:=fun F' g'=>F' 0=.pointer (some ⟨wb,0,none⟩)∧F' 1=.pointer (some ⟨nb,0,none⟩)∧∃kb a1,F' 5=.pointer (some ⟨kb,0,none⟩)∧ZR o g' kb (.cells [.int .i64 n.own.p.r,.int .i64 n.own.p.n].toArray 78)∧Kp (XL i) o h o g'∧ZM o g' wb i nb a1 s∧ZH o g' wb Yb YO fl bad told) ?_ ?_ (fun _ _ _ h=>h) (fun _ _ h=>h))
 ·refine Jp _ _ _ _ _ _ rfl ?_;have P1:=ZA N1.ZG.2 N1.pt.store.len;have P1o:=P1.Ct;rw[jP]at P1o;have WD:=Za N1.ZG.2;obtain⟨g2,QW⟩:=Zx (g1.push (.cells [.int .i64 n.own.p.r,.int .i64 n.own.p.n].toArray 78):Hp);have k2:Kp QM o g1 o g2:=by rw[QW];exact ZY K1.ZX _
  have x5:ZR o g2 g1.size (.cells [.int .i64 n.own.p.r,.int .i64 n.own.p.n].toArray 78):=⟨K1.ZX _ (Nat.le_refl _),by rw[QW];exact Zb⟩
  have e2:=QW.symm;simp -implicitDefEqProofs only[go_sem,↓reduceIte,f0,f1,P1o,WD,e2];exact⟨_,a1,rfl,x5,K1.trans (ZF k2),N1.still k2,W1.still k2⟩
 clear f0 f1 K1 N1 W1;rintro F2 g2 ⟨f0,f1,kb,a2,f5,x5,K2,N2,W2⟩;have AS:=tb.Zd K2;refine VS.seq (VS.mono (N:=fun F' g'=>F' 0=.pointer (some ⟨wb,0,none⟩)∧F' 1=.pointer (some ⟨nb,0,none⟩)∧(YI s).n.ZB=none∧∃o' a1 XA,Kp (XL i) o h o' g'∧ZM o' g' wb i nb a1 (YI s).n∧ZH o' g' wb Yb XA (fl++(YI s).ls) bad told) ?_ ?_ (fun _ _ _ h=>h) (fun _ _ h=>h))
 ·refine Jp _ _ _ _ _ _ rfl ?_;have P2:=ZA N2.ZG.2 N2.pt.store.len;have P2r:=P2.Zj;have jQ:=P2.me;have WD:=Za N2.ZG.2;have l5:=Za x5.2
  cases O0:a2.Zj with
  | some ra=>
   obtain⟨r,hn⟩:∃r,s.Zj=some r:=by
    have:=N2.pt.Zj;rw[O0]at this
    cases hx:s.Zj with
    | none=>rw[hx]at this;exact this.elim
    | some r=>exact⟨r,rfl⟩
   have hnr:n.Zj=some r:=by
    rcases srg with e|e
    ·rw[e]at hn;cases hn
    ·rw[←e,hn]
   have e1:YI s=QY s r:=by unfold YI;rw[hn]
   have ea:a2 = { a2 with Zj:=some ra }:=by rw[←O0]
   have es:s = { s with Zj:=some r }:=by rw[←hn]
   obtain⟨ay,hr2,hr3⟩:=hr r hnr;rw[O0]at P2r;unfold Pz Zp at P2r;have cr:=xF T g2 o wb i nb Yb a2 s ra r YO fl bad told K2.ZX (by rw[←ea,←es];exact N2) W2 AS (by omega) (by rw[jP];exact qh) (by rw[Zah];exact lj) ay hr2 hr3 (by rw[Zcr];omega) (by rw[Eg];omega);rw[←es,←e1]at cr;unfold Zp at cr;simp -implicitDefEqProofs only[go_sem,↓reduceIte,f0,f1,P2r];refine cr.use ?_;rintro v' g3 ⟨o3,a3,tU,k3,N3,W3⟩;have P3:=(ZA N3.ZG.2 N3.pt.store.len).ZB;rcases N3.pt.ZB.fn with⟨c1,c2⟩|⟨c1,f,l,c2⟩
   ·rw[c2]at P3;simp -implicitDefEqProofs only[go_sem,↓reduceIte,f0,f1,P3];exact⟨c1,o3,a3,tU,K2.trans k3,N3,W3⟩
   ·rw[c2]at P3;simp -implicitDefEqProofs only[go_sem,↓reduceIte,f0,f1,P3];rw[if_pos c1];exact⟨o3,a3,tU,K2.trans k3,N3,W3⟩
  | none=>
   have hn:s.Zj=none:=by
    have:=N2.pt.Zj;rw[O0]at this
    cases hx:s.Zj with
    | none=>rfl
    | some r=>rw[hx]at this;exact this.elim
   rw[O0]at P2r;unfold Pz at P2r;have r5a:hc g2 ⟨kb,0,none⟩=some (.int .i64 n.own.p.r):=Zh x5.2;have r5b:hc g2 ⟨kb,1,none⟩=some (.int .i64 n.own.p.n):=Zh x5.2;rw[sme]at jQ;by_cases c:0<n.own.p.r∧n.own.p.n≠n.me
   case neg=>
    have e1:YI s=⟨s,[],[]⟩:=by unfold YI;rw[hn];simp only;rw[jP,sme,if_neg c]
    rw[e1];have O1:s.ZB=none:=by rw[ru];exact hp0
    simp -implicitDefEqProofs only[go_sem,↓reduceIte,f0,f1,P2r];refine VS.mono (N:=fun F' g'=>Zf g2.size g2 g'∧F' 0=.pointer (some ⟨wb,0,none⟩)∧F' 1=.pointer (some ⟨nb,0,none⟩)∧F' 53=.bool false) ?_ ?_ (fun _ _ _ h=>h) (fun _ _ h=>h)
    ·refine VS.z (g2.size) [] (.p 0 (.q 1 (.p 2 (.p 3 (.p 4 (.q 5 (.p 6 (.p 7 (.p 8 (.q 9 (.p 10 (.p 11 (.p 12 .nil))))))))))))) mixed (by kernel_rfl) ?_;by_cases c1:0<n.own.p.r
     ·have c2:n.own.p.n=n.me:=by
       rcases Decidable.em (n.own.p.n=n.me) with e|e
       ·exact e
       ·exact (c ⟨c1,e⟩).elim
      simp -implicitDefEqProofs only[go_sem,↓reduceIte,f0,f1,f5,r5a,r5b,jQ,l5,WD,c1,c2]
      try exact Zf.refl _ _
     ·simp -implicitDefEqProofs only[go_sem,↓reduceIte,f0,f1,f5,r5a,r5b,jQ,l5,WD,c1]
      try exact Zf.refl _ _
    rintro F3 g3 ⟨b3,f0,f1,f53⟩;have WB:=ZE K2.ZX b3;simp -implicitDefEqProofs only[go_sem,↓reduceIte,f53];exact⟨f0,f1,O1,o,a2,YO,K2.trans (ZF WB),N2.still WB,by rw[List.append_nil];exact W2.still WB⟩
   have e1:YI s=⟨s,Tf s,[]⟩:=by unfold YI;rw[hn];simp only;rw[jP,sme,if_pos c]
   rw[e1];have O1:s.ZB=none:=by rw[ru];exact hp0
   obtain⟨c1,c2⟩:=c;simp -implicitDefEqProofs only[go_sem,↓reduceIte,f0,f1,P2r];refine VS.mono (N:=fun F' g'=>Zf g2.size g2 g'∧F' 0=.pointer (some ⟨wb,0,none⟩)∧F' 1=.pointer (some ⟨nb,0,none⟩)∧F' 5=.pointer (some ⟨kb,0,none⟩)∧F' 53=.bool true) ?_ ?_ (fun _ _ _ h=>h) (fun _ _ h=>h)
   ·refine VS.z (g2.size) [] (.p 0 (.q 1 (.p 2 (.p 3 (.p 4 (.q 5 (.p 6 (.p 7 (.p 8 (.q 9 (.p 10 (.p 11 (.p 12 .nil))))))))))))) mixed (by kernel_rfl) ?_;simp -implicitDefEqProofs only[go_sem,↓reduceIte,f0,f1,f5,r5a,r5b,jQ,l5,WD,c1,c2]
    try exact Zf.refl _ _
   clear f0 f1 f5;rintro F3 g3 ⟨b3,f0,f1,f5,f53⟩;have WB:=ZE K2.ZX b3;have N3:=N2.still WB;have W3:=W2.still WB;have K3:=K2.trans (ZF (S:=XL i) WB);have y5:=x5.Zd WB;obtain⟨pq,cq,xI,_⟩:=YG.isSlice N3.pt.queue;have xI:a2.queue=.slice pq s.queue.length cq:=xI;have P3q:=(ZA N3.ZG.2 N3.pt.store.len).queue;rw[xI]at P3q;simp -implicitDefEqProofs only[go_sem,↓reduceIte,f0,f1,f53,P3q];have hql:s.queue.length≤10000000000:=by rw[Eg];exact hq
   refine VS.ZW (fun F g=>F 0=.pointer (some ⟨wb,0,none⟩)∧F 1=.pointer (some ⟨nb,0,none⟩)∧F 5=.pointer (some ⟨kb,0,none⟩)∧F 69=.slice pq s.queue.length cq∧F 70=.int .i64 s.queue.length∧∃(j:Nat) (o':Ow) (XA:WA),j≤s.queue.length∧F 71=.int .i64 j∧Kp (XL i) o h o' g∧ZM o' g wb i nb a2 s∧ZH o' g wb Yb XA (fl++(Tf s).take j) bad told∧ZR o' g kb (.cells [.int .i64 n.own.p.r,.int .i64 n.own.p.n].toArray 78))
    (fun F _=>s.queue.length-(vi (F 71)).toNat) rfl ⟨f0,f1,f5,rfl,rfl,0,o,YO,by omega,rfl,K3,N3,by simpa using W3,y5⟩ ?_
   clear f0 f1 f5 f53 P3q N3 W3 K3 y5 WB b3 x5 K2 N2 W2;rintro F4 g4 ⟨f0,f1,f5,f69,f70,j,o4,fj,hj,f71,K4,N4,W4,y5⟩;have vZ:(Tf s).length=s.queue.length:=by unfold Tf;simp
   by_cases ZD:j<s.queue.length
   ·have ZL:(j:Int)<s.queue.length:=by omega
    obtain⟨pz,cz,Fu,az⟩:=JY N4.pt.queue.ts;obtain⟨bb,oo,wq,Wi,O3⟩:=az (by intro e;have:s.queue=[]:=e;rw[this]at ZD;simp at ZD);have Fu:a2.queue=.slice pz s.queue.length cz:=Fu;rw[xI]at Fu;simp only[Value.slice.injEq]at Fu;obtain⟨rfl,_,rfl⟩:=Fu;subst wq;have re:rd g4 ⟨bb,oo+j*5,none⟩ 5=some (s.queue[j]).C:=O3 j ZD;obtain⟨x,hx⟩:=Zx (s.queue[j]);rw[←hx]at re;have YX:(Tf s).take (j+1)=(Tf s).take j++[⟨4,s.me,n.own.p.n,JE,T8 0 JE x,[]⟩]:=by
     rw[Yl _ j (by rw[vZ];exact ZD)]
     congr 2
     unfold Tf;rw[List.getElem_map,←hx,jP]
    obtain⟨g5,rD⟩:=Zx (g4.push (.cells x.C.toArray 47):Hp);have k5:Kp QM o4 g4 o4 g5:=by rw[rD];exact ZY K4.ZX _
    have x7:ZR o4 g5 g4.size (.cells x.C.toArray 47):=⟨K4.ZX _ (Nat.le_refl _),by rw[rD];exact Zb⟩
    have e5:=rD.symm;have N5:=N4.still k5;have W5:=W4.still k5;have z5:=y5.Zd k5;have s5:hc g5 ⟨kb,1,none⟩=some (.int .i64 n.own.p.n):=Zh z5.2;have sx:rd g5 ⟨g4.size,0,none⟩ 5=some [.int .i64 x.k,.int .i64 x.c,.int .i64 x.s,.int .i64 x.n,.int .i64 x.v]:=Zq x7.2 rfl;have re:rd g4 ⟨bb,oo+j*5,none⟩ 5=some [.int .i64 x.k,.int .i64 x.c,.int .i64 x.s,.int .i64 x.n,.int .i64 x.v]:=re;have e5:g4.push (.cells [.int .i64 x.k,.int .i64 x.c,.int .i64 x.s,.int .i64 x.n,.int .i64 x.v].toArray 47)=g5:=e5;have P5:=ZA N5.ZG.2 N5.pt.store.len;have PB:=Za N5.ZG.2;simp -implicitDefEqProofs only[go_sem,↓reduceIte,f0,f1,f5,f69,f70,f71,ZL,re,e5,s5,sx];have rl:(fl++(Tf s).take j).length≤1000000000000:=by
     rw[List.length_append,List.length_take];omega
    refine (UY T g5 o4 wb nb Yb s.me fj _ bad told n.own.p.n ⟨4,0,0,JE,T8 0 JE x,[]⟩ (.slice none 0 0) k5.ZX W5 P5.me PB (Im.nil _ _ _ _) rl).use ?_;rintro v' g6 ⟨o6,WA6,k6,_,W6⟩;simp -implicitDefEqProofs only[go_sem,↓reduceIte,f71];unfold Yt;refine⟨⟨f0,f1,f5,f69,f70,j+1,o6,WA6,ZD,rfl,(K4.trans (ZF k5)).trans (k6.mono fun t q=>by rcases q with rfl|rfl<;>simp[XL]),N5.Zd k6 (by rintro t (rfl|rfl)<;>simp[Tg.of]),by rw[YX,←List.append_assoc];exact W6,z5.Zd k6⟩,?_⟩;simp only[vi,Zi,↓reduceIte,f71];omega
   ·have YJ:¬(j:Int)<s.queue.length:=by omega
    obtain rfl:j=s.queue.length:=by omega
    rw[List.take_of_length_le (by rw[vZ];exact Nat.le_refl _)]at W4;simp -implicitDefEqProofs only[go_sem,↓reduceIte,f70,f71,YJ];exact⟨f0,f1,O1,o4,a2,fj,K4,N4,W4⟩
 clear f0 f1 f5 x5 K2 N2 W2 AS;rintro F3 g3 ⟨f0,f1,O1,o3,a3,tU,K3,N3,W3⟩;rw[if_neg (by rw[O1];simp)];obtain⟨m,hm⟩:=Zx ((YI s).n);obtain⟨ls,hls⟩:=Zx ((YI s).ls);rw[←hm]at Zai Zho eme Zct Zqv N3 O1;rw[←hls]at W3 els;rw[←hm,←hls];clear hm hls;have hmt:0≤m.Xr∧m.Xr<5:=by rw[Zai,Zag];exact ht
 have eI:m.log.length≤100000000000:=by rw[Zho,Zcr];exact hl
 have hll:ls.length≤10000000200:=by rw[Eg]at els;omega
 refine VS.seq (VS.mono (N:=fun F' g'=>F' 0=.pointer (some ⟨wb,0,none⟩)∧F' 1=.pointer (some ⟨nb,0,none⟩)∧Kp (XL i) o h o3 g'∧ZM o3 g' wb i nb a3 (Qg m)∧ZH o3 g' wb Yb tU (fl++ls) bad told) ?_ ?_ (fun _ _ _ h=>h) (fun _ _ h=>h))
 ·refine Jp _ _ _ _ _ _ rfl ?_;have P3:=ZA N3.ZG.2 N3.pt.store.len;have P3t:=P3.Xr;have WD:=Za N3.ZG.2;have et:(m.Xr+1).tmod 5=(m.Xr+1)%5:=Int.tmod_eq_emod_of_nonneg (by omega);obtain⟨g4,w4,N4,k4⟩:=ZV.write (a:=a3) (n:=Qg m) { N3.pt with } K3.ZX N3.ZG ((Y0 N3.ZG.2 N3.pt.store.len).Xr ((m.Xr+1)%5));simp -implicitDefEqProofs only[go_sem,↓reduceIte,f0,f1,P3t,et,w4,WD];exact⟨K3.trans (k4.mono fun t q=>.inr (.inr (.inr (by rw[q];rfl)))),N4,W3.Zd k4 (by rintro t rfl;simp[Tg.of])⟩
 clear f0 f1 K3 N3 W3;rintro F4 g4 ⟨f0,f1,K4,N4,W4⟩;obtain⟨q,hq0⟩:=Zx (Qg m);have ql:q.log=m.log:=by rw[hq0];rfl
 rw[←hq0]at N4 ⊢;clear hq0;have P4:=ZA N4.ZG.2 N4.pt.store.len;have P4t:=P4.Xr;have Zcv:=P4.me;have P4o:=P4.Ct;have P4l:=P4.log;obtain⟨pl,cl,L0,_⟩:=YG.isSlice N4.pt.log;have L0:a3.log=.slice pl q.log.length cl:=L0;rw[L0]at P4l;have WD:=Za N4.ZG.2;rw[←ql]at eI;refine Jp _ _ _ _ _ _ rfl ?_;simp -implicitDefEqProofs only[go_sem,↓reduceIte];by_cases c:q.Xr≠q.me∧q.log.length<40
 case neg=>
  have e1:Vz q=[]:=by unfold Vz;rw[if_neg c]
  rw[e1,List.append_nil];refine VS.mono (N:=fun F' g'=>Zf g4.size g4 g'∧F' 109=.bool false) ?_ ?_ (fun _ _ _ h=>h) (fun _ _ h=>h)
  ·refine VS.z (g4.size) [] (.p 0 (.p 1 (.p 2 (.q 3 (.p 4 (.p 5 (.p 6 (.q 7 (.p 8 (.p 9 (.p 10 (.p 11 (.p 12 (.q 13 (.p 14 (.p 15 (.p 16 .nil))))))))))))))))) mixed (by kernel_rfl) ?_;by_cases c1:q.Xr=q.me
   ·simp -implicitDefEqProofs only[go_sem,↓reduceIte,f0,f1,P4t,Zcv,P4l,WD,c1]
    try exact Zf.refl _ _
   ·have c2:¬(q.log.length:Int)<40:=by
     intro e;exact c ⟨c1,by omega⟩
    simp -implicitDefEqProofs only[go_sem,↓reduceIte,f0,f1,P4t,Zcv,P4l,WD,c1,c2]
    try exact Zf.refl _ _
  rintro F5 g5 ⟨b5,f109⟩;have GC:=ZE K4.ZX b5;simp -implicitDefEqProofs only[go_sem,↓reduceIte,f109];exact⟨o3,a3,tU,K4.trans (ZF GC),N4.still GC,W4.still GC⟩
 have e1:Vz q=[⟨5,q.me,q.Xr,UM q,T8 q.log.length JE By,[]⟩]:=by unfold Vz;rw[if_pos c]
 rw[e1];obtain⟨c1,c2⟩:=c;have c2:(q.log.length:Int)<40:=by omega
 refine VS.mono (N:=fun F' g'=>Zf g4.size g4 g'∧F' 0=.pointer (some ⟨wb,0,none⟩)∧F' 1=.pointer (some ⟨nb,0,none⟩)∧F' 109=.bool true) ?_ ?_ (fun _ _ _ h=>h) (fun _ _ h=>h)
 ·refine VS.z (g4.size) [] (.p 0 (.p 1 (.p 2 (.q 3 (.p 4 (.p 5 (.p 6 (.q 7 (.p 8 (.p 9 (.p 10 (.p 11 (.p 12 (.q 13 (.p 14 (.p 15 (.p 16 .nil))))))))))))))))) mixed (by kernel_rfl) ?_;simp -implicitDefEqProofs only[go_sem,↓reduceIte,f0,f1,P4t,Zcv,P4l,WD,c1,c2]
  try exact Zf.refl _ _
 clear f0 f1;rintro F5 g5 ⟨b5,f0,f1,f109⟩;have GC:=ZE K4.ZX b5;have N5:=N4.still GC;have W5:=W4.still GC;have K5:Kp (XL i) o h o3 g5:=K4.trans (ZF GC);have P5:=ZA N5.ZG.2 N5.pt.store.len;have P5o:=P5.Ct;have PB:=Za N5.ZG.2;obtain⟨g6,Rt⟩:=Zx (g5.push (.cells [.int .i64 q.own.p.r,.int .i64 q.own.p.n].toArray 78):Hp);have k6:Kp QM o3 g5 o3 g6:=by rw[Rt];exact ZY K5.ZX _
 have x8:ZR o3 g6 g5.size (.cells [.int .i64 q.own.p.r,.int .i64 q.own.p.n].toArray 78):=⟨K5.ZX _ (Nat.le_refl _),by rw[Rt];exact Zb⟩
 have e6:=Rt.symm;have N6:=N5.still k6;have W6:=W5.still k6;have K6:Kp (XL i) o h o3 g6:=K5.trans (ZF k6);have P6h:=(ZA N6.ZG.2 N6.pt.store.len).heard;have rq:=Za N6.ZG.2;have l8:=Za x8.2;have r8:rd g6 ⟨g5.size,0,none⟩ 2=some [.int .i64 q.own.p.r,.int .i64 q.own.p.n]:=Zq x8.2 rfl;obtain⟨kb,tC⟩:=Zx (g5.size);simp -implicitDefEqProofs only[go_sem,↓reduceIte,f0,f1,f109,P5o,PB,e6];rw[←tC]at x8 l8 r8 ⊢;refine VS.mono (N:=fun F' g'=>Zf g6.size g6 g'∧F' 0=.pointer (some ⟨wb,0,none⟩)∧F' 1=.pointer (some ⟨nb,0,none⟩)∧F' 8=.pointer (some ⟨kb,0,none⟩)∧F' 120=.bool (decide (below q.own.p q.heard))) ?_ ?_ (fun _ _ _ h=>h) (fun _ _ h=>h)
 ·refine VS.z (g6.size) [5] (.p 0 (.p 1 (.p 2 (.q 3 (.q 4 (.w 5 .nil)))))) mixed (by kernel_rfl) ?_;simp -implicitDefEqProofs only[go_sem,↓reduceIte,f0,f1,P6h,r8,rq,l8];refine (OY T g6 q.heard q.own.p).use ?_;rintro _ g ⟨rfl,b⟩;simp -implicitDefEqProofs only[go_sem,↓reduceIte,b];exact⟨f0,f1⟩
 clear f0 f1;rintro F7 g7 ⟨b7,f0,f1,f8,f120⟩;have kb7:=ZE K6.ZX b7;have N7:=N6.still kb7;have W7:=W6.still kb7;have K7:Kp (XL i) o h o3 g7:=K6.trans (ZF kb7);have y8:=x8.Zd kb7;have P7h:=(ZA N7.ZG.2 N7.pt.store.len).heard;have Zcw:=Za N7.ZG.2;have m8:=Za y8.2;by_cases c6:below q.own.p q.heard
 all_goals
 first
 | (have eb:UM q=q.heard:=by unfold UM;rw[if_pos c6]
    obtain⟨g8,Hz⟩:=Zx (g7.setIfInBounds kb (.cells [.int .i64 q.heard.r,.int .i64 q.heard.n].toArray 78):Hp);have w8:wr g7 ⟨kb,0,none⟩ [.int .i64 q.heard.r,.int .i64 q.heard.n]=some g8:=by rw[ZU y8.2 0 _,Hz];rfl
    have k8:Kp QM o3 g5 o3 g8:=by rw[Hz];exact (k6.trans kb7).AQ (by omega) _
    have z8:ZR o3 g8 kb (.cells [.int .i64 (UM q).r,.int .i64 (UM q).n].toArray 78):=⟨y8.1,by rw[Hz,eb];exact Zy y8.2⟩
    simp -implicitDefEqProofs only[go_sem,↓reduceIte,f0,f1,f8,f120,c6,P7h,Zcw,w8])
 | (have eb:UM q=q.own.p:=by unfold UM;rw[if_neg c6]
    obtain⟨g8,Hz⟩:=Zx (g7:Hp);have k8:Kp QM o3 g5 o3 g8:=by rw[Hz];exact k6.trans kb7
    have z8:ZR o3 g8 kb (.cells [.int .i64 (UM q).r,.int .i64 (UM q).n].toArray 78):=⟨y8.1,by rw[Hz,eb];exact y8.2⟩
    simp -implicitDefEqProofs only[go_sem,↓reduceIte,f120,c6];rw[←Hz])
 all_goals
  have N8:=N5.still k8;have W8:=W5.still k8;have K8:Kp (XL i) o h o3 g8:=K5.trans (ZF k8);have P8:=ZA N8.ZG.2 N8.pt.store.len;have P8t:=P8.Xr;have P8l:=P8.log;rw[L0]at P8l;have xO:=Za N8.ZG.2;have n8:=Za z8.2;have s8:rd g8 ⟨kb,0,none⟩ 2=some [.int .i64 (UM q).r,.int .i64 (UM q).n]:=Zq z8.2 rfl;refine VS.z (g8.size) [14] (.p 0 (.p 1 (.p 2 (.p 3 (.p 4 (.q 5 (.q 6 (.p 7 (.p 8 (.p 9 (.q 10 (.p 11 (.p 12 (.p 13 (.w 14 .nil))))))))))))))) mixed (by kernel_rfl) ?_;simp -implicitDefEqProofs only[go_sem,↓reduceIte,f0,f1,f8,P8t,P8l,s8,xO,n8];have rl:(fl++ls).length≤1000000000000:=by rw[List.length_append];omega
  refine (UY T g8 o3 wb nb Yb q.me tU _ bad told q.Xr ⟨5,0,0,UM q,T8 q.log.length JE By,[]⟩ (.slice none 0 0) K8.ZX W8 P8.me xO (Im.nil _ _ _ _) rl).use ?_;rintro v' g9 ⟨o9,WA9,k9,_,W9⟩;simp -implicitDefEqProofs only[go_sem,↓reduceIte];exact⟨o9,a3,WA9,K8.trans (k9.mono fun t q=>by rcases q with rfl|rfl<;>simp[XL]),N8.Zd k9 (by rintro t (rfl|rfl)<;>simp[Tg.of]),by rw[←List.append_assoc];exact W9⟩
structure bK (n:Nd) (l:Xj) (fl told:Nat):Prop where
 kind:0≤l.kind∧l.kind≤7
 room:fl≤1000000000000
 YP:n.own.l.length≤1000000
 data:n.data.length≤1000000
 known:n.known.length≤100000000000
 log:n.log.length≤100000000000
 told:told≤100000000000
 queue:n.queue.length≤1000000000000
 waiting:n.waiting.length≤1000000000000
 Ti:∀r s,n.Zj=some r→((Yv r.Xz s).getD []).length≤1000000
structure rE (n:Nd) (fl:Nat):Prop where
 room:fl≤800000000000
 YP:n.own.l.length≤1000000
 data:n.data.length≤1000000
 rgn:∀r,n.Zj=some r→(∀x∈r.prom,x.2.length≤1000000)∧(∀x∈r.prom,∀v∈x.2,v.slot≤1000000)∧r.prom.length≤1000000000000
 log:n.log.length≤100000000000
 queue:n.queue.length≤10000000000
 Xr:0≤n.Xr∧n.Xr<5
def Rd:Nd→List Xj→Nat→Nat→Prop
 | _,[],_,_=>True
 | n,l :: k,f,t=>n.ZB.isSome=true∨(bK { n with inbox:=k } l f t∧Rd (handle { n with inbox:=k } l).n k (f+(handle { n with inbox:=k } l).ls.length) (t+(handle { n with inbox:=k } l).ts.length))
structure bL (n:Nd) (fl told:Nat):Prop where
 data:n.data.length≤1000000
 room:fl≤1000000000000
 dr:n.ZB=none→Rd n n.inbox fl told
 du:n.ZB=none→(drain n n.inbox).n.ZB=none→rE (drain n n.inbox).n (fl+(drain n n.inbox).ls.length)
theorem Eh (n:Nd) (l:Xj) (k:List Xj):(handle { n with inbox:=k } l).n.inbox=k:=by
 have hL:∀(m:Nat) (x:Nd),(YH m x).1.inbox=x.inbox:=by
  intro m
  induction m with
  | zero=>intro x;rfl
  | succ m ih=>
   intro x;unfold YH;split
   ·rfl
   ·simp only;rw[ih];rfl
 have hl:∀(x:Nd) s c,(Wq x s c).n.inbox=x.inbox:=fun x s c=>by unfold Wq;simp only;rw[hL];rfl
 have hn:∀x:Nd,(notes x l).inbox=x.inbox:=fun x=>by unfold notes;split<;>rfl
 unfold handle;split
 ·unfold Y6;split;· rfl
  split;· rfl
  split<;>rfl
 split
 ·unfold YE;split
  ·rfl
  ·split
   ·split<;>rfl
   ·split;· rfl
    split
    ·rw[hl];rfl
    ·rfl
 split
 ·unfold asked;split;· rfl
  split;· rfl
  split<;>rfl
 split
 ·unfold add;simp only;split<;>rfl
 split
 ·unfold Ws;split
  ·simp only;rw[hn]
  ·simp only;rw[hn]
 split
 ·rw[hl]
 ·simp only;rw[hn]
theorem xP {o:Ow} {t:Tg} {h:Hp} {v:Value} {l:Xj} {k:List Xj} (s:Q0 o t h v (l :: k)) :
  ∃w b off c,v=.slice (some ⟨b,off,none⟩) (k.length+1) c∧k.length+1≤c∧rd h ⟨b,off,none⟩ 14=some (Y7 l w)∧Wz o h w l.vs∧Q0 o t h (.slice (if c=1 then some ⟨b,off,none⟩ else some ⟨b,off+14,none⟩) k.length (c-1)) k:=by
 obtain⟨xs,h1,h2,h3⟩:=s
 cases xs with
 | nil=>cases h1
 | cons x xs=>
  obtain⟨l',w⟩:=x;simp only[List.map_cons,List.cons.injEq]at h1;obtain⟨rfl,rfl⟩:=h1;have h2':=h2;rcases h2 with⟨_,e,_⟩|⟨b,off,cap,pre,spare,g1,rfl,g3,g4,g5,g6,g7⟩
  ·cases e
  refine⟨w,b,off,cap,by rw[List.length_map];rfl,by rw[List.length_map];exact g7,?_,h3 (l',w) (by simp),?_⟩
  ·have e1:Zz MQ ((l',w) :: xs)=Y7 l' w++Zz MQ xs:=by simp[Zz,MQ]
   have g5':(Zz MQ ((l',w) :: xs)).length=(xs.length+1)*14:=g5;rw[Z9 g3 (by simp only[List.length_append];omega),←g4,List.drop_left,e1,List.append_assoc];rfl
  ·refine⟨xs,rfl,?_,fun x hx=>h3 x (by simp[hx])⟩;have tl:=h2'.tail (k:=1) (by simp);have e1:Zz MQ ((l',w) :: xs)=Y7 l' w++Zz MQ xs:=by simp[Zz,MQ]
   rw[e1]at tl;have e2:(Y7 l' w++Zz MQ xs).drop (1*14)=Zz MQ xs:=rfl;rw[e2]at tl
   simpa [Y4] using tl
def CL (nb:Nat) (g:Hp):Nat:=match hc g ⟨nb,54,none⟩ with
 | some (.slice _ m _)=>m
 | _=>0
theorem CM {o:Ow} {h:Hp} {wb i nb:Nat} {a:NA} {n:Nd} (N:ZM o h wb i nb a n):CL nb h=n.inbox.length:=by
 obtain⟨xs,h1,h2,_⟩:=N.pt.inbox;obtain⟨p,c,h3,_⟩:=h2.isSlice;have:=(ZA N.ZG.2 N.pt.store.len).inbox;unfold CL;rw[this,h3,←h1,List.length_map]
theorem CN {i:Nat} (t:Tg) (q:Zcn i t):XL i t:=by
 rcases q with rfl|rfl|rfl|rfl|rfl
 ·exact .inl rfl
 ·exact .inr (.inl rfl)
 all_goals exact .inr (.inr (.inr rfl))
set_option maxHeartbeats 4000000 in
theorem rF (T:World) (h:Hp) (o:Ow) (wb i nb:Nat) (Yb:Nat→Nat) (a:NA) (n:Nd) (YO:WA) (fl:List Xj) (bad:Nat→Int) (told:List Rr) (d:UE o h)
  (N:ZM o h wb i nb a n) (W:ZH o h wb Yb YO fl bad told) (tb:BA o h) (ok:bL n fl.length told.length) :
  Zc Tryz.prog T 32 #[Zp wb,Zp nb] h fun v' h'=>∃o' a' XA,Kp (XL i) o h o' h'∧ZM o' h' wb i nb a' (step n).n∧ZH o' h' wb Yb XA (fl++(step n).ls) bad (told++(step n).ts):=by
 refine Zc.Zk (args:=[_,_]) Tryz.func32 rfl rfl rfl rfl ?_;unfold Zp;have P:=ZA N.ZG.2 N.pt.store.len;have WD:=Za N.ZG.2;have Pu:=P.up
 cases hu:n.up with
 | false=>
  have e1:step n=⟨n,[],[]⟩:=by unfold step;rw[hu];rfl
  rw[hu]at Pu;rw[e1,List.append_nil,List.append_nil];simp -implicitDefEqProofs only[go_sem,↓reduceIte,Pu];exact⟨o,a,YO,Kp.refl d _,N,W⟩
 | true=>
 rw[hu]at Pu;have Pp:=P.ZB
 cases hp:n.ZB with
 | some p=>
  have e1:step n=finish (synced n) p:=by unfold step;rw[hu,hp];rfl
  rw[e1];have Pn:=N.pt.ZB;rw[hp]at Pn;obtain⟨f,l,hf⟩:∃f l,a.ZB=.func (.func f) #[] l:=by
   rcases Pn.fn with⟨c,_⟩|⟨_,c⟩
   ·cases c
   ·exact c
  have Pp':=Pp;rw[hf]at Pp';obtain⟨pd,cd,O1⟩:=N.pt.data.1.isSlice;have O1:a.data=.slice pd n.data.length cd:=O1;have Pt:=P.tape;rw[O1]at Pt;have Nd:=N.pt.data;rw[O1]at Nd;simp -implicitDefEqProofs only[go_sem,↓reduceIte,Pu,Pp',Pt];refine (vA T h _ n.Xg n.data Nd.bs (by have:=ok.data;omega)).use ?_;rintro v1 h1 ⟨b1,s1⟩;have kb:=ZE d b1;have N1:=N.still kb;have W1:=W.still kb;obtain⟨p1,c1,rfl,i1⟩:∃p1 c1,v1=.tuple [.agg [.slice p1 (synced n).data.length c1,.int .i64 (synced n).Xg].toArray,.int .i64 (if YU n.data n.Xg then 0 else 5)].toArray∧VC o h1 (.slice p1 (synced n).data.length c1) (synced n).data:=by
   unfold ag at s1;by_cases c:YU n.data n.Xg
   ·rw[if_pos (show n.data.length≤100000∧0≤n.Xg∧n.Xg≤n.data.length from c)]at s1;obtain⟨w,rfl,o1⟩:=s1;obtain⟨p1,c1,rfl,_⟩:=o1.bs.open;have e2:(synced n).data=n.data:=by unfold synced;simp only;rw[if_pos c]
    have e3:(synced n).Xg=n.data.length:=by unfold synced;simp only;rw[if_pos c]
    rw[e2,e3,if_pos c];exact⟨p1,c1,rfl,Im.Ue o1.own (fun b hb=>d b hb),o1.byte⟩
   ·rw[if_neg (show ¬(n.data.length≤100000∧0≤n.Xg∧n.Xg≤n.data.length) from c)]at s1;have e2:(synced n).data=[]:=by unfold synced;simp only;rw[if_neg c]
    have e3:(synced n).Xg=0:=by unfold synced;simp only;rw[if_neg c]
    rw[e2,e3,if_neg c];exact⟨none,0,s1,Im.nil _ _ _ _,fun x hx=>by cases hx⟩
  obtain⟨g2,w2,N2,k2⟩:=ZV.write (a:={ a with data:=.slice p1 (synced n).data.length c1 }) (n:={ n with data:=(synced n).data,Xg:=(synced n).Xg }) { N1.pt with data:=i1 } kb.ZX N1.ZG ((Y0 N1.ZG.2 N1.pt.store.len).tape (.slice p1 (synced n).data.length c1) (synced n).Xg rfl);have JZ:=Za N1.ZG.2;have J9:=Za N2.ZG.2;have bM:hc g2 ⟨nb,55,none⟩=some a.ZB:=(ZA N2.ZG.2 N2.pt.store.len).ZB;have pn:UD o g2 wb i nb a.Zj .nilFunc none:=rfl;obtain⟨g3,w3,N3,k3⟩:=ZV.write (a:={ a with data:=.slice p1 (synced n).data.length c1,ZB:=.nilFunc }) (n:=synced n) { N2.pt with ZB:=pn } k2.ZX N2.ZG ((Y0 N2.ZG.2 N2.pt.store.len).ZB .nilFunc rfl);have K3:Kp (XL i) o h o g3:=((ZF kb).trans (k2.mono fun t q=>.inr (.inr (.inr (by rw[q];rfl))))).trans (k3.mono fun t q=>.inr (.inr (.inr (by rw[q];rfl))));have W3:=(W1.Zd k2 (by rintro t rfl;simp[Tg.of])).Zd k3 (by rintro t rfl;simp[Tg.of]);have Pn3:UD o g3 wb i nb a.Zj a.ZB (some p):=((Pn.Zd kb (by rintro⟨⟩)).Zd k2 (by intro e;cases e)).Zd k3 (by intro e;cases e);clear hf Pp';rw[show (finish (synced n) p).ts=[] from by cases p<;>rfl,List.append_nil];have rm:=ok.room;have hns:(synced n).ZB=none:=rfl
  cases p with
  | Lf acc to b vs=>
   obtain⟨b6,b4,b9,u,h1',h2',h3',h4',h5'⟩:=Pn3;have cf:=xm T g3 o wb i nb Yb YO fl bad told _ (synced n) acc to b vs b6 b4 b9 u k3.ZX N3 W3 rm h2' h3' h4' h5';rw[h1']at bM;unfold WM at bM;simp only[List.map]at bM;unfold Zp at bM cf;simp -implicitDefEqProofs only[go_sem,↓reduceIte,w2,JZ,bM,w3,J9];refine cf.use ?_;rintro v' h' ⟨o',a',XA,k,N',W'⟩;simp -implicitDefEqProofs only[go_sem,↓reduceIte];exact⟨o',a',XA,K3.trans (k.mono CN),N',W'⟩
  | MO acc to x=>
   obtain⟨b6,b4,b9,u,h1',h2',h3',h4',h5'⟩:=Pn3;have cf:=xo T g3 o wb i nb Yb YO fl bad told _ (synced n) acc to x b6 b4 b9 u k3.ZX N3 W3 rm h2' h3' h4' h5';rw[h1']at bM;unfold WM at bM;simp only[List.map]at bM;unfold Zp at bM cf;simp -implicitDefEqProofs only[go_sem,↓reduceIte,w2,JZ,bM,w3,J9];refine cf.use ?_;rintro v' h' ⟨o',a',XA,k,N',W'⟩;simp -implicitDefEqProofs only[go_sem,↓reduceIte];exact⟨o',a',XA,K3.trans (k.mono CN),N',W'⟩
  | own acc vs cur=>
   obtain⟨b6,b4,b7,b5,h1',cf⟩:=xp T g3 o wb i nb _ (synced n) acc vs cur a.ZB k3.ZX N3 hns Pn3;rw[h1']at bM;unfold WM at bM;simp only[List.map]at bM;unfold Zp at bM cf;rw[show (finish (synced n) (.own acc vs cur)).ls=[] from rfl,List.append_nil];simp -implicitDefEqProofs only[go_sem,↓reduceIte,w2,JZ,bM,w3,J9];refine cf.use ?_;rintro v' h' ⟨o',a',k,N'⟩;simp -implicitDefEqProofs only[go_sem,↓reduceIte];exact⟨o',a',YO,K3.trans (k.mono fun t q=>by rcases q with rfl|rfl|rfl<;>exact .inr (.inr (.inr rfl))),N',W3.Zd k (fun t q=>by rcases q with rfl|rfl|rfl<;>simp[Tg.of])⟩
 | none=>
  have Pp0:a.ZB=.nilFunc:=by have:=N.pt.ZB;rw[hp]at this;exact this
  have Pp1:=P.ZB;rw[Pp0]at Pp1;simp -implicitDefEqProofs only[go_sem,↓reduceIte,Pu,Pp1];obtain⟨D,hD⟩:=Zx (drain n n.inbox);have dr:=ok.dr hp;have du:=ok.du hp;have e1:step n=if D.n.ZB.isSome=true then D else ⟨(VA D.n).n,D.ls++(VA D.n).ls,D.ts++(VA D.n).ts⟩:=by unfold step;rw[hu,hp,hD];rfl
  rw[←hD]at du;rw[e1];refine VS.ZW (fun F g=>F 0=.pointer (some ⟨wb,0,none⟩)∧F 1=.pointer (some ⟨nb,0,none⟩)∧∃(o':Ow) (a':NA) (XA:WA) (m:Nd) (ls:List Xj) (ts:List Rr),Kp (XL i) o h o' g∧ZM o' g wb i nb a' m∧ZH o' g wb Yb XA (fl++ls) bad (told++ts)∧D=⟨(drain m m.inbox).n,ls++(drain m m.inbox).ls,ts++(drain m m.inbox).ts⟩∧Rd m m.inbox (fl.length+ls.length) (told.length+ts.length))
   (fun _ g=>CL nb g) rfl ⟨rfl,rfl,o,a,YO,n,[],[],Kp.refl d _,N,by simpa using W,by rw[hD];rfl,by simpa using dr⟩ ?_
  clear Pu Pp Pp0 Pp1 P WD N W d;rintro F1 g1 ⟨f0,f1,o1,a1,tV,m,ls,ts,K1,N1,W1,hDm,dr1⟩;have P1:=ZA N1.ZG.2 N1.pt.store.len;have JZ:=Za N1.ZG.2;have P1i:=P1.inbox;have xH:=P1.ZB;have stop:(m.inbox=[]∨m.ZB.isSome=true)→D=⟨m,ls,ts⟩:=by
   intro q;have e2:drain m m.inbox=⟨m,[],[]⟩:=by
    cases tW:m.inbox with
    | nil=>unfold drain;rw[←tW]
    | cons l k=>
     rcases q with q|q
     ·rw[tW]at q;cases q
     ·unfold drain;rw[if_pos q,←tW]
   rw[hDm,e2];simp
  rcases N1.pt.ZB.fn with⟨c1,c2⟩|⟨c1,f,fl',c2⟩
  ·rw[c2]at xH
   cases tW:m.inbox with
   | nil=>
    have eD:=stop (.inl tW);obtain⟨p,c,hi⟩:∃p c,a1.inbox=.slice p 0 c:=by
     have:=N1.pt.inbox;rw[tW]at this;obtain⟨xs,h1,h2,_⟩:=this;obtain⟨p,c,h3,_⟩:=h2.isSlice;rw[List.map_eq_nil_iff]at h1;subst h1;exact⟨p,c,h3⟩
    rw[hi]at P1i;have dok:=du (by rw[eD];exact c1);rw[eD]at dok;rw[eD,if_neg (by rw[c1];simp)];have cd:=xN T g1 o1 wb i nb Yb a1 m tV (fl++ls) bad (told++ts) K1.ZX N1 W1 (tb.Zd K1) c1 (by rw[List.length_append];exact dok.room) dok.YP dok.data dok.rgn dok.log dok.queue dok.Xr;unfold Zp at cd;simp -implicitDefEqProofs only[go_sem,↓reduceIte,f0,f1,P1i,xH];refine cd.use ?_;rintro v' g2 ⟨o2,a2,WA2,k2,N2,W2⟩;simp -implicitDefEqProofs only[go_sem,↓reduceIte];have edt:(VA m).ts=[]:=by
     unfold VA;split
     ·exact (PC _).2.2.2.2.2
     ·rfl
    refine⟨o2,a2,WA2,K1.trans k2,N2,?_⟩;rw[edt,List.append_nil,←List.append_assoc];exact W2
   | cons l k=>
    have NI:=N1.pt.inbox;rw[tW]at NI;obtain⟨w,b,off,c,hi,Us,O3,iv,tl⟩:=xP NI;rw[hi]at P1i;rw[tW]at dr1;have hk:bK { m with inbox:=k } l (fl.length+ls.length) (told.length+ts.length)∧Rd (handle { m with inbox:=k } l).n k (fl.length+ls.length+(handle { m with inbox:=k } l).ls.length) (told.length+ts.length+(handle { m with inbox:=k } l).ts.length):=by
     rcases dr1 with q|q
     ·rw[c1]at q;cases q
     ·exact q
    obtain⟨hk,dr2⟩:=hk;have BC:D=⟨(drain (handle { m with inbox:=k } l).n k).n,(ls++(handle { m with inbox:=k } l).ls)++(drain (handle { m with inbox:=k } l).n k).ls,(ts++(handle { m with inbox:=k } l).ts)++(drain (handle { m with inbox:=k } l).n k).ts⟩:=by
     rw[hDm,tW];have e2:drain m (l :: k)=⟨(drain (handle { m with inbox:=k } l).n k).n,(handle { m with inbox:=k } l).ls++(drain (handle { m with inbox:=k } l).n k).ls,(handle { m with inbox:=k } l).ts++(drain (handle { m with inbox:=k } l).n k).ts⟩:=by
      rw[drain];rw[if_neg (by rw[c1];simp)]
     rw[e2];simp
    have RW:=Eh m l k;clear stop dr1 hDm;obtain⟨pw,cw,rfl⟩:=iv.isSlice;obtain⟨g2,QW⟩:=Zx (g1.push (.cells (Y7 l (.slice pw l.vs.length cw)).toArray 111):Hp);have k2:Kp QM o1 g1 o1 g2:=by rw[QW];exact ZY K1.ZX _
    have x5:ZR o1 g2 g1.size (.cells (Y7 l (.slice pw l.vs.length cw)).toArray 111):=⟨K1.ZX _ (Nat.le_refl _),by rw[QW];exact Zb⟩
    have e2:=QW.symm;have N2:=N1.still k2;have W2:=W1.still k2;have P2i:=(ZA N2.ZG.2 N2.pt.store.len).inbox;rw[hi]at P2i;have J9:=Za N2.ZG.2;obtain⟨vi',hvi⟩:∃v:Value,v=.slice (if c=1 then some ⟨b,off,none⟩ else some ⟨b,off+14,none⟩) k.length (c-1):=⟨_,rfl⟩
    have tl2:Q0 o1 (.inbox i) g2 vi' k:=by rw[hvi];exact tl.Zd k2 (fun q=>q.elim)
    obtain⟨g3,w3,N3,k3⟩:=ZV.write (a:={ a1 with inbox:=vi' }) (n:={ m with inbox:=k }) { N2.pt with inbox:=tl2 } k2.ZX N2.ZG ((Y0 N2.ZG.2 N2.pt.store.len).inbox vi' (by rw[hvi];rfl));rw[hvi]at w3;have y5:=x5.Zd k3;have W3:=W2.Zd k3 (by rintro t rfl;simp[Tg.of]);have r5:rd g3 ⟨g1.size,0,none⟩ 14=some (Y7 l (.slice pw l.vs.length cw)):=Zq y5.2 rfl;have K3:Kp (XL i) o h o1 g3:=(K1.trans (ZF k2)).trans (k3.mono fun t q=>.inr (.inr (.inr (by rw[q];rfl))));have HU:(1:Int)≤c:=by omega
    have ch:=jH T g3 o1 wb i nb Yb _ { m with inbox:=k } tV (fl++ls) bad (told++ts) l (.slice pw l.vs.length cw) k3.ZX N3 W3 ((iv.Zd k2).Zd k3) (tb.Zd K3) hk.kind (by rw[List.length_append];exact hk.room) hk.YP hk.data hk.known hk.log (by rw[List.length_append];exact hk.told) hk.queue hk.waiting hk.Ti;unfold Zp Y7 at ch;unfold Y7 at O3 e2 r5;simp -implicitDefEqProofs only[go_sem,↓reduceIte,f0,f1,P1i,xH,O3,e2,P2i,J9,w3,Us,HU,r5,Nat.add_sub_cancel];refine ch.use ?_;rintro v' g4 ⟨o4,a4,fj,k4,N4,W4⟩;simp -implicitDefEqProofs only[go_sem,↓reduceIte];unfold Yt;have in4:=CM N4;have in1:=CM N1;rw[RW]at in4;rw[tW]at in1;refine⟨⟨f0,f1,o4,a4,fj,(handle { m with inbox:=k } l).n,ls++(handle { m with inbox:=k } l).ls,ts++(handle { m with inbox:=k } l).ts,K3.trans k4,N4,by rw[←List.append_assoc,←List.append_assoc];exact W4,by rw[RW];exact BC,by rw[RW,List.length_append,List.length_append,←Nat.add_assoc,←Nat.add_assoc];exact dr2⟩,?_⟩;show CL nb g4<CL nb g1;rw[in4,in1];simp
  ·rw[c2]at xH;have eD:=stop (.inr c1);rw[eD,if_pos c1];obtain⟨p,c,hi⟩:∃p c,a1.inbox=.slice p m.inbox.length c:=by
    obtain⟨xs,h1,h2,_⟩:=N1.pt.inbox;obtain⟨p,c,h3,_⟩:=h2.isSlice;rw[←h1,List.length_map];exact⟨p,c,h3⟩
   rw[hi]at P1i;by_cases hz:0<m.inbox.length
   ·have EG:(0:Int)<m.inbox.length:=by omega
    simp -implicitDefEqProofs only[go_sem,↓reduceIte,f0,f1,P1i,xH,EG];exact⟨o1,a1,tV,K1,N1,W1⟩
   ·have EG:¬(0:Int)<m.inbox.length:=by omega
    simp -implicitDefEqProofs only[go_sem,↓reduceIte,f0,f1,P1i,xH,EG];exact⟨o1,a1,tV,K1,N1,W1⟩
def VG (t:Tg):Prop:=True
def Zhr (t:Tg):Prop:=∃i,t.of=some i
theorem Ye {S:Tg→Prop} {o o':Ow} {h h':Hp} (k:Kp S o h o' h'):Kp VG o h o' h':=k.mono fun _ _=>trivial
structure Ju (o:Ow) (h:Hp) (wb:Nat) (Yb:Nat→Nat) (YO:WA) (w:Wd):Prop where
 wd:ZH o h wb Yb YO w.Zn w.bad w.told
 nd:∀i,i<5→∃a,ZM o h wb i (Yb i) a (w.nodes i)
theorem Ju.still {o:Ow} {h h':Hp} {wb:Nat} {Yb:Nat→Nat} {YO:WA} {w:Wd} {o':Ow} (A:Ju o h wb Yb YO w) (k:Kp QM o h o' h'):Ju o' h' wb Yb YO w:=
 ⟨A.wd.still k,fun i hi=>by obtain⟨a,N⟩:=A.nd i hi;exact⟨a,N.still k⟩⟩
theorem Ju.Xr {o o':Ow} {h h':Hp} {wb:Nat} {Yb:Nat→Nat} {YO tV:WA} {w:Wd} {i:Nat} {a:NA} {n:Nd} {fl:List Xj} {bad:Nat→Int} {told:List Rr} (A:Ju o h wb Yb YO w) (k:Kp (XL i) o h o' h')
  (N:ZM o' h' wb i (Yb i) a n) (W:ZH o' h' wb Yb tV fl bad told):Ju o' h' wb Yb tV { nodes:=fun j=>if j=i then n else w.nodes j,Zn:=fl,bad:=bad,told:=told }:=by
 refine⟨W,fun j hj=>?_⟩;by_cases e:j=i
 ·subst e;exact⟨a,by simpa using N⟩
 ·obtain⟨b,M⟩:=A.nd j hj;refine⟨b,?_⟩;simp only[if_neg e];refine M.Zd k fun t q hq=>?_;rcases q with rfl|rfl|rfl|q
  ·cases hq
  ·cases hq
  ·cases hq
  ·rw[hq]at q;exact e (Option.some.inj q)
theorem Ww {o:Ow} {h:Hp} {wb:Nat} {Yb:Nat→Nat} {YO:WA} {fl:List Xj} {bad:Nat→Int} {told:List Rr} (W:ZH o h wb Yb YO fl bad told) :
  ∃b off c,YO.nodes=.slice (some ⟨b,off,none⟩) 5 c∧5≤c∧b<h.size∧∀i,i<5→hc h ⟨b,off+i,none⟩=some (Zp (Yb i)):=by
 rcases W.nodes with⟨_,e,_⟩|⟨b,off,cap,pre,spare,g1,g2,g3,g4,g5,g6,g7⟩
 ·cases e
 refine⟨b,off,cap,g2,g7,Za g3,fun i hi=>?_⟩;rw[Zh g3,Yh,←g4,List.getElem?_append_right (by omega),Nat.add_sub_cancel_left]
 match i,hi with
 | 0,_=>rfl
 | 1,_=>rfl
 | 2,_=>rfl
 | 3,_=>rfl
 | 4,_=>rfl
theorem jR {T:World} {K:Value→Hp→Prop} {ty:TypeId} {o:Ow} {t:Tg} {h:Hp} {v:Value} {l:List Xj} {x:Xj} {w:Value} {bx:Nat} {cb:Array Bool} (s:Q0 o t h v l) (d:UE o h) (iv:Wz o h w x.vs) (hb:h[bx]? = some (.cells (Y7 x w).toArray 111)) (hr:l.length≤1000000000000)
  (H:∀p c o' h',Q0 o' t h' (.slice p (l.length+1) c) (l++[x])→Kp (fun u=>u=t) o h o' h'→K (.slice p (l.length+1) c) h') :
  T9 Tryz.prog T .append #[71,71] ty cb [v,.slice (some ⟨bx,0,none⟩) 1 1] K h:=by
 have src:Sl 14 h (.slice (some ⟨bx,0,none⟩) 1 1) 1 (Y7 x w):=⟨_,1,rfl,rfl,fun _=>⟨bx,0,rfl,fun i hi=>by
  rw[Zh hb,Yh,Nat.zero_add];exact List.getElem?_eq_getElem hi⟩⟩
 obtain⟨p,c,hw⟩:=iv.isSlice;have Xc:Z7 w=true:=by rw[hw];rfl
 obtain⟨xs,QL,Pe,ax⟩:=s;have FQ:xs.length=l.length:=by rw[←QL,List.length_map]
 refine Jf (E:=111) (n:=14) (bytes:=128) (k:=1) dB Tryz.underlying71 nO dE rfl zq Pe d src (by rw[Y7,List.all_eq_true];intro x hx;simp at hx;rcases hx with rfl|rfl|rfl|rfl|rfl|rfl|rfl|rfl|rfl|rfl|rfl|rfl|rfl|rfl<;>first|rfl|exact Xc) (by omega) (by omega) ?_;intro v' o' h' w' k _;obtain⟨p',c',rfl,_⟩:=w'.isSlice;rw[FQ];refine H p' c' o' h' ⟨xs++[(x,w)],by rw[List.map_append,QL];rfl,?_,fun y hy=>?_⟩ k
 ·rw[Yj,Ur,List.length_append,←FQ];exact w'
 ·rcases List.mem_append.1 hy with hy|hy
  ·exact (ax y hy).Zd k
  ·have:y=(x,w):=by simpa using hy
   subst this;exact iv.Zd k
theorem Tn {o:Ow} {t:Tg} {h:Hp} {v:Value} {l:List Xj} (s:Q0 o t h v l):∃p c,v=.slice p l.length c∧l.length≤c:=by
 obtain⟨xs,h1,h2,_⟩:=s;obtain⟨p,c,h3,h4⟩:=h2.isSlice;rw[←h1,List.length_map];exact⟨p,c,h3,h4⟩
set_option maxHeartbeats 4000000 in
theorem Ei (T:World) (h:Hp) (o:Ow) (wb:Nat) (Yb:Nat→Nat) (YO:WA) (w:Wd) (l:Xj) (v:Value) (d:UE o h) (A:Ju o h wb Yb YO w) (iv:Wz o h v l.vs) (hto:0≤l.to∧l.to<5)
  (RW:∀i,i<5→(w.nodes i).inbox.length≤1000000000000) :
  Zc Tryz.prog T 34 #[Zp wb,.agg (Y7 l v).toArray] h fun v' h'=>∃o',Kp Zhr o h o' h'∧Ju o' h' wb Yb YO (WC w l):=by
 obtain⟨pw,cw,rfl⟩:=iv.isSlice;obtain⟨j,hj⟩:∃j:Nat,(j:Int)=l.to:=⟨l.to.toNat,by omega⟩
 have hj5:j<5:=by omega
 have hjn:l.to.toNat=j:=by omega
 refine Zc.Zk (args:=[_,_]) Tryz.func34 rfl rfl rfl rfl ?_;unfold Zp Y7;obtain⟨h1,YK⟩:=Zx (h.push (.cells (Y7 l (.slice pw l.vs.length cw)).toArray 111):Hp);have k1:Kp QM o h o h1:=by rw[YK];exact ZY d _
 have x3:ZR o h1 h.size (.cells (Y7 l (.slice pw l.vs.length cw)).toArray 111):=⟨d _ (Nat.le_refl _),by rw[YK];exact Zb⟩
 have e0:=YK.symm;unfold Y7 at e0;have A1:=A.still k1;have R1:=Y8 A1.wd.ZG.2;obtain⟨b,off,c,hn,hc5,hb,O3⟩:=Ww A1.wd;have Rn:=R1.nodes;rw[hn]at Rn;have Ed:=Za A1.wd.ZG.2;have r3:hc h1 ⟨h.size,2,none⟩=some (.int .i64 j):=by rw[hj];exact Zh x3.2
 have l3:=Za x3.2;have rj:=O3 j hj5;unfold Zp at rj;have ZqJ:(j:Int)<5:=by omega
 simp -implicitDefEqProofs only[go_sem,↓reduceIte,e0];refine VS.mono (N:=fun F' g'=>Zf h1.size h1 g'∧F' 3=.pointer (some ⟨h.size,0,none⟩)∧F' 4=.pointer (some ⟨Yb j,0,none⟩)) ?_ ?_ (fun _ _ _ h=>h) (fun _ _ h=>h)
 ·refine VS.z (h1.size) [] (.p 0 (.p 1 (.p 2 (.q 3 (.p 4 (.q 5 (.p 6 (.q 7 (.p 8 .nil))))))))) mixed (by kernel_rfl) ?_;simp -implicitDefEqProofs only[go_sem,↓reduceIte,Rn,r3,Ed,l3,hb,ZqJ,rj]
  try exact Zf.refl _ _
 rintro F1 g1 ⟨b1,f3,f4⟩;have kb:=ZE k1.ZX b1;have A2:=A1.still kb;have K2:=k1.trans kb;have y3:=x3.Zd kb;obtain⟨a,N2⟩:=A2.nd j hj5;have P2:=ZA N2.ZG.2 N2.pt.store.len;have fm:=P2.up;have WD:=Za N2.ZG.2;unfold WC;rw[hjn]
 cases hu:(w.nodes j).up with
 | false=>
  rw[hu]at fm;rw[if_neg (by simp)];simp -implicitDefEqProofs only[go_sem,↓reduceIte,f4,fm];exact⟨o,ZF K2,A2⟩
 | true=>
  rw[hu]at fm;rw[if_pos rfl];obtain⟨pi,ci,hi,_⟩:=Tn N2.pt.inbox;have P2i:=P2.inbox;rw[hi]at P2i;have r3:rd g1 ⟨h.size,0,none⟩ 14=some (Y7 l (.slice pw l.vs.length cw)):=Zq y3.2 rfl;unfold Y7 at r3;have l3:=Za y3.2;simp -implicitDefEqProofs only[go_sem,↓reduceIte,f4,fm];refine VS.z (g1.size) [7,10] (.p 0 (.p 1 (.p 2 (.p 3 (.q 4 (.q 5 (.s 6 (.w 7 (.p 8 (.p 9 (.w 10 .nil))))))))))) mixed (by kernel_rfl) ?_;simp -implicitDefEqProofs only[go_sem,↓reduceIte,f3,f4,P2i,r3,WD,l3];obtain⟨g2,QW⟩:=Zx (g1.push (.cells (Y7 l (.slice pw l.vs.length cw)).toArray 111):Hp);have k2:Kp QM o g1 o g2:=by rw[QW];exact ZY K2.ZX _
  have e2:=QW.symm;unfold Y7 at e2;rw[e2];have N3:=N2.still k2;have A3:=A2.still k2;have K3:=K2.trans k2;have LI:=N3.pt.inbox;rw[hi]at LI;refine jR LI K3.ZX ((iv.Zd K2).Zd k2) (by rw[QW];exact Zb) (RW j hj5) ?_;intro p3 c3 o3 g3 L3 k3;have k3:Kp (fun t=>t=.inbox j) o g2 o3 g3:=k3;have N4:=ZV.jy N3.pt k3 L3;have B4:=N3.ZG.Zd k3 (by intro e;cases e);have W4:=A3.wd.Zd k3 (by rintro t rfl;simp[Tg.of]);obtain⟨g5,w5,N5,k5⟩:=ZV.write N4 k3.ZX B4 ((Y0 B4.2 N3.pt.store.len).inbox (.slice p3 ((w.nodes j).inbox.length+1) c3) rfl);have Li:=Za B4.2;simp -implicitDefEqProofs only[go_sem,↓reduceIte,w5,Li];have W5:=W4.Zd k5 (by rintro t rfl;simp[Tg.of]);have kk:Kp (fun t=>t.of=some j) o g2 o3 g5:=(k3.mono fun t q=>by rw[q];rfl).trans (k5.mono fun t q=>by rw[q];rfl);exact⟨o3,(ZF K3).trans (kk.mono fun t q=>⟨j,q⟩),A3.Xr (kk.mono fun t q=>.inr (.inr (.inr q))) N5 W5⟩
theorem fo {o:Ow} {t:Tg} {h:Hp} {v:Value} {l:List Xj} (s:Q0 o t h v l) (k:Nat) (hk:k<l.length) :
  ∃w b off c,v=.slice (some ⟨b,off,none⟩) l.length c∧l.length≤c∧b<h.size∧rd h ⟨b,off+k*14,none⟩ 14=some (Y7 l[k] w)∧Wz o h w l[k].vs:=by
 obtain⟨xs,rfl,h2,h3⟩:=s;rw[List.length_map]at hk;rcases h2 with⟨_,e,_⟩|⟨b,off,cap,pre,spare,g1,rfl,g3,g4,g5,g6,g7⟩
 ·omega
 refine⟨xs[k].2,b,off,cap,by rw[List.length_map],by rw[List.length_map];exact g7,Za g3,?_,?_⟩
 ·have hlen:∀x,(MQ x).length=14:=fun x=>rfl;have hle:k*14+14≤xs.length*14:=by omega
  rw[Z9 g3 (by simp only[List.length_append];omega),←g4,List.drop_append,List.drop_of_length_le (by omega),List.nil_append,Nat.add_sub_cancel_left];rw[List.drop_append_of_le_length (by omega),List.take_append_of_le_length (by rw[List.length_drop];omega)];rw[Tm hlen xs k (by omega),List.drop_eq_getElem_cons hk];have e1:Zz MQ (xs[k] :: xs.drop (k+1))=Y7 xs[k].1 xs[k].2++Zz MQ (xs.drop (k+1)):=by simp[Zz,MQ]
  rw[e1,List.getElem_map];rfl
 ·rw[List.getElem_map];exact h3 _ (List.getElem_mem hk)
theorem jS {o':Ow} {t:Tg} {h':Hp} {xs:List (Xj × Value)} {v:Value} {k:Nat} (hk:k<xs.length) (h2:YG o' t 111 14 h' v (xs.length-1) ((Zz MQ xs).take (k*14)++(Zz MQ xs).drop ((k+1)*14))) (h3:∀x∈xs,Wz o' h' x.2 x.1.vs) :
  Q0 o' t h' v ((xs.map (·.1)).eraseIdx k):=by
 have hlen:∀x,(MQ x).length=14:=fun x=>rfl;have el:(xs.eraseIdx k).length=xs.length-1:=by rw[List.length_eraseIdx_of_lt hk]
 refine⟨xs.eraseIdx k,?_,?_,fun x hx=>h3 x (List.mem_of_mem_eraseIdx hx)⟩
 ·rw[List.eraseIdx_eq_take_drop_succ,List.eraseIdx_eq_take_drop_succ,List.map_append,List.map_take,List.map_drop]
 ·rw[el];have e1:Zz MQ (xs.eraseIdx k)=(Zz MQ xs).take (k*14)++(Zz MQ xs).drop ((k+1)*14):=by
   rw[Rc hlen xs k (by omega),Tm hlen xs (k+1) (by omega),←Yj,List.eraseIdx_eq_take_drop_succ]
  rw[e1];exact h2
theorem ZH.GJ {o o1:Ow} {h h1:Hp} {wb:Nat} {nb:Nat→Nat} {a:WA} {fl fl':List Xj} {bad:Nat→Int} {told:List Rr} {v:Value} (W:ZH o h wb nb a fl bad told) (k:Kp (fun t=>t=.Zn) o h o1 h1)
  (hv:Q0 o1 .Zn h1 v fl') {e:Option Hp} (w:e=some (h1.setIfInBounds wb (.cells (Xm bad { a with Zn:=v }).toArray 73))) :
  ∃g,e=some g∧ZH o1 g wb nb { a with Zn:=v } fl' bad told∧Kp (fun t=>t=.world) o1 h1 o1 g:=by
 have b:=W.ZG.Zd k (by intro e;cases e);have kk:Kp (fun t=>t=.world) o1 h1 o1 (h1.setIfInBounds wb (.cells (Xm bad { a with Zn:=v }).toArray 73)):=(Kp.refl k.ZX (fun t=>t=.world)).set b.1 rfl _;exact⟨_,w,⟨⟨b.1,Zy b.2⟩,(W.nodes.Zd k (by intro e;cases e)).Zd kk (by intro e;cases e),hv.Zd kk (by intro e;cases e),(W.told.Zd k (by intro e;cases e)).Zd kk (by intro e;cases e)⟩,kk⟩
theorem Ju.xQ {S:Tg→Prop} {o o':Ow} {h h':Hp} {wb:Nat} {Yb:Nat→Nat} {YO tV:WA} {w:Wd} {fl:List Xj} {bad:Nat→Int} {told:List Rr} (A:Ju o h wb Yb YO w) (k:Kp S o h o' h') (hn:∀t,S t→t.of=none) (W:ZH o' h' wb Yb tV fl bad told) :
  Ju o' h' wb Yb tV { w with Zn:=fl,bad:=bad,told:=told }:=
 ⟨W,fun i hi=>by obtain⟨a,N⟩:=A.nd i hi;exact⟨a,N.Zd k fun t q e=>by rw[hn t q]at e;cases e⟩⟩
theorem xR {o:Ow} {h:Hp}:∀(xs:List (Xj × Value)),(∀x∈xs,Wz o h x.2 x.1.vs)→(Zz MQ xs).all Z7=true:=by
 intro xs
 induction xs with
 | nil=>intro _;rfl
 | cons x xs ih=>
  intro hx;have e1:Zz MQ (x :: xs)=MQ x++Zz MQ xs:=by simp[Zz]
  obtain⟨p,c,hw⟩:=(hx x (by simp)).isSlice;rw[e1,List.all_append,ih (fun y hy=>hx y (by simp[hy])),Bool.and_true];unfold MQ;rw[hw];rfl
set_option maxHeartbeats 4000000 in
theorem rG (T:World) (h:Hp) (o:Ow) (wb:Nat) (Yb:Nat→Nat) (YO:WA) (w:Wd) (at':Nat) (comes stays:Bool) (d:UE o h) (A:Ju o h wb Yb YO w) (hto:∀l∈w.Zn,0≤l.to∧l.to<5)
  (vZ:w.Zn.length≤1000000000000) (RW:∀i,i<5→(w.nodes i).inbox.length≤1000000000000) :
  Zc Tryz.prog T 33 #[Zp wb,.int .i64 at',.bool comes,.bool stays] h fun v' h'=>∃o' XA,Kp VG o h o' h'∧Ju o' h' wb Yb XA (pick w at' comes stays):=by
 refine Zc.Zk (args:=[_,_,_,_]) Tryz.func33 rfl rfl rfl rfl ?_;unfold Zp;have R:=Y8 A.wd.ZG.2;have Rf:=R.Zn;have Ed:=Za A.wd.ZG.2;obtain⟨pf,cf,hf,hfc⟩:=Tn A.wd.Zn;rw[hf]at Rf;by_cases hz:w.Zn.length=0
 ·have hp:pick w at' comes stays=w:=by
   unfold pick;rw[List.getElem?_eq_none (by rw[hz];exact Nat.zero_le _)]
  rw[hp];have EG:(w.Zn.length:Int)=0:=by omega
  simp -implicitDefEqProofs only[go_sem,↓reduceIte,Rf,EG];exact⟨o,YO,Kp.refl d _,A⟩
 have EG:¬(w.Zn.length:Int)=0:=by omega
 obtain⟨k,hk⟩:=Zx (at'%w.Zn.length);have hkl:k<w.Zn.length:=by rw[hk];exact Nat.mod_lt _ (by omega)
 have ek:(at':Int).tmod (w.Zn.length:Int)=(k:Int):=by rw[hk];rfl
 have Zcy:(k:Int)<w.Zn.length:=by omega
 obtain⟨v,b,off,c,hv,hvc,hb,O3,iv⟩:=fo A.wd.Zn k hkl;rw[hf]at hv;simp only[Value.slice.injEq]at hv;obtain⟨rfl,_,rfl⟩:=hv;obtain⟨l,hl⟩:=Zx (w.Zn[k]);rw[←hl]at O3 iv;have eG:l∈w.Zn:=by rw[hl];exact List.getElem_mem hkl
 obtain⟨pw,cw,rfl⟩:=iv.isSlice;obtain⟨h1,YK⟩:=Zx (h.push (.cells (Y7 l (.slice pw l.vs.length cw)).toArray 111):Hp);have k1:Kp QM o h o h1:=by rw[YK];exact ZY d _
 have x9:ZR o h1 h.size (.cells (Y7 l (.slice pw l.vs.length cw)).toArray 111):=⟨d _ (Nat.le_refl _),by rw[YK];exact Zb⟩
 have e0:=YK.symm;unfold Y7 at e0 O3;have A1:=A.still k1;have R1:=Y8 A1.wd.ZG.2;have R1f:=R1.Zn;rw[hf]at R1f;have Zcz:=Za A1.wd.ZG.2;have r9:rd h1 ⟨h.size,0,none⟩ 14=some (Y7 l (.slice pw l.vs.length cw)):=Zq x9.2 rfl;unfold Y7 at r9;have eg:w.Zn[at'%w.Zn.length]? = some l:=by rw[←hk,hl];exact List.getElem?_eq_getElem hkl
 have ep:pick w at' comes stays=if comes=true then WC (if stays=true then w else { w with Zn:=w.Zn.eraseIdx k }) l else (if stays=true then w else { w with Zn:=w.Zn.eraseIdx k }):=by
  unfold pick;rw[eg,hk]
 rw[ep]
 cases stays with
 | true=>
  rw[if_pos rfl]
  cases comes with
  | false=>
   rw[if_neg (by simp)];simp -implicitDefEqProofs only[go_sem,↓reduceIte,Rf,EG,ek,Zcy,O3,e0];exact⟨o,YO,Ye k1,A1⟩
  | true=>
   rw[if_pos rfl];have cc:=Ei T h1 o wb Yb YO w l (.slice pw l.vs.length cw) k1.ZX A1 (iv.Zd k1) (hto l eG) RW;unfold Zp Y7 at cc;simp -implicitDefEqProofs only[go_sem,↓reduceIte,Rf,EG,ek,Zcy,O3,e0,r9];refine cc.use ?_;rintro v' g ⟨o',kk,A'⟩;simp -implicitDefEqProofs only[go_sem,↓reduceIte];exact⟨o',YO,(Ye k1).trans (Ye kk),A'⟩
 | false=>
  rw[if_neg (show ¬(false=true) by simp)];obtain⟨xs,QL,Pe,ax⟩:=A1.wd.Zn;have FQ:xs.length=w.Zn.length:=by rw[←QL,List.length_map]
  have cd:=Cv T h1 o .Zn YO.Zn xs.length k (Zz MQ xs) Pe k1.ZX (xR xs ax) (by omega) (by omega);rw[hf]at cd;have ek2:(k:Int)+1=((k:Int)+1):=rfl;simp -implicitDefEqProofs only[go_sem,↓reduceIte,Rf,EG,ek,Zcy,O3,e0,R1f];refine cd.use ?_;rintro v2 g2 ⟨L2,k2⟩;have k2:Kp (fun t=>t=.Zn) o h1 o g2:=k2;have L3:Q0 o .Zn g2 v2 (w.Zn.eraseIdx k):=by
   rw[←QL];exact jS (by omega) L2 (fun x hx=>(ax x hx).Zd k2)
  have B2:=A1.wd.ZG.Zd k2 (by intro e;cases e);obtain⟨p2,c2,rfl,_⟩:=Tn L3;obtain⟨g3,w3,W3,k3⟩:=A1.wd.GJ k2 L3 ((Y8 B2.2).Ec (.slice p2 (w.Zn.eraseIdx k).length c2) rfl);have A3:Ju o g3 wb Yb { YO with Zn:=.slice p2 (w.Zn.eraseIdx k).length c2 } { w with Zn:=w.Zn.eraseIdx k }:=
   A1.xQ (S:=fun t=>t=.Zn∨t=.world) ((k2.mono fun t q=>.inl q).trans (k3.mono fun t q=>.inr q)) (by rintro t (rfl|rfl)<;>rfl) W3
  have ZcA:=Za B2.2;have y9:=(x9.Zd k2).Zd k3;have r9:rd g3 ⟨h.size,0,none⟩ 14=some (Y7 l (.slice pw l.vs.length cw)):=Zq y9.2 rfl;unfold Y7 at r9;have K3:Kp VG o h o g3:=((Ye k1).trans (Ye k2)).trans (Ye k3)
  cases comes with
  | false=>
   rw[if_neg (show ¬(false=true) by simp)];simp -implicitDefEqProofs only[go_sem,↓reduceIte,w3,ZcA];exact⟨o,_,K3,A3⟩
  | true=>
   rw[if_pos rfl];have cc:=Ei T g3 o wb Yb _ _ l (.slice pw l.vs.length cw) k3.ZX A3 (((iv.Zd k1).Zd k2).Zd k3) (hto l eG) RW;unfold Zp Y7 at cc;simp -implicitDefEqProofs only[go_sem,↓reduceIte,w3,ZcA,r9];refine cc.use ?_;rintro v' g ⟨o',kk,A'⟩;simp -implicitDefEqProofs only[go_sem,↓reduceIte];exact⟨o',_,K3.trans (Ye kk),A'⟩
theorem xS (rc:List Nat) (now:Int):Cs rc now=(Jt rc now).C:=by
 unfold Cs Jt;split<;>rfl
theorem ZcB {h:Hp} {wb:Nat} {bad:Nat→Int} {a:WA} (H:h[wb]? = some (.cells (Xm bad a).toArray 73)) (i:Nat) (hi:i<5) :
  hc h ⟨wb,9+i,none⟩=some (.int .i64 (bad i))∧∀k,JJ h ⟨wb,9+i,none⟩ (.int .i64 k)=some (h.setIfInBounds wb (.cells (Xm (fun j=>if j=i then k else bad j) a).toArray 73)):=by
 match i,hi with
 | 0,_=>exact⟨Zh H,fun k=>by rw[YC H,if_pos ⟨by simp[Xm],rfl⟩];rfl⟩
 | 1,_=>exact⟨Zh H,fun k=>by rw[YC H,if_pos ⟨by simp[Xm],rfl⟩];rfl⟩
 | 2,_=>exact⟨Zh H,fun k=>by rw[YC H,if_pos ⟨by simp[Xm],rfl⟩];rfl⟩
 | 3,_=>exact⟨Zh H,fun k=>by rw[YC H,if_pos ⟨by simp[Xm],rfl⟩];rfl⟩
 | 4,_=>exact⟨Zh H,fun k=>by rw[YC H,if_pos ⟨by simp[Xm],rfl⟩];rfl⟩
theorem rH {i:Nat} (t:Tg) (q:Zcj i t):XL i t:=by
 rcases q with rfl|rfl<;>exact .inr (.inr (.inr rfl))
theorem add_same (n:Nd) (x:Cm):(add n x).waiting=n.waiting∧(add n x).me=n.me:=by
 unfold add;split<;>exact⟨rfl,rfl⟩
set_option maxHeartbeats 4000000 in
theorem jT (T:World) (h:Hp) (o:Ow) (wb:Nat) (Yb:Nat→Nat) (YO:WA) (w:Wd) (i:Nat) (rc:List Nat) (v:Value) (d:UE o h) (A:Ju o h wb Yb YO w) (hi:i<5) (Io:(w.nodes i).me=i) (iv:VC o h v rc) (QO:VR v) (tI:rc.length≤140737488355328) (tb:BA o h)
  (hq:(w.nodes i).queue.length≤1000000000000) (hl:(w.nodes i).log.length≤1000000000000) (LQ:(w.nodes i).waiting.length≤1000000000000) (ht:w.told.length≤1000000000000) (hb:0≤w.bad i∧w.bad i≤1000000000000) :
  Zc Tryz.prog T 30 #[Zp wb,Zp (Yb i),v] h fun v' h'=>∃o' XA,Kp VG o h o' h'∧Ju o' h' wb Yb XA (Py w i rc):=by
 obtain⟨pv,cv,rfl⟩:=iv.1.isSlice;refine Zc.Zk (args:=[_,_,_]) Tryz.func30 rfl rfl rfl rfl ?_;unfold Zp;obtain⟨a,N⟩:=A.nd i hi;obtain⟨n,hn⟩:=Zx (w.nodes i);unfold Py;rw[←hn]at N Io hq hl LQ ⊢;have P:=ZA N.ZG.2 N.pt.store.len;have WD:=Za N.ZG.2;have Pu:=P.up
 cases hu:n.up with
 | false=>
  rw[hu]at Pu;rw[if_neg (by simp)];simp -implicitDefEqProofs only[go_sem,↓reduceIte,Pu];exact⟨o,YO,Kp.refl d _,A⟩
 | true=>
 rw[hu]at Pu;rw[if_pos rfl];have Pl:=P.log;obtain⟨pl,cl,L0,_⟩:=YG.isSlice N.pt.log;have L0:a.log=.slice pl n.log.length cl:=L0;rw[L0]at Pl;obtain⟨E,hE⟩:=Zx (Yy rc n.log.length);obtain⟨x,hx⟩:=Zx (Jt rc n.log.length);have co:=qv T h (.slice pv rc.length cv) rc n.log.length iv.bs QO tI tb.tk tb.tn;rw[xS,←hE,←hx]at co;rw[←hE,←hx];simp -implicitDefEqProofs only[go_sem,↓reduceIte,Pu,Pl];refine co.use ?_;rintro _ g ⟨rfl,b⟩;have kb:=ZE d b;obtain⟨g1,Ni⟩:=Zx (g.push (.cells x.C.toArray 47):Hp);have e1:=Ni.symm;have k1:Kp QM o h o g1:=by rw[Ni];exact kb.push _
 have x6:ZR o g1 g.size (.cells x.C.toArray 47):=⟨kb.ZX _ (Nat.le_refl _),by rw[Ni];exact Zb⟩
 have A1:=A.still k1;have N1:=N.still k1;have P1:=ZA N1.ZG.2 N1.pt.store.len;have ZcC:=P1.me;rw[Io]at ZcC;have JZ:=Za N1.ZG.2;have Zcz:=Za A1.wd.ZG.2;obtain⟨br,bw⟩:=ZcB A1.wd.ZG.2 i hi;have r6:rd g1 ⟨g.size,0,none⟩ 5=some x.C:=Zq x6.2 rfl;have l6:=Za x6.2;have dS:(i:Int)<5:=by omega
 by_cases hz:E=0
 case neg=>
  rw[if_pos (by simpa using hz)];simp -implicitDefEqProofs only[go_sem,↓reduceIte,e1,hz];refine VS.z (g1.size) [15] (.p 0 (.p 1 (.p 2 (.p 3 (.q 4 (.p 5 (.p 6 (.p 7 (.p 8 (.q 9 (.p 10 (.p 11 (.p 12 (.p 13 (.p 14 (.w 15 .nil)))))))))))))))) mixed (by kernel_rfl) ?_;simp -implicitDefEqProofs only[go_sem,↓reduceIte,ZcC,JZ,Zcz,dS,br,bw];have kk:Kp (fun t=>t=.world) o g1 o (g1.setIfInBounds wb (.cells (Xm (fun j=>if j=i then w.bad i+1 else w.bad j) YO).toArray 73)):=(Kp.refl k1.ZX (fun t=>t=.world)).set A1.wd.ZG.1 rfl _;exact⟨o,YO,(Ye k1).trans (Ye kk),A1.xQ kk (by rintro t rfl;rfl) ⟨⟨A1.wd.ZG.1,Zy A1.wd.ZG.2⟩,A1.wd.nodes.Zd kk (by intro e;cases e),A1.wd.Zn.Zd kk (by intro e;cases e),A1.wd.told.Zd kk (by intro e;cases e)⟩⟩
 rw[if_neg (by simpa using hz)];have P1l:hc g1 ⟨Yb i,11,none⟩=some a.log:=P1.log;simp -implicitDefEqProofs only[go_sem,↓reduceIte,e1,hz];obtain⟨J,hJ⟩:=Zx (Tj n.log x);refine VS.mono (N:=fun F' g'=>Zf g1.size g1 g'∧F' 0=.pointer (some ⟨wb,0,none⟩)∧F' 1=.pointer (some ⟨Yb i,0,none⟩)∧F' 6=.pointer (some ⟨g.size,0,none⟩)∧F' 8=.int .i64 J) ?_ ?_ (fun _ _ _ h=>h) (fun _ _ h=>h)
 ·refine VS.z (g1.size) [5] (.p 0 (.p 1 (.p 2 (.q 3 (.q 4 (.w 5 (.p 6 .nil))))))) mixed (by kernel_rfl) ?_;simp -implicitDefEqProofs only[go_sem,↓reduceIte,P1l,r6,JZ,l6];refine (Ip T g1 _ n.log x N1.pt.log.ts (by omega)).use ?_;rintro _ g2 ⟨rfl,b2⟩;simp -implicitDefEqProofs only[go_sem,↓reduceIte,b2,hJ]
 rintro F2 g2 ⟨b2,f0,f1,f6,f8⟩;have Rs:=ZE k1.ZX b2;have A2:=A1.still Rs;have N2:=N1.still Rs;have y6:=x6.Zd Rs;have K2:Kp QM o h o g2:=k1.trans Rs;have P2:=ZA N2.ZG.2 N2.pt.store.len;have jQ:=P2.me;rw[Io]at jQ;have J9:=Za N2.ZG.2;have ZcA:=Za A2.wd.ZG.2;have r62:rd g2 ⟨g.size,0,none⟩ 5=some x.C:=Zq y6.2 rfl;have l62:=Za y6.2;clear r6 l6 JZ Zcz br bw P1 ZcC P1l e1;by_cases hm:x∈n.log
 ·have hJ0:0≤J:=by rw[hJ];exact (OX _ _).2 hm
  rw[if_pos hm];have call:=fun G=>eY T G n.store N2.pt.store x;have P2s:rd g2 ⟨Yb i,12,none⟩ 40=some n.store:=P2.store;obtain⟨D,hDe⟩:=Zx (Ea n.store x);obtain⟨E2,jE⟩:=Zx (QI n.store x);obtain⟨c1,Us⟩:=Zx (Pv n.store x);obtain⟨c2,HU⟩:=Zx (Ih n.store x);have hD:=N2.pt.store.do x
  rw[←hDe]at hD;rw[←hDe,←jE,←Us,←HU]at call;rw[←Us,←HU];have MU:=hD.len;have BC:=hD.one;unfold Vi at call;have I3:=ZJ (zs:=Yn) (vs:=D) (by rw[MU];rfl);unfold Yn at I3;simp only[rep,List.cons_append,List.nil_append]at I3;have wA:∀(G:Hp) (k:Nat),G[k]? = some (.cells Yn.toArray 43)→wr G ⟨k,0,none⟩ D=some (G.setIfInBounds k (.cells D.toArray 43)):=fun G k hx=>by
   rw[ZU hx 0 D,ZJ (by rw[MU];rfl),if_pos ⟨by rw[MU];simp[Yn,rep],BC⟩]
  have wB:∀(G:Hp) (k:Nat),G[k]? = some (.cells [.int .i64 0,.int .i64 0].toArray 39)→wr G ⟨k,0,none⟩ [.int .i64 c1,.int .i64 c2]=some (G.setIfInBounds k (.cells [.int .i64 c1,.int .i64 c2].toArray 39)):=fun G k hx=>by
   rw[ZU hx 0 _];rfl
  have gl:∀(G:Hp) (X Y:Obj),((G.push X).push Y)[G.size]? = some X:=fun G X Y=>by rw[Zt (by simp),Zb]
  have gs:∀(G:Hp) (k:Nat) (X Y:Obj),((G.setIfInBounds k X).push Y)[G.size]? = some Y:=fun G k X Y=>by
   have:=Zb (h:=G.setIfInBounds k X) (o:=Y);rwa [Array.size_setIfInBounds]at this
  have gl':=gs;have gr:∀(G:Hp) (X Y:Obj),((G.push X).push Y)[G.size+1]? = some Y:=fun G X Y=>by
   have:=Zb (h:=G.push X) (o:=Y);rwa [Array.size_push]at this
  simp -implicitDefEqProofs only[go_sem,↓reduceIte,f8,hJ0];refine VS.mono (N:=fun F' g'=>Zf g2.size g2 g'∧F' 0=.pointer (some ⟨wb,0,none⟩)∧F' 1=.pointer (some ⟨Yb i,0,none⟩)∧F' 6=.pointer (some ⟨g.size,0,none⟩)∧∃B,F' 10=.pointer (some ⟨B,0,none⟩)∧g2.size≤B∧g'[B]? = some (.cells [.int .i64 c1,.int .i64 c2].toArray 39)) ?_ ?_ (fun _ _ _ h=>h) (fun _ _ h=>h)
  ·refine VS.z (g2.size) [5,12,13] (.p 0 (.p 1 (.p 2 (.q 3 (.q 4 (.or 5 (.p 6 (.p 7 (.p 8 (.p 9 (.or 10 (.s 11 (.w 12 (.w 13 (.p 14 .nil)))) (.s 11 (.s 10 (.w 12 (.w 13 (.p 14 .nil)))))))))) (.or 10 (.or 5 (.p 6 (.p 7 (.p 8 (.p 9 (.s 11 (.w 12 (.w 13 (.p 14 .nil)))))))) (.s 11 (.w 5 (.p 6 (.p 7 (.p 8 (.p 9 (.w 12 (.w 13 (.p 14 .nil)))))))))) (.s 11 (.or 5 (.p 6 (.p 7 (.p 8 (.p 9 (.s 10 (.w 12 (.w 13 (.p 14 .nil)))))))) (.s 10 (.w 5 (.p 6 (.p 7 (.p 8 (.p 9 (.w 12 (.w 13 (.p 14 .nil)))))))))))))))))) mixed (by kernel_rfl) ?_;simp -implicitDefEqProofs only[go_sem,↓reduceIte,f0,f1,f6,P2s,J9,l62,r62]
   repeat' (first|with_reducible exact Zf.refl _ _|with_reducible exact Zf.push (by omega) _|with_reducible refine And.intro ?_ ?_)
   all_goals first
    | (refine (call g2).use ?_
       rintro _ g5 ⟨rfl,b5⟩;have s5:=b5.size;simp -implicitDefEqProofs only[go_sem,↓reduceIte,b5,MU,BC,I3];refine⟨⟨f0,f1,f6,_,rfl,by omega,gr _ _ _⟩,⟨f0,f1,f6,_,rfl,s5,gl _ _ _⟩⟩)
    | (refine (call (g2.push (.cells _ 43))).use ?_
       rintro _ g5 ⟨rfl,b5⟩;have s5:=b5.size;rw[Array.size_push]at s5;have B5:Zf g2.size g2 g5:=(Zf.push (Nat.le_refl _) _).trans (b5.mono (by simp));have xA:=b5.get (k:=g2.size) (by simp) Zb;have TZ:=wA _ _ xA;have zA:=Za xA;simp -implicitDefEqProofs only[go_sem,↓reduceIte,B5,MU,BC,TZ,zA];exact⟨f0,f1,f6,_,rfl,by omega,gs _ _ _ _⟩)
    | (refine (call (g2.push (.cells _ 39))).use ?_
       rintro _ g5 ⟨rfl,b5⟩;have s5:=b5.size;rw[Array.size_push]at s5;have B5:Zf g2.size g2 g5:=(Zf.push (Nat.le_refl _) _).trans (b5.mono (by simp));have xB:=b5.get (k:=g2.size) (by simp) Zb;have It:=wB _ _ xB;have zB:=Za xB;have gB:=Zy (o:=.cells [.int .i64 c1,.int .i64 c2].toArray 39) xB;simp -implicitDefEqProofs only[go_sem,↓reduceIte,B5,MU,BC,It,I3,zB];exact⟨f0,f1,f6,_,rfl,Nat.le_refl _,by rw[Zt (by simpa using zB)];exact gB⟩)
    | (refine (call ((g2.push (.cells _ 43)).push (.cells _ 39))).use ?_
       rintro _ g5 ⟨rfl,b5⟩;have s5:=b5.size;rw[Array.size_push,Array.size_push]at s5;have B5:Zf g2.size g2 g5:=((Zf.push (Nat.le_refl _) _).Yi (by simp) _).trans (b5.mono (by simp;omega));have xA:=b5.get (k:=g2.size) (by simp;omega) (gl _ _ _);have xB:=b5.get (k:=g2.size+1) (by simp) (gr _ _ _);have TZ:=wA _ _ xA;have zA:=Za xA;have NY:=(Yf (o:=.cells D.toArray 43) (show g2.size≠g2.size+1 by omega)).trans xB;have It:=wB _ _ NY;have zB:=Za NY;simp -implicitDefEqProofs only[go_sem,↓reduceIte,B5,MU,BC,TZ,zA,It,zB];exact⟨f0,f1,f6,_,rfl,by omega,Zy NY⟩)
    | (refine (call ((g2.push (.cells _ 39)).push (.cells _ 43))).use ?_
       rintro _ g5 ⟨rfl,b5⟩;have s5:=b5.size;rw[Array.size_push,Array.size_push]at s5;have B5:Zf g2.size g2 g5:=((Zf.push (Nat.le_refl _) _).Yi (by simp) _).trans (b5.mono (by simp;omega));have xB:=b5.get (k:=g2.size) (by simp;omega) (gl _ _ _);have xA:=b5.get (k:=g2.size+1) (by simp) (gr _ _ _);have TZ:=wA _ _ xA;have zA:=Za xA;have NY:=(Yf (o:=.cells D.toArray 43) (show g2.size+1≠g2.size by omega)).trans xB;have It:=wB _ _ NY;have zB:=Za NY;simp -implicitDefEqProofs only[go_sem,↓reduceIte,B5,MU,BC,TZ,zA,It,zB];exact⟨f0,f1,f6,_,rfl,by omega,Zy NY⟩)
  clear f0 f1 f6 f8;rintro F5 g5 ⟨b5,f0,f1,f6,B,f10,hB,yB⟩;have GC:=ZE K2.ZX b5;have A5:=A2.still GC;have N5:=N2.still GC;have z6:=y6.Zd GC;have K5:Kp QM o h o g5:=K2.trans GC;have xB:ZR o g5 B (.cells [.int .i64 c1,.int .i64 c2].toArray 39):=⟨K2.ZX _ hB,yB⟩
  have ZqL:=(ZA N5.ZG.2 N5.pt.store.len).me;have PB:=Za N5.ZG.2;have U5:=Y8 A5.wd.ZG.2;have bN:=Za A5.wd.ZG.2;have rx1:hc g5 ⟨g.size,1,none⟩=some (.int .i64 x.c):=Zh z6.2;have rx2:hc g5 ⟨g.size,2,none⟩=some (.int .i64 x.s):=Zh z6.2;have rB:rd g5 ⟨B,0,none⟩ 2=some [.int .i64 c1,.int .i64 c2]:=Zq yB rfl;have zx:=Za z6.2;have zB:=Za yB;refine VS.z (g5.size) [17,21] (.p 0 (.p 1 (.p 2 (.p 3 (.p 4 (.q 5 (.p 6 (.p 7 (.p 8 (.q 9 (.p 10 (.q 11 (.p 12 (.q 13 (.q 14 (.p 15 (.s 16 (.w 17 (.p 18 (.p 19 (.p 20 (.w 21 .nil)))))))))))))))))))))) mixed (by kernel_rfl) ?_;simp -implicitDefEqProofs only[go_sem,↓reduceIte,f0,f1,f6,f10,U5.told,ZqL,rx1,rx2,rB,PB,bN,zx,zB];have k6:=ZY K5.ZX (.cells (Il ⟨n.me,x.c,x.s,c1,c2⟩).toArray 132);have A6:=A5.still k6;refine MT (l:=w.told) (x:=⟨n.me,x.c,x.s,c1,c2⟩) A6.wd.told k6.ZX Zb ht ?_;intro p7 c7 o7 g7 q7 k7;have b7:=A6.wd.ZG.Zd k7 (by intro e;cases e);obtain⟨g8,w8,W8,k8⟩:=A6.wd.fa k7 q7 ((Y8 b7.2).Zaa (.slice p7 _ c7) rfl);have z7:=Za b7.2;simp -implicitDefEqProofs only[go_sem,↓reduceIte,w8,z7];have A8:=A6.xQ (S:=fun t=>t=.told∨t=.world) ((k7.mono fun t q=>.inl q).trans (k8.mono fun t q=>.inr q)) (by rintro t (rfl|rfl)<;>rfl) W8;exact⟨o7,_,(((Ye K5).trans (Ye k6)).trans (Ye k7)).trans (Ye k8),A8⟩
 ·have hJ0:¬0≤J:=by rw[hJ];exact fun e=>hm ((OX _ _).1 e)
  rw[if_neg hm];have ca:=qI T g2 o wb i (Yb i) a n x K2.ZX N2 hq hl;unfold Zp Vi at ca;simp -implicitDefEqProofs only[go_sem,↓reduceIte,f1,f6,f8,hJ0,r62];refine ca.use ?_;rintro v3 g3 ⟨o3,a3,k3,N3⟩;have k3a:Kp (XL i) o g2 o3 g3:=k3.mono rH;obtain⟨aw,am⟩:=add_same n x;obtain⟨m,vS⟩:=Zx (add n x);rw[←vS]at N3 aw am ⊢;have W3:=A2.wd.Zd k3 (by rintro t (rfl|rfl)<;>simp[Tg.of]);have z6:=y6.Zd k3;have P3:=ZA N3.ZG.2 N3.pt.store.len;have P3w:hc g3 ⟨Yb i,53,none⟩=some a3.waiting:=P3.waiting;have PA:=Za N3.ZG.2;have r63:rd g3 ⟨g.size,0,none⟩ 5=some x.C:=Zq z6.2 rfl;have l63:=Za z6.2;have hmw:m.waiting.length≤1000000000000:=by rw[aw];exact LQ
  have K3:Kp VG o h o3 g3:=(Ye K2).trans (Ye k3);simp -implicitDefEqProofs only[go_sem,↓reduceIte];refine VS.mono (N:=fun F' g'=>Zf g3.size g3 g'∧F' 1=.pointer (some ⟨Yb i,0,none⟩)∧F' 6=.pointer (some ⟨g.size,0,none⟩)∧F' 92=.bool (!decide (x∈m.waiting))) ?_ ?_ (fun _ _ _ h=>h) (fun _ _ h=>h)
  ·refine VS.z (g3.size) [5] (.p 0 (.p 1 (.p 2 (.q 3 (.q 4 (.w 5 (.p 6 .nil))))))) mixed (by kernel_rfl) ?_;simp -implicitDefEqProofs only[go_sem,↓reduceIte,f1,f6,P3w,r63,PA,l63];refine (VD T g3 _ m.waiting x N3.pt.waiting.ts (by omega)).use ?_;rintro _ g4 ⟨rfl,b4⟩;simp -implicitDefEqProofs only[go_sem,↓reduceIte,b4];exact⟨f1,f6⟩
  clear f0 f1 f6;rintro F4 g4 ⟨b4,f1,f6,f92⟩;have kb4:=ZE K3.ZX b4;have N4:=N3.still kb4;have W4:=W3.still kb4;have k4a:Kp (XL i) o g2 o3 g4:=k3a.trans (ZF kb4);have K4:Kp VG o h o3 g4:=K3.trans (Ye kb4);by_cases xV:x∈m.waiting
  ·have e5:NV m x=m:=by unfold NV;rw[if_pos xV]
   rw[e5];simp -implicitDefEqProofs only[go_sem,↓reduceIte,f92,xV];exact⟨o3,_,K4,A2.Xr k4a N4 W4⟩
  ·have e5:NV m x = { m with waiting:=m.waiting++[x] }:=by unfold NV;rw[if_neg xV]
   rw[e5];have q6:=z6.Zd kb4;have P4w:=(ZA N4.ZG.2 N4.pt.store.len).waiting;obtain⟨pw,cw,hpw,_⟩:=YG.isSlice N4.pt.waiting;have hpw:a3.waiting=.slice pw m.waiting.length cw:=hpw;have P4w:hc g4 ⟨Yb i,53,none⟩=some (.slice pw m.waiting.length cw):=by rw[←hpw];exact P4w
   have Li:=Za N4.ZG.2;have r64:rd g4 ⟨g.size,0,none⟩ 5=some x.C:=Zq q6.2 rfl;have l64:=Za q6.2;simp -implicitDefEqProofs only[go_sem,↓reduceIte,f92,xV];refine VS.z (g4.size) [7,10] (.p 0 (.p 1 (.p 2 (.p 3 (.q 4 (.q 5 (.s 6 (.w 7 (.p 8 (.p 9 (.w 10 .nil))))))))))) mixed (by kernel_rfl) ?_;simp -implicitDefEqProofs only[go_sem,↓reduceIte,f1,f6,P4w,r64,Li,l64];have k5:=ZY K4.ZX (.cells x.C.toArray 47);have N5:=N4.still k5;have W5:=W4.still k5;have Q5:=N5.pt.waiting;rw[hpw]at Q5;refine NX (l:=m.waiting) Q5 k5.ZX Zb hmw ?_;intro p6 c6 o6 g6 q7 k6;have b6:=N5.ZG.Zd k6 (by intro e;cases e);obtain⟨g7,w7,N7,k7⟩:=(N5.pt.MR k6 q7).write k6.ZX b6 ((Y0 b6.2 N5.pt.store.len).waiting (.slice p6 (m.waiting.length+1) c6) rfl);have rq:=Za b6.2;simp -implicitDefEqProofs only[go_sem,↓reduceIte,w7,rq];have kk:Kp (XL i) o g2 o6 g7:=((k4a.trans (ZF k5)).trans (k6.mono fun t q=>.inr (.inr (.inr (by rw[q];rfl))))).trans (k7.mono fun t q=>.inr (.inr (.inr (by rw[q];rfl))));exact⟨o6,_,(Ye K2).trans (Ye kk),A2.Xr kk N7 ((W5.Zd k6 (by rintro t rfl;simp[Tg.of])).Zd k7 (by rintro t rfl;simp[Tg.of]))⟩
def Ix (i:Nat) (t:Tg):Prop:=t=.node i∨t=.known i
set_option maxHeartbeats 4000000 in
theorem Iy (T:World) (h:Hp) (o:Ow) (wb i:Nat) (dv:Value) (bO:List Nat) (Xg:Int) (vv:Value) (WN:QK) (d:UE o h) (iD:VC o h dv bO) (iV:Wz o h vv WN.l) :
  Zc Tryz.prog T 29 #[.int .i64 i,.agg #[dv,.int .i64 Xg],.agg #[.int .i64 WN.p.r,.int .i64 WN.p.n,vv]] h fun v' h'=>∃nb o' a',v'=Zp nb∧Zf h.size h h'∧Kp (Ix i) o h o' h'∧ZM o' h' wb i nb a' (blank i true bO Xg WN):=by
 obtain⟨pd,cd,rfl⟩:=iD.1.isSlice;obtain⟨pv,cv,rfl⟩:=iV.isSlice;refine Zc.Zk (args:=[_,_,_]) Tryz.func29 rfl rfl rfl rfl ?_;unfold Zp;obtain⟨h1,YK⟩:=Zx ((h.push (.cells [.slice pd bO.length cd,.int .i64 Xg].toArray 76)).push (.cells [.int .i64 WN.p.r,.int .i64 WN.p.n,.slice pv WN.l.length cv].toArray 81):Hp);have k1:Kp QM o h o h1:=by rw[YK];exact ((Kp.refl d _).push _).push _
 have x4:ZR o h1 h.size (.cells [.slice pd bO.length cd,.int .i64 Xg].toArray 76):=⟨d _ (Nat.le_refl _),by rw[YK];exact jD _ _ _⟩
 have x5:ZR o h1 (h.size+1) (.cells [.int .i64 WN.p.r,.int .i64 WN.p.n,.slice pv WN.l.length cv].toArray 81):=⟨d _ (by omega),by rw[YK];exact lD _ _ _⟩
 have e0:=YK.symm;have r4:rd h1 ⟨h.size,0,none⟩ 2=some [.slice pd bO.length cd,.int .i64 Xg]:=Zq x4.2 rfl;have r5:rd h1 ⟨h.size+1,0,none⟩ 3=some [.int .i64 WN.p.r,.int .i64 WN.p.n,.slice pv WN.l.length cv]:=Zq x5.2 rfl;simp -implicitDefEqProofs only[go_sem,↓reduceIte,e0,r4,r5];obtain⟨A,hA⟩:∃A:NA,A=⟨.slice pd bO.length cd,.slice pv WN.l.length cv,none,h1.size,.slice none 0 0,.slice none 0 0,.slice none 0 0,.slice none 0 0,.nilFunc⟩:=⟨_,rfl⟩
 obtain⟨h2,Uz⟩:=Zx (h1.push (Xu []):Hp);obtain⟨h3,FZ⟩:=Zx (h2.push (Xp (blank i true bO Xg WN) A):Hp);have s2:h2.size=h1.size+1:=by rw[Uz];simp
 have ee:h3=(h1.push (.map #[] 0)).push (Xp (blank i true bO Xg WN) A):=by rw[FZ,Uz];rfl
 rw[hA]at ee;refine⟨h1.size+1,JO (JO o h1.size (.known i)) (h1.size+1) (.node i),A,rfl,?_⟩;have k2:Kp (Ix i) o h1 (JO o h1.size (.known i)) h2:=by rw[Uz];exact ((Kp.refl k1.ZX _).push _).Sj (Nat.le_refl _) (by simp) (.inr rfl)
 have k3:Kp (Ix i) o h1 (JO (JO o h1.size (.known i)) (h1.size+1) (.node i)) h3:=by rw[FZ];exact (k2.push _).Sj (by omega) (by rw[Array.size_push];omega) (.inl rfl)
 have kx:Kp (fun t=>t=.node i) (JO o h1.size (.known i)) h2 (JO (JO o h1.size (.known i)) (h1.size+1) (.node i)) h3:=by rw[FZ];exact ((Kp.refl k2.ZX _).push _).Sj (by omega) (by rw[Array.size_push];omega) rfl
 have m2:QG (JO o h1.size (.known i)) (.known i) h2 h1.size (UJ Vi []):=⟨Y9,by rw[Uz];exact Zb⟩
 have iD3:=(iD.Zd k1).Zd k3;have iV3:=(iV.Zd k1).Zd k3;have K3:Kp (Ix i) o h (JO (JO o h1.size (.known i)) (h1.size+1) (.node i)) h3:=(ZF k1).trans k3;have st:OV Yn:=OV.qL (by kernel_rfl);show Zf h.size h ((h1.push (.map #[] 0)).push (Xp (blank i true bO Xg WN) ⟨.slice pd bO.length cd,.slice pv WN.l.length cv,none,h1.size,.slice none 0 0,.slice none 0 0,.slice none 0 0,.slice none 0 0,.nilFunc⟩))∧Kp (Ix i) o h _ ((h1.push (.map #[] 0)).push (Xp (blank i true bO Xg WN) ⟨.slice pd bO.length cd,.slice pv WN.l.length cv,none,h1.size,.slice none 0 0,.slice none 0 0,.slice none 0 0,.slice none 0 0,.nilFunc⟩))∧ZM _ ((h1.push (.map #[] 0)).push (Xp (blank i true bO Xg WN) ⟨.slice pd bO.length cd,.slice pv WN.l.length cv,none,h1.size,.slice none 0 0,.slice none 0 0,.slice none 0 0,.slice none 0 0,.nilFunc⟩)) wb i (h1.size+1) A (blank i true bO Xg WN);rw[←ee];refine⟨by rw[FZ,Uz,YK];exact ((((Zf.refl _ _).add _).add _).add _).add _,K3,⟨Y9,by rw[FZ,←s2];exact Zb⟩,?_⟩;rw[hA];exact⟨iD3,iV3,trivial,m2.Zd kx (by intro e;cases e),YG.nil _ _ _ _ _,YG.nil _ _ _ _ _,YG.nil _ _ _ _ _,⟨[],rfl,YG.nil _ _ _ _ _,fun x hx=>by cases hx⟩,rfl,st⟩
theorem CO {S:Tg→Prop} {o o':Ow} {h h':Hp} (k:Kp S o h o' h') {b:Nat} {t u:Tg} (hb:o' b=some t) (ht:S t) (hu:S u):Kp S o h (JO o' b u) h':=by
 refine⟨k.size,fun c hc hn=>⟨(k.Zd c hc hn).1,?_⟩,fun c hc v hv hs=>?_,fun c hc v hv=>?_,fun c hc=>?_⟩
 ·by_cases e:c=b
  ·subst e;have:=(k.Zd c hc hn).2;rw[hb]at this;exact (hn t this.symm ht).elim
  ·rw[Xe e];exact (k.Zd c hc hn).2
 ·by_cases e:c=b
  ·subst e;exact⟨u,Y9,hu⟩
  ·rw[Xe e];exact k.stay c hc v hv hs
 ·by_cases e:c=b
  ·subst e;rw[Y9]at hv;cases hv;exact hu
  ·rw[Xe e]at hv;exact k.new c hc v hv
 ·by_cases e:c=b
  ·subst e;rw[k.ZX c hc]at hb;cases hb
  ·rw[Xe e];exact k.ZX c hc
def Iz (i:Nat) (t:Tg):Prop:=t=.Zj i∨t=.prom i∨t=.Xo i
theorem jU {o:Ow} {h:Hp} {wb i nb:Nat} {a:NA} {n:Nd} (d:UE o h) (N:ZM o h wb i nb a n) :
  ∃o',Kp (Iz i) o h o' h∧ZV o' h wb i nb { a with Zj:=none } { n with Zj:=none,ZB:=Xo n.ZB }∧o' nb=some (.node i):=by
 have key:∀o',Kp (Iz i) o h o' h→UD o' h wb i nb none a.ZB (Xo n.ZB)→ZV o' h wb i nb { a with Zj:=none } { n with Zj:=none,ZB:=Xo n.ZB }:=fun o' k p=>
  ⟨N.pt.data.Zd k,N.pt.YP.Zd k,trivial,N.pt.known.Zd k (by rintro (e|e|e)<;>cases e),N.pt.log.Zd k (by rintro (e|e|e)<;>cases e),N.pt.queue.Zd k (by rintro (e|e|e)<;>cases e),N.pt.waiting.Zd k (by rintro (e|e|e)<;>cases e),N.pt.inbox.Zd k (by rintro (e|e|e)<;>cases e),p,N.pt.store⟩
 have hp:=N.pt.ZB;have hR:=N.pt.Zj
 cases O0:a.Zj with
 | none=>
  rw[O0]at hp;refine⟨o,Kp.refl d _,key o (Kp.refl d _) ?_,N.ZG.1⟩
  match hn:n.ZB,hp with
  | none,hp=>exact hp
  | some (.Lf _ _ _ _),hp=>exact hp
  | some (.MO _ _ _),hp=>exact hp
  | some (.own _ _ false),hp=>exact hp
  | some (.own _ _ true),⟨b6,b4,b7,b5,w,rb,h1,h2,h3,h4,h5,h6,a',h7,_⟩=>cases h7
 | some ra=>
  rw[O0]at hp hR;obtain⟨r,hr⟩:∃r,n.Zj=some r:=by
   cases hx:n.Zj with
   | none=>rw[hx]at hR;exact hR.elim
   | some r=>exact⟨r,rfl⟩
  rw[hr]at hR;have hR:YR o i h ra r:=hR;have YA:ra.rb≠ra.pb:=fun e=>by
   have h1:=hR.ZG.1;have h2:=hR.prom.1;rw[e,h2]at h1;cases h1
  have k1:Kp (Iz i) o h (JO o ra.rb (.Xo i)) h:=CO (Kp.refl d (Iz i)) hR.ZG.1 (.inl rfl) (.inr (.inr rfl));have tD:JO o ra.rb (.Xo i) ra.pb=some (.prom i):=by rw[Xe (fun e=>YA e.symm)];exact hR.prom.1
  have k2:Kp (Iz i) o h (JO (JO o ra.rb (.Xo i)) ra.pb (.Xo i)) h:=CO k1 tD (.inr (.inl rfl)) (.inr (.inr rfl));obtain⟨o2,tM⟩:=Zx (JO (JO o ra.rb (.Xo i)) ra.pb (.Xo i));rw[←tM]at k2;have s1:o2 ra.rb=some (.Xo i):=by rw[tM,Xe YA];exact Y9
  have s2:o2 ra.pb=some (.Xo i):=by rw[tM];exact Y9
  have so:∀b,b≠ra.rb→b≠ra.pb→o2 b=o b:=fun b e1 e2=>by rw[tM,Xe e2,Xe e1]
  have sst:∀b,o b=some (.Xo i)→o2 b=some (.Xo i):=fun b hb=>by
   by_cases e1:b=ra.rb
   ·rw[e1];exact s1
   ·by_cases e2:b=ra.pb
    ·rw[e2];exact s2
    ·rw[so b e1 e2];exact hb
  have WD:o2 nb=some (.node i):=by
   rw[so nb (fun e=>by have:=N.ZG.1;rw[e,hR.ZG.1]at this;cases this) (fun e=>by have:=N.ZG.1;rw[e,hR.prom.1]at this;cases this)];exact N.ZG.1
  refine⟨o2,k2,key o2 k2 ?_,WD⟩
  match hn:n.ZB,hp with
  | none,hp=>exact hp
  | some (.Lf a to b vs),⟨b6,b4,b9,u,h1,h2,h3,h4,h5⟩=>exact⟨b6,b4,b9,u,h1,h2.Zd k2,h3.Zd k2,h4.Zd k2,h5.Zd k2⟩
  | some (.MO a to x),⟨b6,b4,b9,u,h1,h2,h3,h4,h5⟩=>exact⟨b6,b4,b9,u,h1,h2.Zd k2,h3.Zd k2,h4.Zd k2,h5.Zd k2⟩
  | some (.own a vs cur),⟨b6,b4,b7,b5,w,rb,h1,h2,h3,h4,h5,h6,h7⟩=>
   refine⟨b6,b4,b7,b5,w,rb,h1,h2.Zd k2,h3.Zd k2,h4.Zd k2,h5.Zd k2,h6.Zd k2,?_⟩;rw[if_neg (by simp)]
   cases cur with
   | false=>
    rw[if_neg (by simp)]at h7;obtain⟨cs,pb,pv,g1,g2,g3⟩:=h7;exact⟨cs,pb,pv,⟨sst _ g1.1,g1.2⟩,g2,sst _ g3.1,g3.2⟩
   | true=>
    rw[if_pos rfl]at h7;obtain⟨a',q1,q2⟩:=h7;obtain rfl:=Option.some.inj q1;rw[←q2];exact⟨_,ra.pb,ra.pv,⟨s1,hR.ZG.2⟩,rfl,s2,hR.prom.2⟩
theorem xW {o:Ow} {h:Hp} {wb i nb:Nat} {ra:Option RA} {v:Value} {p:Option Bz} (s:UD o h wb i nb none v (Xo p)):UD o h wb i nb ra v (Xo p):=by
 match p,s with
 | none,s=>exact s
 | some (.Lf _ _ _ _),s=>exact s
 | some (.MO _ _ _),s=>exact s
 | some (.own _ _ _),s=>exact s
set_option maxHeartbeats 4000000 in
theorem xX (T:World) (h:Hp) (o:Ow) (wb i nb:Nat) (a:NA) (n:Nd) (d:UE o h) (N:ZM o h wb i nb a n) (hb:n.own.p.r≤1000000000000∧n.heard.r≤1000000000000 ∧ -1000000000000≤n.own.p.r ∧ -1000000000000≤n.heard.r)
  (hr:∀r,n.Zj=some r→r.b.r≤1000000000000 ∧ -1000000000000≤r.b.r) :
  Zc Tryz.prog T 31 #[Zp wb,Zp nb] h fun v' h'=>∃o' a',Kp (fun t=>t.of=some i) o h o' h'∧ZM o' h' wb i nb a' (lead n):=by
 refine Zc.Lo (args:=#[_,_]) Tryz.func31 rfl rfl rfl ?_;obtain⟨M,hM⟩:=Zx (max n.own.p.r n.heard.r+1);refine VS.seq (VS.mono (N:=fun F' g'=>F' 1=.pointer (some ⟨nb,0,none⟩)∧Zf h.size h g'∧∃kb,h.size≤kb∧F' 4=.pointer (some ⟨kb,0,none⟩)∧g'[kb]? = some (.cells [.int .i64 M,.int .i64 n.me].toArray 78)) ?_ ?_ (fun _ _ _ h=>h) (fun _ _ h=>h))
 ·refine Jp _ _ _ _ _ _ rfl ?_;unfold Zp;have P:=ZA N.ZG.2 N.pt.store.len;have WD:=Za N.ZG.2;simp -implicitDefEqProofs only[go_sem,↓reduceIte];refine VS.z (h.size) [19] (.p 0 (.p 1 (.p 2 (.p 3 (.p 4 (.q 5 (.p 6 (.p 7 (.p 8 (.p 9 (.q 10 (.p 11 (.p 12 (.p 13 (.p 14 (.p 15 (.q 16 (.p 17 (.s 18 (.w 19 .nil)))))))))))))))))))) mixed (by kernel_rfl) ?_;simp -implicitDefEqProofs only[go_sem,↓reduceIte,P.ZpG,P.Zcg,P.me,WD];have em:(if n.heard.r>n.own.p.r then n.heard.r else n.own.p.r)+1=M:=by
   rw[hM];split<;>omega
  rw[em];exact⟨_,Nat.le_refl _,rfl,Zb⟩
 rintro F1 g1 ⟨f1,b1,kb,tC,f4,y4⟩;refine VS.seq (VS.mono (N:=fun F' g'=>F' 1=.pointer (some ⟨nb,0,none⟩)∧F' 4=.pointer (some ⟨kb,0,none⟩)∧Zf h.size h g'∧g'[kb]? = some (.cells [.int .i64 (XF n).r,.int .i64 n.me].toArray 78)) ?_ ?_ (fun _ _ _ h=>h) (fun _ _ h=>h))
 ·refine Jp _ _ _ _ _ _ rfl ?_;have k1:=ZE d b1;have N1:=N.still k1;have P1:=ZA N1.ZG.2 N1.pt.store.len;have P1r:=P1.Zj;have JZ:=Za N1.ZG.2;have l4:=Za y4;have r4:hc g1 ⟨kb,0,none⟩=some (.int .i64 M):=Zh y4
  cases O0:a.Zj with
  | none=>
   rw[O0]at P1r;unfold Pz at P1r;have hn:n.Zj=none:=by
    have:=N.pt.Zj;rw[O0]at this
    cases hx:n.Zj with
    | none=>rfl
    | some r=>rw[hx]at this;exact this.elim
   have e1:(XF n).r=M:=by unfold XF;rw[hn,hM]
   rw[e1];simp -implicitDefEqProofs only[go_sem,↓reduceIte,f1,P1r];exact⟨f4,b1,y4⟩
  | some ra=>
   rw[O0]at P1r;unfold Pz Zp at P1r;obtain⟨r,hn⟩:∃r,n.Zj=some r:=by
    have:=N.pt.Zj;rw[O0]at this
    cases hx:n.Zj with
    | none=>rw[hx]at this;exact this.elim
    | some r=>exact⟨r,rfl⟩
   have R1:YR o i g1 ra r:=by have:=N1.pt.Zj;rw[O0,hn]at this;exact this
   have BD:=Za R1.ZG.2;have rr0:hc g1 ⟨ra.rb,0,none⟩=some (.int .i64 r.b.r):=Zh R1.ZG.2;have e1:(XF n).r=max M (r.b.r+1):=by unfold XF;rw[hn,hM]
   obtain⟨ay,hr2⟩:=hr r hn;obtain⟨Z,hZ⟩:=Zx ((XF n).r);have hz:(if r.b.r+1>M then r.b.r+1 else M)=Z:=by
    rw[hZ,e1];split<;>omega
   rw[←hZ];have w4:JJ g1 ⟨kb,0,none⟩ (.int .i64 Z)=some (g1.setIfInBounds kb (.cells [.int .i64 Z,.int .i64 n.me].toArray 78)):=by rw[YC y4 0 _];rfl
   simp -implicitDefEqProofs only[go_sem,↓reduceIte,f1,P1r];refine VS.z (g1.size) [10] (.p 0 (.q 1 (.p 2 (.p 3 (.p 4 (.p 5 (.q 6 (.p 7 (.p 8 (.p 9 (.w 10 .nil))))))))))) mixed (by kernel_rfl) ?_;simp -implicitDefEqProofs only[go_sem,↓reduceIte,f1,f4,P1r,r4,rr0,BD,l4,hz,w4];exact⟨b1.Zm tC _,Zy y4⟩
 clear f1 f4 y4 b1;rintro F3 g3 ⟨f1,f4,b3,y4⟩;refine Jp _ _ _ _ _ _ rfl ?_;have k3:=ZE d b3;have N3:=N.still k3;have P3:=ZA N3.ZG.2 N3.pt.store.len;have P3u:=P3.up;have PA:=Za N3.ZG.2;have l4:=Za y4;have r4a:hc g3 ⟨kb,0,none⟩=some (.int .i64 (XF n).r):=Zh y4
 cases hu:n.up with
 | false=>
  rw[hu]at P3u;have e1:lead n=n:=by unfold lead;rw[if_pos (.inl hu)]
  rw[e1];simp -implicitDefEqProofs only[go_sem,↓reduceIte,f1,P3u];exact⟨o,a,ZF k3,N3⟩
 | true=>
 rw[hu]at P3u;by_cases c:65536<(XF n).r
 ·have e1:lead n=n:=by unfold lead;rw[if_pos (.inr c)]
  rw[e1];have c':(XF n).r>65536:=c;simp -implicitDefEqProofs only[go_sem,↓reduceIte,f1,f4,P3u,r4a,c,c'];exact⟨o,a,ZF k3,N3⟩
 have e1:lead n = { n with Zj:=some ⟨XF n,[],false,[],[]⟩,ZB:=Xo n.ZB }:=by
  unfold lead;rw[if_neg];rintro (e|e)
  ·rw[hu]at e;cases e
  ·exact c e
 rw[e1];have c':¬(XF n).r>65536:=c;have r4:rd g3 ⟨kb,0,none⟩ 2=some [.int .i64 (XF n).r,.int .i64 n.me]:=Zq y4 rfl;obtain⟨o2,k2,xY,J9⟩:=jU k3.ZX N3;obtain⟨ra,O0⟩:∃ra:RA,ra=⟨g3.size+3,g3.size,g3.size+1,g3.size+2,[],[]⟩:=⟨_,rfl⟩
 obtain⟨r,hr0⟩:∃r:JF,r=⟨XF n,[],false,[],[]⟩:=⟨_,rfl⟩
 obtain⟨p1,tD⟩:=Zx (g3.push (Xu []):Hp);obtain⟨p2,nE⟩:=Zx (p1.push (Xu []):Hp);obtain⟨p3,hp3⟩:=Zx (p2.push (Xu []):Hp);obtain⟨p4,hp4⟩:=Zx (p3.push (.cells (bt r ra).toArray 138):Hp);have s1:p1.size=g3.size+1:=by rw[tD];simp
 have s2:p2.size=g3.size+2:=by rw[nE,Array.size_push,s1]
 have s3:p3.size=g3.size+3:=by rw[hp3,Array.size_push,s2]
 have s4:p4.size=g3.size+4:=by rw[hp4,Array.size_push,s3]
 have q1:p4[g3.size]? = some (Xu []):=by rw[hp4,Zt (by omega),hp3,Zt (by omega),nE,Zt (by omega),tD];exact Zb
 have q2:p4[g3.size+1]? = some (Xu []):=by rw[hp4,Zt (by omega),hp3,Zt (by omega),nE,←s1];exact Zb
 have q3:p4[g3.size+2]? = some (Xu []):=by rw[hp4,Zt (by omega),hp3,←s2];exact Zb
 have q4:p4[g3.size+3]? = some (.cells (bt r ra).toArray 138):=by rw[hp4,←s3];exact Zb
 have kp:Kp (XQ i) o2 g3 o2 p4:=by rw[hp4,hp3,nE,tD];exact ((((Kp.refl k2.ZX _).push _).push _).push _).push _
 have ka:=kp.Sj (b:=g3.size) (t:=.prom i) (Nat.le_refl _) (by omega) (.inr (.inl rfl));have kb':=ka.Sj (b:=g3.size+1) (t:=.prop i) (by omega) (by omega) (.inr (.inr (.inl rfl)));have kc:=kb'.Sj (b:=g3.size+2) (t:=.Xz i) (by omega) (by omega) (.inr (.inr (.inr (.inl rfl))));have k5:=kc.Sj (b:=g3.size+3) (t:=.Zj i) (by omega) (by omega) (.inl rfl);obtain⟨o5,ho5⟩:=Zx (JO (JO (JO (JO o2 g3.size (.prom i)) (g3.size+1) (.prop i)) (g3.size+2) (.Xz i)) (g3.size+3) (.Zj i));rw[←ho5]at k5;clear ka kb' kc kp;have t1:o5 g3.size=some (.prom i):=by rw[ho5,Xe (by omega),Xe (by omega),Xe (by omega)];exact Y9
 have t2:o5 (g3.size+1)=some (.prop i):=by rw[ho5,Xe (by omega),Xe (by omega)];exact Y9
 have t3:o5 (g3.size+2)=some (.Xz i):=by rw[ho5,Xe (by omega)];exact Y9
 have t4:o5 (g3.size+3)=some (.Zj i):=by rw[ho5];exact Y9
 have R5:YR o5 i p4 ra r:=by
  rw[O0,hr0];rw[O0,hr0]at q4;exact⟨⟨t4,q4⟩,⟨t1,q1⟩,.nil,⟨t2,q2⟩,⟨t3,q3⟩,.nil,by simp⟩
 have en:∀t:Tg,(t=.known i∨t=.log i∨t=.queue i∨t=.waiting i∨t=.inbox i∨t=.Xo i∨t=.node i)→¬XQ i t:=by
  intro t ht hr;rcases ht with rfl|rfl|rfl|rfl|rfl|rfl|rfl<;>rcases hr with e|e|e|e|⟨s,e⟩<;>cases e
 have pn:UD o5 p4 wb i nb (some ra) a.ZB (Xo n.ZB):=xW (xY.ZB.Zd k5 (en _ (by simp)));have pt5:ZV o5 p4 wb i nb { a with Zj:=some ra } { n with Zj:=some r,ZB:=Xo n.ZB }:=
  ⟨xY.data.Zd k5,xY.YP.Zd k5,R5,xY.known.Zd k5 (en _ (by simp)),xY.log.Zd k5 (en _ (by simp)),xY.queue.Zd k5 (en _ (by simp)),xY.waiting.Zd k5 (en _ (by simp)),xY.inbox.Zd k5 (en _ (by simp)),pn,xY.store⟩
 have B5:Q2 o5 (.node i) p4 nb (Xp n a):=Q2.Zd (o:=o2) ⟨J9,N3.ZG.2⟩ k5 (en _ (by simp));obtain⟨g6,w6,N6,k6⟩:=ZV.write pt5 k5.ZX B5 ((Y0 B5.2 N.pt.store.len).Zj (some ra));have PB:=Za B5.2;have ee:p4=(((g3.push (.map #[] 0)).push (.map #[] 0)).push (.map #[] 0)).push (.cells #[.int .i64 (XF n).r,.int .i64 n.me,.map (some g3.size),.bool false,.map (some (g3.size+1)),.map (some (g3.size+2))] 138):=by
  rw[hp4,hp3,nE,tD,O0,hr0];rfl
 have w6':JJ p4 ⟨nb,9,none⟩ (.pointer (some ⟨g3.size+3,0,none⟩))=some g6:=by rw[←w6,O0];rfl
 have ee':=ee.symm;rw[hr0]at N6;simp -implicitDefEqProofs only[go_sem,↓reduceIte,f1,f4,P3u,r4a,c,c',r4,ee',w6',PB];refine⟨o5,_,((ZF k3).trans (k2.mono fun t q=>?_)).trans ((k5.mono fun t q=>NW q).trans (k6.mono fun t q=>by rw[q];rfl)),N6⟩;rcases q with rfl|rfl|rfl<;>rfl
theorem ZcG {l:List Nat} {a r:QK} {k j:Nat} (h:Rec l a k r j):∀f,l.length+1≤k+f→Ii l f a k=(r,j):=by
 induction h with
 | stop e=>
  intro f hf
  cases f with
  | zero=>rfl
  | succ f=>unfold Ii;rw[e]
 | @go a a' r k k' j e _ ih=>
  intro f hf;have e':=e;unfold Yp at e';split at e'
  ·rename_i q;rw[Option.map_eq_some_iff]at e';obtain⟨x,_,hx⟩:=e';have hk:k'=k+(UB l k+4):=(congrArg Prod.snd hx).symm
   cases f with
   | zero=>omega
   | succ f=>
    unfold Ii;rw[e];exact ih f (by omega)
  ·cases e'
theorem Re {l:List Nat} {r:QK} {k:Nat} (h:Rec l X4 0 r k):Wu l=(r,k):=ZcG h _ (by omega)
theorem GK {o:Ow} {h:Hp} {wb:Nat} {Yb:Nat→Nat} {YO:WA} {fl:List Xj} {bad:Nat→Int} {told:List Rr} (d:UE o h) (W:ZH o h wb Yb YO fl bad told) (i nb:Nat) (hi:i<5) :
  ∃b off c g,YO.nodes=.slice (some ⟨b,off,none⟩) 5 c∧JJ h ⟨b,off+i,none⟩ (Zp nb)=some g∧Kp (fun t=>t=.nodes) o h o g∧ZH o g wb (fun j=>if j=i then nb else Yb j) YO fl bad told:=by
 rcases hw:W.nodes with⟨_,e,_⟩|⟨b,off,cap,pre,spare,g1,g2,g3,g4,g5,g6,g7⟩
 ·cases e
 have hw':JJ h ⟨b,off+i,none⟩ (Zp nb)=some (h.setIfInBounds b (.cells (pre++([Zp (Yb 0),Zp (Yb 1),Zp (Yb 2),Zp (Yb 3),Zp (Yb 4)].set i (Zp nb)++spare)).toArray 74)):=by
  rw[YC g3,if_pos ⟨by simp only[List.length_append,List.length_cons];omega,rfl⟩];rw[←g4,List.set_append_right _ _ (by omega),Nat.add_sub_cancel_left,List.set_append_left _ _ (by simpa using hi)]
 have kk:Kp (fun t=>t=.nodes) o h o (h.setIfInBounds b (.cells (pre++([Zp (Yb 0),Zp (Yb 1),Zp (Yb 2),Zp (Yb 3),Zp (Yb 4)].set i (Zp nb)++spare)).toArray 74)):=(Kp.refl d (fun t=>t=.nodes)).set g1 rfl _;refine⟨b,off,cap,_,g2,hw',kk,W.ZG.Zd kk (by intro e;cases e),?_,W.Zn.Zd kk (by intro e;cases e),W.told.Zd kk (by intro e;cases e)⟩;refine .inr ⟨b,off,cap,pre,spare,g1,g2,?_,g4,rfl,g6,g7⟩;rw[Zy g3]
 match i,hi with
 | 0,_=>rfl
 | 1,_=>rfl
 | 2,_=>rfl
 | 3,_=>rfl
 | 4,_=>rfl
def To (k n a b:Int) (d:Value):List Value:=[.int .i64 k,.int .i64 n,.int .i64 a,.int .i64 b,d]
structure WOk (w:Wd):Prop where
 me:∀i,i<5→(w.nodes i).me=i
 step:∀i,i<5→bL (w.nodes i) w.Zn.length w.told.length
 queue:∀i,i<5→(w.nodes i).queue.length≤100000000000
 log:∀i,i<5→(w.nodes i).log.length≤100000000000
 waiting:∀i,i<5→(w.nodes i).waiting.length≤100000000000
 inbox:∀i,i<5→(w.nodes i).inbox.length≤100000000000
 data:∀i,i<5→(w.nodes i).data.length≤1000000
 told:w.told.length≤100000000000
 bad:∀i,i<5→0≤w.bad i∧w.bad i≤1000000000000
 ZqN:∀i,i<5→(w.nodes i).own.p.r≤1000000000000∧(w.nodes i).heard.r≤1000000000000 ∧ -1000000000000≤(w.nodes i).own.p.r ∧ -1000000000000≤(w.nodes i).heard.r
 rgn:∀i,i<5→∀r,(w.nodes i).Zj=some r→r.b.r≤1000000000000 ∧ -1000000000000≤r.b.r
 to:∀l∈w.Zn,0≤l.to∧l.to<5
 room:w.Zn.length≤100000000000
theorem Ju.fresh {o o':Ow} {h h':Hp} {wb:Nat} {Yb:Nat→Nat} {YO:WA} {w:Wd} {i nb:Nat} {a:NA} {n:Nd} (A:Ju o h wb Yb YO w) (k:Kp (fun t=>t=.nodes∨t.of=some i) o h o' h')
  (N:ZM o' h' wb i nb a n) (W:ZH o' h' wb (fun j=>if j=i then nb else Yb j) YO w.Zn w.bad w.told):Ju o' h' wb (fun j=>if j=i then nb else Yb j) YO (w.set i n):=by
 refine⟨W,fun j hj=>?_⟩;by_cases e:j=i
 ·subst e;refine⟨a,?_⟩;unfold Wd.set
  simpa using N
 ·obtain⟨b,M⟩:=A.nd j hj;refine⟨b,?_⟩;unfold Wd.set;simp only[if_neg e];refine M.Zd k fun t q hq=>?_;rcases q with rfl|q
  ·cases hq
  ·rw[hq]at q;exact e (Option.some.inj q)
theorem CP (w:Wd) (i:Nat):w.set i (w.nodes i)=w:=by
 unfold Wd.set;have:(fun j=>if j=i then w.nodes i else w.nodes j)=w.nodes:=by
  funext j;split
  ·next e=>rw[e]
  ·rfl
 rw[this]
theorem IA {o:Ow} {h':Hp} {p:Option Addr} {c:Nat} {L:List Nat} (d:UE o h') (hb:Bs h' (.slice p L.length c) L) (hc:L.length≤c) (hf:∀b,ZO (.slice p L.length c)=some b→o b=none∧b<h'.size):VC o h' (.slice p L.length c) L:=
 ⟨⟨hb.sl,⟨p,c,rfl,hc⟩,fun b q=>⟨(hf b q).2,(hf b q).1⟩⟩,hb.byte⟩
theorem CQ {o:Ow} {h:Hp} {v:Value} {l:List Nat} {k:Nat} (d:UE o h) (s:VC o h v l) (hk:k<h.size) (hv:∀b,ZO v=some b→b≠k) (x:Obj):VC o (h.setIfInBounds k x) v l:=by
 have d2:UE (JO o k Tg.nodes) h:=fun b hb=>by rw[Xe (by omega)];exact d b hb
 have s2:VC (JO o k Tg.nodes) h v l:=⟨⟨s.1.sl,s.1.fits,fun b hb=>⟨(s.1.free b hb).1,by rw[Xe (hv b hb)];exact (s.1.free b hb).2⟩⟩,s.2⟩
 have k2:Kp (fun t=>t=Tg.nodes) (JO o k Tg.nodes) h (JO o k Tg.nodes) (h.setIfInBounds k x):=(Kp.refl d2 (fun t=>t=Tg.nodes)).set Y9 rfl x;have s3:=s2.Zd k2;exact⟨⟨s3.1.sl,s3.1.fits,fun b hb=>⟨(s3.1.free b hb).1,(s.1.free b hb).2⟩⟩,s3.2⟩
theorem bP (i:Nat) (n:Nd) (k:Int) (L:List Nat) (Z E:Int) (hu:n.up=true) (h:Ss n.data n.Xg k=(L,Z,E)):crashed i n k = { blank i true L Z X4 with up:=false }:=by
 unfold crashed;rw[if_pos hu];unfold Ss at h;by_cases c:YU n.data n.Xg
 ·rw[if_pos (show n.data.length≤100000∧0≤n.Xg∧n.Xg≤n.data.length from c)]at h;by_cases q:k<0
  ·rw[if_pos q]at h
   cases h
   rw[if_neg (fun e=>by have:=e.2;omega)];rfl
  ·rw[if_neg q]at h
   cases h
   rw[if_pos ⟨c,by omega⟩];rfl
 ·rw[if_neg (show ¬(n.data.length≤100000∧0≤n.Xg∧n.Xg≤n.data.length) from c)]at h
  cases h
  rw[if_neg (fun e=>c e.1)];rfl
theorem bQ (w:Wd) (l:Xj) (i:Nat):((WC w l).nodes i).inbox.length≤(w.nodes i).inbox.length+1:=by
 unfold WC;split
 ·unfold Wd.set;simp only;split
  ·next e=>subst e;simp
  ·omega
 ·omega
theorem CR (i:Nat):∀(ls:List Xj) (w:Wd),((ls.foldl WC w).nodes i).inbox.length≤(w.nodes i).inbox.length+ls.length:=by
 intro ls
 induction ls with
 | nil=>intro w;simp
 | cons l ls ih=>
  intro w;have h1:=ih (WC w l);have h2:=bQ w l i;simp only[List.foldl_cons,List.length_cons];omega
end Go.Proofs.YtboeoomhjbcecaaGreatDoor
