/- A node is asked for a promise. -/
import Derived.Test.YtboeoomhjbcecaaGreatDoorMop
import Derived.Test.YtboeoomhjbcecaaGreatDoorOpn
namespace Go.Proofs.YtboeoomhjbcecaaGreatDoor
open Go Go.V
set_option linter.unusedSimpArgs false
set_option linter.unusedVariables false
set_option maxRecDepth 100000
theorem jD (G:Hp) (X Y:Obj):((G.push X).push Y)[G.size]? = some X:=by rw[Zt (by simp),Zb]
theorem gs2 (G:Hp) (k:Nat) (X Y:Obj):((G.setIfInBounds k X).push Y)[G.size]? = some Y:=by
 have:=Zb (h:=G.setIfInBounds k X) (o:=Y);rwa [Array.size_setIfInBounds]at this
theorem lD (G:Hp) (X Y:Obj):((G.push X).push Y)[G.size+1]? = some Y:=by
 have:=Zb (h:=G.push X) (o:=Y);rwa [Array.size_push]at this
def fg (B:Nat) (g':Hp) (A C:Value) (p:YN) (l:List Vt) (b:YN):Prop:=
 ∃ka kc w1 w2,A=Zp ka∧C=Zp kc∧B≤ka∧B≤kc∧g'[ka]? = some (.cells (YT (if Yu p l b=0 then b else ⟨0,0⟩) w1).toArray 81)∧g'[kc]? = some (.cells [w2].toArray 79) ∧
  Jn B 109 Zo 8 g' w1 (if Yu p l b=0 then l else [])∧Jn B 109 Zo 8 g' w2 (if Yu p l b=0 then l else [])
def GD (B:Nat) (g':Hp) (A:Value) (l:List Nat) (n:Int) (E:Int) (add:List Nat):Prop:=
 ∃ka w,A=.pointer (some ⟨ka,0,none⟩)∧B≤ka∧g'[ka]? = some (.cells [w,.int .i64 (if E=0 then n else 0)].toArray 76)∧Z0 B 5 g' w (if E=0 then l++add else [])
set_option maxHeartbeats 1000000 in
theorem Cz (T:World) (h:Hp) (o:Ow) (wb i nb:Nat) (Yb:Nat→Nat) (a:NA) (n:Nd) (YO:WA) (fl:List Xj) (bad:Nat→Int) (told:List Rr) (l:Xj) (w:Value) (d:UE o h)
  (N:ZM o h wb i nb a n) (W:ZH o h wb Yb YO fl bad told) (iv:Wz o h w l.vs) (Ys:fl.length≤1000000000000) (qh:n.own.l.length≤1000000) (lj:n.data.length≤1000000) (tb:BA o h) :
  Zc Tryz.prog T 64 #[Zp wb,Zp nb,.agg (Y7 l w).toArray] h fun v' h'=>∃o' a' XA,Kp (fun t=>t=.world∨t=.Zn∨t=.node i) o h o' h'∧ZM o' h' wb i nb a' (Y6 n l).n∧ZH o' h' wb Yb XA (fl++(Y6 n l).ls) bad told:=by
 obtain⟨pw,cw,rfl⟩:=iv.isSlice;refine Zc.Zk (args:=[_,_,_]) Tryz.func64 rfl rfl rfl rfl ?_;unfold Zp Y7;simp -implicitDefEqProofs only[go_sem,↓reduceIte];obtain⟨h1,YK⟩:=Zx (((h.push (.cells [Zp wb].toArray 67)).push (.cells [Zp nb].toArray 74)).push (.cells (Y7 l (.slice pw l.vs.length cw)).toArray 111):Hp);have k1:Kp QM o h o h1:=by rw[YK];exact ((Kp.refl d _).push _ |>.push _).push _
 have s1:h1.size=h.size+3:=by rw[YK];simp
 have d1:∀b,h.size≤b→o b=none:=d;have x3:ZR o h1 h.size (.cells [Zp wb].toArray 67):=⟨d _ (by omega),by rw[YK,Zt (by simp;omega),jD]⟩
 have x4:ZR o h1 (h.size+1) (.cells [Zp nb].toArray 74):=⟨d _ (by omega),by rw[YK,Zt (by simp),lD]⟩
 have x5:ZR o h1 (h.size+2) (.cells (Y7 l (.slice pw l.vs.length cw)).toArray 111):=⟨d _ (by omega),by
  have:=Zb (h:=(h.push (.cells [Zp wb].toArray 67)).push (.cells [Zp nb].toArray 74)) (o:=.cells (Y7 l (.slice pw l.vs.length cw)).toArray 111);rw[YK];simpa using this⟩
 have e0:((h.push (.cells [Zp wb].toArray 67)).push (.cells [Zp nb].toArray 74)).push (.cells (Y7 l (.slice pw l.vs.length cw)).toArray 111)=h1:=YK.symm;unfold Zp Y7 at e0;rw[e0];clear e0 YK;have N1:=N.still k1;have W1:=W.still k1;have xq:=iv.Zd k1;have R1:=ZA N1.ZG.2 N1.pt.store.len;have JZ:=Za N1.ZG.2;have l3:=Za x3.2;have l4:=Za x4.2;have l5:=Za x5.2;have r3:hc h1 ⟨h.size,0,none⟩=some (Zp wb):=Zh x3.2;have r4:hc h1 ⟨h.size+1,0,none⟩=some (Zp nb):=Zh x4.2;have r53:rd h1 ⟨h.size+2,3,none⟩ 2=some [.int .i64 l.b.r,.int .i64 l.b.n]:=by rw[Z9 x5.2 (by simp[Y7])];rfl
 have r51:hc h1 ⟨h.size+2,1,none⟩=some (.int .i64 l.JM):=Zh x5.2;unfold Zp at r3 r4;have Iu:=R1.own;obtain⟨pv,cv,lF⟩:=N1.pt.YP.isSlice;rw[lF]at Iu;have call:∀G,Zf h1.size h1 G→Zc Tryz.prog T 74 #[.agg #[.int .i64 n.own.p.r,.int .i64 n.own.p.n,.slice pv n.own.l.length cv],.agg #[.int .i64 l.b.r,.int .i64 l.b.n]] G fun v' h'=>DH G.size h' v' n.own.p n.own.l l.b∧Zf G.size G h':=fun G hG=>
  TG T G n.own.p _ n.own.l l.b (by rw[←lF];exact N1.pt.YP.ts.Z2 hG) (by omega)
 obtain⟨E,hE⟩:=Zx (Yu n.own.p n.own.l l.b);have wA:∀(G:Hp) (k:Nat) (r m:Int) (p:Option Addr) (L c:Nat),G[k]? = some (.cells [.int .i64 0,.int .i64 0,.slice none 0 0].toArray 81)→wr G ⟨k,0,none⟩ [.int .i64 r,.int .i64 m,.slice p L c]=some (G.setIfInBounds k (.cells [.int .i64 r,.int .i64 m,.slice p L c].toArray 81)):=fun G k r m p L c hx=>by
  rw[ZU hx 0 _];rfl
 have wB:∀(G:Hp) (k:Nat) (p:Option Addr) (L c:Nat),G[k]? = some (.cells [.slice none 0 0].toArray 79)→JJ G ⟨k,0,none⟩ (.slice p L c)=some (G.setIfInBounds k (.cells [.slice p L c].toArray 79)):=fun G k p L c hx=>by
  rw[YC hx 0 _];rfl
 refine VS.mono (N:=fun F' g'=>Zf h1.size h1 g'∧F' 3=.pointer (some ⟨h.size,0,none⟩)∧F' 4=.pointer (some ⟨h.size+1,0,none⟩)∧F' 5=.pointer (some ⟨h.size+2,0,none⟩)∧F' 8=.int .i64 E∧fg h1.size g' (F' 6) (F' 7) n.own.p n.own.l l.b) ?_ ?_ (fun _ _ _ h=>h) (fun _ _ h=>h)
 ·refine VS.z (h1.size) [6,13,14] (.q 0 (.p 1 (.p 2 (.q 3 (.p 4 (.q 5 (.or 6 (.p 7 (.p 8 (.p 9 (.p 10 (.or 11 (.s 12 (.w 13 (.w 14 (.p 15 .nil)))) (.s 12 (.s 11 (.w 13 (.w 14 (.p 15 .nil)))))))))) (.or 11 (.or 6 (.p 7 (.p 8 (.p 9 (.p 10 (.s 12 (.w 13 (.w 14 (.p 15 .nil)))))))) (.s 12 (.w 6 (.p 7 (.p 8 (.p 9 (.p 10 (.w 13 (.w 14 (.p 15 .nil)))))))))) (.s 12 (.or 6 (.p 7 (.p 8 (.p 9 (.p 10 (.s 11 (.w 13 (.w 14 (.p 15 .nil)))))))) (.s 11 (.w 6 (.p 7 (.p 8 (.p 9 (.p 10 (.w 13 (.w 14 (.p 15 .nil))))))))))))))))))) mixed (by kernel_rfl) ?_;simp -implicitDefEqProofs only[go_sem,↓reduceIte,r4,Iu,r53,JZ,l4,l5];unfold fg Zp YT
  repeat' (first|with_reducible exact Zf.refl _ _|with_reducible exact Zf.push (by omega) _|with_reducible refine And.intro ?_ ?_)
  all_goals first
   | (refine (call h1 (Zf.refl _ _)).use ?_
      rintro _ g5 ⟨⟨w1,w2,rfl,o1,o2⟩,b5⟩;obtain⟨p1,c1,rfl,_⟩:=o1.open;obtain⟨p2,c2,rfl,_⟩:=o2.open;rw[←hE]at *;have s5:=b5.size;unfold YT;simp -implicitDefEqProofs only[go_sem,↓reduceIte,b5];refine⟨⟨_,_,_,_,rfl,rfl,s5,by omega,jD _ _ _,lD _ _ _,(o1.push _).push _,(o2.push _).push _⟩,⟨_,_,_,_,rfl,rfl,by omega,s5,lD _ _ _,jD _ _ _,(o1.push _).push _,(o2.push _).push _⟩⟩)
   | (refine (call (h1.push (.cells _ 81)) (Zf.push (Nat.le_refl _) _)).use ?_
      rintro _ g5 ⟨⟨w1,w2,rfl,o1,o2⟩,b5⟩;obtain⟨p1,c1,rfl,_⟩:=o1.open;obtain⟨p2,c2,rfl,_⟩:=o2.open;rw[←hE]at *;have s5:=b5.size;rw[Array.size_push]at s5;have B5:Zf h1.size h1 g5:=(Zf.push (Nat.le_refl _) _).trans (b5.mono (by simp));have xA:=b5.get (k:=h1.size) (by simp) Zb;have TZ:=wA _ _ (if E=0 then l.b else ⟨0,0⟩).r (if E=0 then l.b else ⟨0,0⟩).n p1 (if E=0 then n.own.l else []).length c1 xA;have zA:=Za xA;unfold YT;simp -implicitDefEqProofs only[go_sem,↓reduceIte,B5,TZ,zA];exact⟨_,_,_,_,rfl,rfl,Nat.le_refl _,by omega,by rw[Zt (by simpa using zA)];exact Zy xA,gs2 _ _ _ _,((o1.ZP (by simp) _).push _).mono (by simp),((o2.ZP (by simp) _).push _).mono (by simp)⟩)
   | (refine (call (h1.push (.cells _ 79)) (Zf.push (Nat.le_refl _) _)).use ?_
      rintro _ g5 ⟨⟨w1,w2,rfl,o1,o2⟩,b5⟩;obtain⟨p1,c1,rfl,_⟩:=o1.open;obtain⟨p2,c2,rfl,_⟩:=o2.open;rw[←hE]at *;have s5:=b5.size;rw[Array.size_push]at s5;have B5:Zf h1.size h1 g5:=(Zf.push (Nat.le_refl _) _).trans (b5.mono (by simp));have xB:=b5.get (k:=h1.size) (by simp) Zb;have It:=wB _ _ p2 (if E=0 then n.own.l else []).length c2 xB;have zB:=Za xB;unfold YT;simp -implicitDefEqProofs only[go_sem,↓reduceIte,B5,It,zB];exact⟨_,_,_,_,rfl,rfl,by omega,Nat.le_refl _,gs2 _ _ _ _,by rw[Zt (by simpa using zB)];exact Zy xB,((o1.ZP (by simp) _).push _).mono (by simp),((o2.ZP (by simp) _).push _).mono (by simp)⟩)
   | (refine (call ((h1.push (.cells _ 81)).push (.cells _ 79)) ((Zf.push (Nat.le_refl _) _).Yi (by simp) _)).use ?_
      rintro _ g5 ⟨⟨w1,w2,rfl,o1,o2⟩,b5⟩;obtain⟨p1,c1,rfl,_⟩:=o1.open;obtain⟨p2,c2,rfl,_⟩:=o2.open;rw[←hE]at *;have s5:=b5.size;rw[Array.size_push,Array.size_push]at s5;have B5:Zf h1.size h1 g5:=((Zf.push (Nat.le_refl _) _).Yi (by simp) _).trans (b5.mono (by simp;omega));have xA:=b5.get (k:=h1.size) (by simp;omega) (jD _ _ _);have xB:=b5.get (k:=h1.size+1) (by simp) (lD _ _ _);have TZ:=wA _ _ (if E=0 then l.b else ⟨0,0⟩).r (if E=0 then l.b else ⟨0,0⟩).n p1 (if E=0 then n.own.l else []).length c1 xA;have zA:=Za xA;have NY:=fun o:Obj=>(Yf (o:=o) (show h1.size≠h1.size+1 by omega)).trans xB;have It:=fun o:Obj=>wB _ _ p2 (if E=0 then n.own.l else []).length c2 (NY o);have zB:h1.size+1<g5.size:=Za xB;unfold YT;simp -implicitDefEqProofs only[go_sem,↓reduceIte,B5,TZ,zA,It,zB];exact⟨_,_,_,_,rfl,rfl,by omega,by omega,(Yf (by omega)).trans (Zy xA),Zy (NY _),((o1.ZP (by simp;omega) _).ZP (by simp) _).mono (by simp;omega),((o2.ZP (by simp;omega) _).ZP (by simp) _).mono (by simp;omega)⟩)
   | (refine (call ((h1.push (.cells _ 79)).push (.cells _ 81)) ((Zf.push (Nat.le_refl _) _).Yi (by simp) _)).use ?_
      rintro _ g5 ⟨⟨w1,w2,rfl,o1,o2⟩,b5⟩;obtain⟨p1,c1,rfl,_⟩:=o1.open;obtain⟨p2,c2,rfl,_⟩:=o2.open;rw[←hE]at *;have s5:=b5.size;rw[Array.size_push,Array.size_push]at s5;have B5:Zf h1.size h1 g5:=((Zf.push (Nat.le_refl _) _).Yi (by simp) _).trans (b5.mono (by simp;omega));have xB:=b5.get (k:=h1.size) (by simp;omega) (jD _ _ _);have xA:=b5.get (k:=h1.size+1) (by simp) (lD _ _ _);have TZ:=wA _ _ (if E=0 then l.b else ⟨0,0⟩).r (if E=0 then l.b else ⟨0,0⟩).n p1 (if E=0 then n.own.l else []).length c1 xA;have zA:=Za xA;have NY:=fun o:Obj=>(Yf (o:=o) (show h1.size+1≠h1.size by omega)).trans xB;have It:=fun o:Obj=>wB _ _ p2 (if E=0 then n.own.l else []).length c2 (NY o);have zB:h1.size<g5.size:=Za xB;unfold YT;simp -implicitDefEqProofs only[go_sem,↓reduceIte,B5,TZ,zA,It,zB];exact⟨_,_,_,_,rfl,rfl,by omega,by omega,(Yf (by omega)).trans (Zy xA),Zy (NY _),((o1.ZP (by simp) _).ZP (by simp;omega) _).mono (by simp;omega),((o2.ZP (by simp) _).ZP (by simp;omega) _).mono (by simp;omega)⟩)
 ·rintro F1 g1 ⟨b1,f3,f4,f5,f8,ka,kc,w1,w2,fA,fC,ge1,ge2,yA,yC,o1,o2⟩;rw[←hE]at yA o1 o2;have kb:=ZE k1.ZX b1;have N2:=N1.still kb;have W2:=W1.still kb;have K2:Kp QM o h o g1:=k1.Z2 b1;have y3:=x3.Zd kb;have y4:=x4.Zd kb;have y5:=x5.Zd kb;have lq:=xq.Zd kb;have AS:=(tb.Zd k1).Zd kb;have R2:=ZA N2.ZG.2 N2.pt.store.len;have m3:=Za y3.2;have m4:=Za y4.2;have m5:=Za y5.2;have J9:=Za N2.ZG.2;have q3:hc g1 ⟨h.size,0,none⟩=some (Zp wb):=Zh y3.2;have q4:hc g1 ⟨h.size+1,0,none⟩=some (Zp nb):=Zh y4.2;have fh:rd g1 ⟨h.size+2,3,none⟩ 2=some [.int .i64 l.b.r,.int .i64 l.b.n]:=by rw[Z9 y5.2 (by simp[Y7])];rfl
  have q51:hc g1 ⟨h.size+2,1,none⟩=some (.int .i64 l.JM):=Zh y5.2;unfold Zp at q3 q4;have R2p:=R2.Ct;by_cases e:E=0
  case neg=>
   have eP:Y6 n l=⟨n,[⟨7,n.me,l.JM,n.own.p,Tw,[]⟩],[]⟩:=by unfold Y6;rw[←hE,if_pos e]
   rw[eP];simp -implicitDefEqProofs only[go_sem,↓reduceIte,f8,e];refine VS.z (g1.size) [10] (.q 0 (.q 1 (.p 2 (.q 3 (.q 4 (.p 5 (.p 6 (.p 7 (.q 8 (.p 9 (.w 10 .nil))))))))))) mixed (by kernel_rfl) ?_;simp -implicitDefEqProofs only[go_sem,↓reduceIte,f3,f4,f5,q3,q4,q51,R2p,m3,m4,m5,J9];refine (UY T g1 o wb nb Yb n.me YO fl bad told l.JM ⟨7,0,0,n.own.p,Tw,[]⟩ (.slice none 0 0) K2.ZX W2 R2.me J9 (Im.nil _ _ _ _) Ys).use ?_;rintro v' h' ⟨o',XA,k,_,W'⟩;simp -implicitDefEqProofs only[go_sem,↓reduceIte];exact⟨o',a,XA,(ZF K2).trans (k.mono fun t q=>q.elim .inl fun q=>.inr (.inl q)),N2.Zd k (by rintro t (rfl|rfl)<;>simp[Tg.of]),W'⟩
  rw[if_pos e]at yA o1 o2;have iv7:Wz o g1 w2 n.own.l:=Im.Ue o2.own (fun b hb=>k1.ZX b hb);have iv6:Wz o g1 w1 n.own.l:=Im.Ue o1.own (fun b hb=>k1.ZX b hb);unfold Zp at fA fC;simp -implicitDefEqProofs only[go_sem,↓reduceIte,f8,e,f3,f4,f5,fC];obtain⟨g2,QW⟩:=Zx (g1.push (.cells [WM 89 [h.size,h.size+1,h.size+2,kc]].toArray 1):Hp);have k2:=ZY K2.ZX (.cells [WM 89 [h.size,h.size+1,h.size+2,kc]].toArray 1);rw[←QW]at k2;have K3:Kp QM o h o g2:=K2.trans k2;have x9:ZR o g2 g1.size (.cells [WM 89 [h.size,h.size+1,h.size+2,kc]].toArray 1):=⟨K2.ZX _ (Nat.le_refl _),by rw[QW];exact Zb⟩
  have e2:g1.push (.cells [WM 89 [h.size,h.size+1,h.size+2,kc]].toArray 1)=g2:=QW.symm;unfold WM at e2;simp only[List.map]at e2;unfold Zp at e2;rw[e2];clear e2 QW;have N3:=N2.still k2;have W3:=W2.still k2;have z3:=y3.Zd k2;have z4:=y4.Zd k2;have z5:=y5.Zd k2;have z6:=(show ZR o g1 ka _ from⟨k1.ZX ka ge1,yA⟩).Zd k2;have z7:=(show ZR o g1 kc _ from⟨k1.ZX kc ge2,yC⟩).Zd k2;have iw7:=iv7.Zd k2;have iw6:=iv6.Zd k2;have tb3:=AS.Zd k2;clear R2 R2p m3 m4 m5 J9 q3 q4 fh q51 R1 Iu JZ l3 l4 l5 r3 r4 r53 r51;have R3:=ZA N3.ZG.2 N3.pt.store.len;have m3:=Za z3.2;have m4:=Za z4.2;have m5:=Za z5.2;have m9:=Za x9.2;have PA:=Za N3.ZG.2;have q4:hc g2 ⟨h.size+1,0,none⟩=some (Zp nb):=Zh z4.2;have fh:rd g2 ⟨h.size+2,3,none⟩ 2=some (Jr l.b):=by rw[Z9 z5.2 (by simp[Y7])];rfl
  have q9:hc g2 ⟨g1.size,0,none⟩=some (WM 89 [h.size,h.size+1,h.size+2,kc]):=Zh x9.2;have R3p:rd g2 ⟨nb,4,none⟩ 2=some (Jr n.own.p):=R3.Ct;unfold Zp at q4;refine VS.q mixed (by kernel_rfl) ?_;simp -implicitDefEqProofs only[go_sem,↓reduceIte,f4,f5,q4,fh,R3p];by_cases ep:n.own.p=l.b
  ·have eP:Y6 n l=⟨n,[⟨1,n.me,l.JM,l.b,Tw,n.own.l⟩],[]⟩:=by unfold Y6;rw[←hE,if_neg (by omega),if_pos ep]
   rw[eP];unfold WM at q9;simp only[List.map]at q9;unfold Zp at q9;simp -implicitDefEqProofs only[go_sem,↓reduceIte,ep,q9];refine (fc T g2 o wb nb Yb n.me YO fl bad told h.size (h.size+1) (h.size+2) kc l _ w2 n.own.l K3.ZX W3 R3.me PA Ys z3 z4 z5 z7 iw7).use ?_;rintro v' h' ⟨o',XA,k,W'⟩;simp -implicitDefEqProofs only[go_sem,↓reduceIte];exact⟨o',a,XA,(ZF K3).trans (k.mono fun t q=>q.elim .inl fun q=>.inr (.inl q)),N3.Zd k (by rintro t (rfl|rfl)<;>simp[Tg.of]),W'⟩
  simp -implicitDefEqProofs only[go_sem,↓reduceIte,ep];have qN:=R3.tape;obtain⟨pd,cd,O1⟩:=N3.pt.data.1.isSlice;rw[O1]at qN;obtain⟨E2,jE⟩:=Zx (Qi n.data n.Xg l.b);have call2:∀G,Zf g2.size g2 G→Zc Tryz.prog T 90 #[.agg #[.slice pd n.data.length cd,.int .i64 n.Xg],.agg #[.int .i64 l.b.r,.int .i64 l.b.n]] G fun v' h'=>TK G.size h' v' n.data n.Xg E2 (Yo (X3 l.b))∧Zf G.size G h':=fun G hG=>by
   rw[jE];exact MG T G _ n.Xg n.data l.b (by rw[←O1];exact N3.pt.data.bs.Z2 hG) (by omega) (tb3.tk.Je hG)
  have wT:∀(G:Hp) (k:Nat) (m:Int) (p:Option Addr) (L c:Nat),G[k]? = some (.cells [.slice none 0 0,.int .i64 0].toArray 76)→wr G ⟨k,0,none⟩ [.slice p L c,.int .i64 m]=some (G.setIfInBounds k (.cells [.slice p L c,.int .i64 m].toArray 76)):=fun G k m p L c hx=>by
   rw[ZU hx 0 _];rfl
  unfold Jr at fh;refine VS.mono (N:=fun F' g'=>Zf g2.size g2 g'∧F' 3=.pointer (some ⟨h.size,0,none⟩)∧F' 4=.pointer (some ⟨h.size+1,0,none⟩)∧F' 5=.pointer (some ⟨h.size+2,0,none⟩)∧F' 6=.pointer (some ⟨ka,0,none⟩)∧F' 9=.pointer (some ⟨g1.size,0,none⟩)∧F' 8=.int .i64 E2∧GD g2.size g' (F' 10) n.data n.Xg E2 (Yo (X3 l.b))) ?_ ?_ (fun _ _ _ h=>h) (fun _ _ h=>h)
  ·refine VS.z (g2.size) [6,11] (.q 0 (.p 1 (.p 2 (.q 3 (.p 4 (.q 5 (.or 6 (.p 7 (.p 8 (.p 9 (.s 10 (.w 11 (.p 12 .nil)))))) (.s 10 (.w 6 (.p 7 (.p 8 (.p 9 (.w 11 (.p 12 .nil)))))))))))))) mixed (by kernel_rfl) ?_;simp -implicitDefEqProofs only[go_sem,↓reduceIte,f3,f4,f5,fA,q4,qN,fh,m4,m5,PA];unfold GD
   repeat' (first|with_reducible exact Zf.refl _ _|with_reducible exact Zf.push (by omega) _|with_reducible refine And.intro ?_ ?_)
   all_goals first
    | (refine (call2 g2 (Zf.refl _ _)).use ?_
       rintro _ g5 ⟨⟨w,rfl,o1⟩,b5⟩;obtain⟨p1,c1,rfl,_⟩:=o1.bs.open;have s5:=b5.size;simp -implicitDefEqProofs only[go_sem,↓reduceIte,b5];exact⟨f3,f4,f5,fA,_,_,rfl,s5,Zb,o1.push _⟩)
    | (refine (call2 (g2.push (.cells _ 76)) (Zf.push (Nat.le_refl _) _)).use ?_
       rintro _ g5 ⟨⟨w,rfl,o1⟩,b5⟩;obtain⟨p1,c1,rfl,_⟩:=o1.bs.open;have B5:Zf g2.size g2 g5:=(Zf.push (Nat.le_refl _) _).trans (b5.mono (by simp));have xA:=b5.get (k:=g2.size) (by simp) Zb;have TZ:=wT _ _ (if E2=0 then n.Xg else 0) p1 (if E2=0 then n.data++Yo (X3 l.b) else []).length c1 xA;have zA:=Za xA;simp -implicitDefEqProofs only[go_sem,↓reduceIte,B5,TZ,zA];exact⟨f3,f4,f5,fA,_,_,rfl,Nat.le_refl _,Zy xA,(o1.ZP (by simp) _).mono (by simp)⟩)
  ·rintro F2 g3 ⟨b3,f3,f4,f5,f6,f9,f8,kt,wt,fT,ge3,yT,oT⟩;have WB:=ZE K3.ZX b3;have N4:=N3.still WB;have W4:=W3.still WB;have K4:Kp QM o h o g3:=K3.Z2 b3;by_cases e2:E2=0
   case neg=>
    have eP:Y6 n l=⟨n,[],[]⟩:=by unfold Y6;rw[←hE,if_neg (by omega),if_neg ep,←jE,if_pos e2]
    rw[eP,List.append_nil];simp -implicitDefEqProofs only[go_sem,↓reduceIte,f8,e2];exact⟨o,a,YO,ZF K4,N4,W4⟩
   rw[if_pos e2]at yT oT;have u3:=z3.Zd WB;have u4:=z4.Zd WB;have u5:=z5.Zd WB;have u6:=z6.Zd WB;have u7:=z7.Zd WB;have u9:=x9.Zd WB;have iu6:=iw6.Zd WB;have iu7:=iw7.Zd WB;have iT:VC o g3 wt (n.data++Yo (X3 l.b)):=⟨Im.Ue oT.own (fun b hb=>K3.ZX b hb),oT.byte⟩
   have eP:Y6 n l=⟨{ n with data:=n.data++Yo (X3 l.b),ZB:=some (.Lf ⟨l.b,n.own.l⟩ l.JM l.b n.own.l) },[],[]⟩:=by unfold Y6;rw[←hE,if_neg (by omega),if_neg ep,←jE,if_neg (by omega)]
   rw[eP,List.append_nil];clear R3 m3 m4 m5 m9 PA q4 fh q9 R3p qN;obtain⟨pt,ct,rfl,_⟩:=oT.bs.open;have q4:hc g3 ⟨h.size+1,0,none⟩=some (Zp nb):=Zh u4.2;have qT:rd g3 ⟨kt,0,none⟩ 2=some [.slice pt (n.data++Yo (X3 l.b)).length ct,.int .i64 n.Xg]:=Zq yT rfl;have Li:=Za N4.ZG.2;obtain⟨g4,w4,N5,k5⟩:=ZV.write (a:={ a with data:=.slice pt (n.data++Yo (X3 l.b)).length ct }) (n:={ n with data:=n.data++Yo (X3 l.b) }) { N4.pt with data:=iT } K4.ZX N4.ZG ((Y0 N4.ZG.2 N4.pt.store.len).tape (.slice pt (n.data++Yo (X3 l.b)).length ct) n.Xg rfl);have v4:=u4.Zd k5;have q4':hc g4 ⟨h.size+1,0,none⟩=some (Zp nb):=Zh v4.2;have PB:=Za N5.ZG.2;have pn:UD o g4 wb i nb a.Zj (WM 91 [ka,h.size+1,g1.size]) (some (.Lf ⟨l.b,n.own.l⟩ l.JM l.b n.own.l)):=
    ⟨ka,h.size+1,g1.size,_,rfl,⟨_,u6.Zd k5,iu6.Zd k5⟩,v4,u9.Zd k5,h.size,h.size+1,h.size+2,kc,l,_,w2,rfl,u3.Zd k5,v4,u5.Zd k5,rfl,rfl,u7.Zd k5,iu7.Zd k5⟩
   obtain⟨g6,w6,N6,k6⟩:=ZV.write (a:={ a with data:=.slice pt (n.data++Yo (X3 l.b)).length ct,ZB:=WM 91 [ka,h.size+1,g1.size] }) (n:={ n with data:=n.data++Yo (X3 l.b),ZB:=some (.Lf ⟨l.b,n.own.l⟩ l.JM l.b n.own.l) }) { N5.pt with ZB:=pn } k5.ZX N5.ZG ((Y0 N5.ZG.2 N5.pt.store.len).ZB (WM 91 [ka,h.size+1,g1.size]) rfl);unfold WM at w6;simp only[List.map]at w6;unfold Zp at q4 q4' w6;simp -implicitDefEqProofs only[go_sem,↓reduceIte,f8,e2,f4,f6,f9,fT,q4,qT,w4,Li,q4',w6,PB];have K6:Kp (fun t=>t=.world∨t=.Zn∨t=.node i) o h o g6:=((ZF K4).trans (k5.mono fun t q=>.inr (.inr q))).trans (k6.mono fun t q=>.inr (.inr q));exact⟨o,_,YO,K6,N6,(W4.Zd k5 (by rintro t rfl;simp[Tg.of])).Zd k6 (by rintro t rfl;simp[Tg.of])⟩
def Zad (B:Nat) (g':Hp) (A:Value) (p:YN) (l:List Vt) (x:Vt):Prop:=
 ∃ka w,A=.pointer (some ⟨ka,0,none⟩)∧B≤ka∧g'[ka]? = some (.cells (YT (if YQ p l x=0 then x.b else ⟨0,0⟩) w).toArray 81)∧Jn B 109 Zo 8 g' w (if YQ p l x=0 then JP l x else [])
set_option maxHeartbeats 1000000 in
theorem qO (T:World) (h:Hp) (o:Ow) (wb i nb:Nat) (Yb:Nat→Nat) (a:NA) (n:Nd) (YO:WA) (fl:List Xj) (bad:Nat→Int) (told:List Rr) (l:Xj) (w:Value) (d:UE o h)
  (N:ZM o h wb i nb a n) (W:ZH o h wb Yb YO fl bad told) (iv:Wz o h w l.vs) (Ys:fl.length≤1000000000000) (qh:n.own.l.length≤1000000) (lj:n.data.length≤1000000) (tb:BA o h) :
  Zc Tryz.prog T 66 #[Zp wb,Zp nb,.agg (Y7 l w).toArray] h fun v' h'=>∃o' a' XA,Kp (fun t=>t=.world∨t=.Zn∨t=.node i) o h o' h'∧ZM o' h' wb i nb a' (asked n l).n∧ZH o' h' wb Yb XA (fl++(asked n l).ls) bad told:=by
 obtain⟨pw,cw,rfl⟩:=iv.isSlice;refine Zc.Zk (args:=[_,_,_]) Tryz.func66 rfl rfl rfl rfl ?_;unfold Zp Y7;simp -implicitDefEqProofs only[go_sem,↓reduceIte];obtain⟨h1,YK⟩:=Zx (((h.push (.cells [Zp wb].toArray 67)).push (.cells [Zp nb].toArray 74)).push (.cells (Y7 l (.slice pw l.vs.length cw)).toArray 111):Hp);have k1:Kp QM o h o h1:=by rw[YK];exact ((Kp.refl d _).push _ |>.push _).push _
 have s1:h1.size=h.size+3:=by rw[YK];simp
 have d1:∀b,h.size≤b→o b=none:=d;have x3:ZR o h1 h.size (.cells [Zp wb].toArray 67):=⟨d _ (by omega),by rw[YK,Zt (by simp;omega),jD]⟩
 have x4:ZR o h1 (h.size+1) (.cells [Zp nb].toArray 74):=⟨d _ (by omega),by rw[YK,Zt (by simp),lD]⟩
 have x5:ZR o h1 (h.size+2) (.cells (Y7 l (.slice pw l.vs.length cw)).toArray 111):=⟨d _ (by omega),by
  have:=Zb (h:=(h.push (.cells [Zp wb].toArray 67)).push (.cells [Zp nb].toArray 74)) (o:=.cells (Y7 l (.slice pw l.vs.length cw)).toArray 111);rw[YK];simpa using this⟩
 have e0:((h.push (.cells [Zp wb].toArray 67)).push (.cells [Zp nb].toArray 74)).push (.cells (Y7 l (.slice pw l.vs.length cw)).toArray 111)=h1:=YK.symm;unfold Zp Y7 at e0;rw[e0];clear e0 YK;have N1:=N.still k1;have W1:=W.still k1;have xq:=iv.Zd k1;have R1:=ZA N1.ZG.2 N1.pt.store.len;have JZ:=Za N1.ZG.2;have l3:=Za x3.2;have l4:=Za x4.2;have l5:=Za x5.2;have r3:hc h1 ⟨h.size,0,none⟩=some (Zp wb):=Zh x3.2;have r4:hc h1 ⟨h.size+1,0,none⟩=some (Zp nb):=Zh x4.2;have r53:rd h1 ⟨h.size+2,5,none⟩ 8=some (Zo l.v):=by rw[Z9 x5.2 (by simp[Y7])];rfl
 have r51:hc h1 ⟨h.size+2,1,none⟩=some (.int .i64 l.JM):=Zh x5.2;unfold Zp at r3 r4;have Iu:=R1.own;obtain⟨pv,cv,lF⟩:=N1.pt.YP.isSlice;rw[lF]at Iu;unfold Zo at r53;have call:∀G,Zf h1.size h1 G→Zc Tryz.prog T 76 #[.agg #[.int .i64 n.own.p.r,.int .i64 n.own.p.n,.slice pv n.own.l.length cv],.agg (Zo l.v).toArray] G fun v' h'=>eJ G.size h' v' n.own.p n.own.l l.v∧Zf G.size G h':=fun G hG=>
  NS T G n.own.p _ n.own.l l.v (by rw[←lF];exact N1.pt.YP.ts.Z2 hG) (by omega)
 unfold Zo at call;obtain⟨E,hE⟩:=Zx (YQ n.own.p n.own.l l.v);have wA:∀(G:Hp) (k:Nat) (r m:Int) (p:Option Addr) (L c:Nat),G[k]? = some (.cells [.int .i64 0,.int .i64 0,.slice none 0 0].toArray 81)→wr G ⟨k,0,none⟩ [.int .i64 r,.int .i64 m,.slice p L c]=some (G.setIfInBounds k (.cells [.int .i64 r,.int .i64 m,.slice p L c].toArray 81)):=fun G k r m p L c hx=>by
  rw[ZU hx 0 _];rfl
 refine VS.mono (N:=fun F' g'=>Zf h1.size h1 g'∧F' 3=.pointer (some ⟨h.size,0,none⟩)∧F' 4=.pointer (some ⟨h.size+1,0,none⟩)∧F' 5=.pointer (some ⟨h.size+2,0,none⟩)∧F' 7=.int .i64 E∧Zad h1.size g' (F' 6) n.own.p n.own.l l.v) ?_ ?_ (fun _ _ _ h=>h) (fun _ _ h=>h)
 ·refine VS.z (h1.size) [6,11] (.q 0 (.p 1 (.p 2 (.q 3 (.p 4 (.q 5 (.or 6 (.p 7 (.p 8 (.p 9 (.s 10 (.w 11 (.p 12 .nil)))))) (.s 10 (.w 6 (.p 7 (.p 8 (.p 9 (.w 11 (.p 12 .nil)))))))))))))) mixed (by kernel_rfl) ?_;simp -implicitDefEqProofs only[go_sem,↓reduceIte,r4,Iu,r53,JZ,l4,l5];unfold Zad YT
  repeat' (first|with_reducible exact Zf.refl _ _|with_reducible exact Zf.push (by omega) _|with_reducible refine And.intro ?_ ?_)
  all_goals first
   | (refine (call h1 (Zf.refl _ _)).use ?_
      rintro _ g5 ⟨⟨w1,rfl,o1⟩,b5⟩;obtain⟨p1,c1,rfl,_⟩:=o1.open;rw[←hE]at *;have s5:=b5.size;unfold YT;simp -implicitDefEqProofs only[go_sem,↓reduceIte,b5];exact⟨_,_,rfl,s5,Zb,o1.push _⟩)
   | (refine (call (h1.push (.cells _ 81)) (Zf.push (Nat.le_refl _) _)).use ?_
      rintro _ g5 ⟨⟨w1,rfl,o1⟩,b5⟩;obtain⟨p1,c1,rfl,_⟩:=o1.open;rw[←hE]at *;have B5:Zf h1.size h1 g5:=(Zf.push (Nat.le_refl _) _).trans (b5.mono (by simp));have xA:=b5.get (k:=h1.size) (by simp) Zb;have TZ:=wA _ _ (if E=0 then l.v.b else ⟨0,0⟩).r (if E=0 then l.v.b else ⟨0,0⟩).n p1 (if E=0 then JP n.own.l l.v else []).length c1 xA;have zA:=Za xA;unfold YT;simp -implicitDefEqProofs only[go_sem,↓reduceIte,B5,TZ,zA];exact⟨_,_,rfl,Nat.le_refl _,Zy xA,(o1.ZP (by simp) _).mono (by simp)⟩)
 ·rintro F1 g1 ⟨b1,f3,f4,f5,f8,ka,w1,fA,ge1,yA,o1⟩;rw[←hE]at yA o1;have kb:=ZE k1.ZX b1;have N2:=N1.still kb;have W2:=W1.still kb;have K2:Kp QM o h o g1:=k1.Z2 b1;have y3:=x3.Zd kb;have y4:=x4.Zd kb;have y5:=x5.Zd kb;have lq:=xq.Zd kb;have AS:=(tb.Zd k1).Zd kb;have R2:=ZA N2.ZG.2 N2.pt.store.len;have m3:=Za y3.2;have m4:=Za y4.2;have m5:=Za y5.2;have J9:=Za N2.ZG.2;have q3:hc g1 ⟨h.size,0,none⟩=some (Zp wb):=Zh y3.2;have q4:hc g1 ⟨h.size+1,0,none⟩=some (Zp nb):=Zh y4.2;have q51:hc g1 ⟨h.size+2,1,none⟩=some (.int .i64 l.JM):=Zh y5.2;unfold Zp at q3 q4;have R2p:=R2.Ct;by_cases e:E=0
  case neg=>
   have eP:asked n l=⟨n,[⟨7,n.me,l.JM,n.own.p,Tw,[]⟩],[]⟩:=by unfold asked;rw[←hE,if_pos e]
   rw[eP];simp -implicitDefEqProofs only[go_sem,↓reduceIte,f8,e];refine VS.z (g1.size) [10] (.q 0 (.q 1 (.p 2 (.q 3 (.q 4 (.p 5 (.p 6 (.p 7 (.q 8 (.p 9 (.w 10 .nil))))))))))) mixed (by kernel_rfl) ?_;simp -implicitDefEqProofs only[go_sem,↓reduceIte,f3,f4,f5,q3,q4,q51,R2p,m3,m4,m5,J9];refine (UY T g1 o wb nb Yb n.me YO fl bad told l.JM ⟨7,0,0,n.own.p,Tw,[]⟩ (.slice none 0 0) K2.ZX W2 R2.me J9 (Im.nil _ _ _ _) Ys).use ?_;rintro v' h' ⟨o',XA,k,_,W'⟩;simp -implicitDefEqProofs only[go_sem,↓reduceIte];exact⟨o',a,XA,(ZF K2).trans (k.mono fun t q=>q.elim .inl fun q=>.inr (.inl q)),N2.Zd k (by rintro t (rfl|rfl)<;>simp[Tg.of]),W'⟩
  rw[if_pos e]at yA o1;have iv6:Wz o g1 w1 (JP n.own.l l.v):=Im.Ue o1.own (fun b hb=>k1.ZX b hb);simp -implicitDefEqProofs only[go_sem,↓reduceIte,f8,e,f3,f4,f5];obtain⟨g2,QW⟩:=Zx (g1.push (.cells [WM 94 [h.size,h.size+1,h.size+2]].toArray 1):Hp);have k2:=ZY K2.ZX (.cells [WM 94 [h.size,h.size+1,h.size+2]].toArray 1);rw[←QW]at k2;have K3:Kp QM o h o g2:=K2.trans k2;have x9:ZR o g2 g1.size (.cells [WM 94 [h.size,h.size+1,h.size+2]].toArray 1):=⟨K2.ZX _ (Nat.le_refl _),by rw[QW];exact Zb⟩
  have e2:g1.push (.cells [WM 94 [h.size,h.size+1,h.size+2]].toArray 1)=g2:=QW.symm;unfold WM at e2;simp only[List.map]at e2;unfold Zp at e2;rw[e2];clear e2 QW;have N3:=N2.still k2;have W3:=W2.still k2;have z3:=y3.Zd k2;have z4:=y4.Zd k2;have z5:=y5.Zd k2;have z6:=(show ZR o g1 ka _ from⟨k1.ZX ka ge1,yA⟩).Zd k2;have iw6:=iv6.Zd k2;have tb3:=AS.Zd k2;clear R2 R2p m3 m4 m5 J9 q3 q4 q51 R1 Iu JZ l3 l4 l5 r3 r4 r53 r51;have R3:=ZA N3.ZG.2 N3.pt.store.len;have m3:=Za z3.2;have m4:=Za z4.2;have m5:=Za z5.2;have m9:=Za x9.2;have PA:=Za N3.ZG.2;have q4:hc g2 ⟨h.size+1,0,none⟩=some (Zp nb):=Zh z4.2;have fh:rd g2 ⟨h.size+2,5,none⟩ 8=some (Zo l.v):=by rw[Z9 z5.2 (by simp[Y7])];rfl
  have q9:hc g2 ⟨g1.size,0,none⟩=some (WM 94 [h.size,h.size+1,h.size+2]):=Zh x9.2;have R3v:=R3.YP;have N3v:=N3.pt.YP;unfold Zp at q4;unfold Zo at fh;refine VS.mono (N:=fun F' g'=>Zf g2.size g2 g'∧F' 3=.pointer (some ⟨h.size,0,none⟩)∧F' 4=.pointer (some ⟨h.size+1,0,none⟩)∧F' 5=.pointer (some ⟨h.size+2,0,none⟩)∧F' 6=.pointer (some ⟨ka,0,none⟩)∧F' 8=.pointer (some ⟨g1.size,0,none⟩)∧F' 41=.bool (decide (l.v∈n.own.l))) ?_ ?_ (fun _ _ _ h=>h) (fun _ _ h=>h)
  ·refine VS.z (g2.size) [7] (.q 0 (.p 1 (.p 2 (.p 3 (.q 4 (.p 5 (.q 6 (.w 7 .nil)))))))) mixed (by kernel_rfl) ?_;simp -implicitDefEqProofs only[go_sem,↓reduceIte,f3,f4,f5,fA,q4,fh,R3v,m4,m5,PA];have cv:=HC T g2 a.YP n.own.l l.v N3v.ts (by omega);unfold Zo at cv;refine cv.use ?_;rintro _ g5 ⟨rfl,b5⟩;simp -implicitDefEqProofs only[go_sem,↓reduceIte,b5,f3,f4,f5,fA]
  rintro F1' bB ⟨kW,f3,f4,f5,fA,f9,f41⟩;have Rs:=ZE K3.ZX kW
  replace N3:=N3.still Rs
  replace W3:=W3.still Rs
  replace K3:=K3.trans Rs
  replace z3:=z3.Zd Rs
  replace z4:=z4.Zd Rs
  replace z5:=z5.Zd Rs
  replace z6:=z6.Zd Rs
  replace iw6:=iw6.Zd Rs
  replace tb3:=tb3.Zd Rs
  replace x9:=x9.Zd Rs
  clear R3 m3 m4 m5 m9 PA q4 fh q9 R3v N3v;have R3:=ZA N3.ZG.2 N3.pt.store.len;have m3:=Za z3.2;have m4:=Za z4.2;have m5:=Za z5.2;have m9:=Za x9.2;have PA:=Za N3.ZG.2;have q4:hc bB ⟨h.size+1,0,none⟩=some (Zp nb):=Zh z4.2;have fh:rd bB ⟨h.size+2,5,none⟩ 8=some (Zo l.v):=by rw[Z9 z5.2 (by simp[Y7])];rfl
  have q9:hc bB ⟨g1.size,0,none⟩=some (WM 94 [h.size,h.size+1,h.size+2]):=Zh x9.2;unfold Zp at q4;by_cases ep:l.v∈n.own.l
  ·have eP:asked n l=⟨n,[⟨3,n.me,l.JM,JE,l.v,[]⟩],[]⟩:=by unfold asked;rw[←hE,if_neg (by omega),if_pos ep]
   rw[eP];unfold WM at q9;simp only[List.map]at q9;unfold Zp at q9;simp -implicitDefEqProofs only[go_sem,↓reduceIte,f41,ep,f9,q9];refine (fe T bB o wb nb Yb n.me YO fl bad told h.size (h.size+1) (h.size+2) l _ K3.ZX W3 R3.me PA Ys z3 z4 z5).use ?_;rintro v' h' ⟨o',XA,k,W'⟩;simp -implicitDefEqProofs only[go_sem,↓reduceIte];exact⟨o',a,XA,(ZF K3).trans (k.mono fun t q=>q.elim .inl fun q=>.inr (.inl q)),N3.Zd k (by rintro t (rfl|rfl)<;>simp[Tg.of]),W'⟩
  simp -implicitDefEqProofs only[go_sem,↓reduceIte,f41,ep];have qN:=R3.tape;obtain⟨pd,cd,O1⟩:=N3.pt.data.1.isSlice;rw[O1]at qN;obtain⟨E2,jE⟩:=Zx (Uc n.data n.Xg l.v);have call2:∀G,Zf bB.size bB G→Zc Tryz.prog T 96 #[.agg #[.slice pd n.data.length cd,.int .i64 n.Xg],.agg (Zo l.v).toArray] G fun v' h'=>TK G.size h' v' n.data n.Xg E2 (Yo (QJ l.v))∧Zf G.size G h':=fun G hG=>by
   rw[jE];exact qn T G _ n.Xg n.data l.v (by rw[←O1];exact N3.pt.data.bs.Z2 hG) (by omega) (tb3.tk.Je hG)
  have wT:∀(G:Hp) (k:Nat) (m:Int) (p:Option Addr) (L c:Nat),G[k]? = some (.cells [.slice none 0 0,.int .i64 0].toArray 76)→wr G ⟨k,0,none⟩ [.slice p L c,.int .i64 m]=some (G.setIfInBounds k (.cells [.slice p L c,.int .i64 m].toArray 76)):=fun G k m p L c hx=>by
   rw[ZU hx 0 _];rfl
  unfold Zo at fh call2;refine VS.mono (N:=fun F' g'=>Zf bB.size bB g'∧F' 3=.pointer (some ⟨h.size,0,none⟩)∧F' 4=.pointer (some ⟨h.size+1,0,none⟩)∧F' 5=.pointer (some ⟨h.size+2,0,none⟩)∧F' 6=.pointer (some ⟨ka,0,none⟩)∧F' 8=.pointer (some ⟨g1.size,0,none⟩)∧F' 7=.int .i64 E2∧GD bB.size g' (F' 9) n.data n.Xg E2 (Yo (QJ l.v))) ?_ ?_ (fun _ _ _ h=>h) (fun _ _ h=>h)
  ·refine VS.z (bB.size) [6,11] (.q 0 (.p 1 (.p 2 (.q 3 (.p 4 (.q 5 (.or 6 (.p 7 (.p 8 (.p 9 (.s 10 (.w 11 (.p 12 .nil)))))) (.s 10 (.w 6 (.p 7 (.p 8 (.p 9 (.w 11 (.p 12 .nil)))))))))))))) mixed (by kernel_rfl) ?_;simp -implicitDefEqProofs only[go_sem,↓reduceIte,f3,f4,f5,fA,f9,q4,qN,fh,m4,m5,PA];unfold GD
   repeat' (first|with_reducible exact Zf.refl _ _|with_reducible exact Zf.push (by omega) _|with_reducible refine And.intro ?_ ?_)
   all_goals first
    | (refine (call2 bB (Zf.refl _ _)).use ?_
       rintro _ g5 ⟨⟨w,rfl,o1⟩,b5⟩;obtain⟨p1,c1,rfl,_⟩:=o1.bs.open;have s5:=b5.size;simp -implicitDefEqProofs only[go_sem,↓reduceIte,b5];exact⟨f3,f4,f5,fA,f9,_,_,rfl,s5,Zb,o1.push _⟩)
    | (refine (call2 (bB.push (.cells _ 76)) (Zf.push (Nat.le_refl _) _)).use ?_
       rintro _ g5 ⟨⟨w,rfl,o1⟩,b5⟩;obtain⟨p1,c1,rfl,_⟩:=o1.bs.open;have B5:Zf bB.size bB g5:=(Zf.push (Nat.le_refl _) _).trans (b5.mono (by simp));have xA:=b5.get (k:=bB.size) (by simp) Zb;have TZ:=wT _ _ (if E2=0 then n.Xg else 0) p1 (if E2=0 then n.data++Yo (QJ l.v) else []).length c1 xA;have zA:=Za xA;simp -implicitDefEqProofs only[go_sem,↓reduceIte,B5,TZ,zA];exact⟨f3,f4,f5,fA,f9,_,_,rfl,Nat.le_refl _,Zy xA,(o1.ZP (by simp) _).mono (by simp)⟩)
  ·rintro F2 g3 ⟨b3,f3,f4,f5,f6,f9,f8,kt,wt,fT,ge3,yT,oT⟩;have WB:=ZE K3.ZX b3;have N4:=N3.still WB;have W4:=W3.still WB;have K4:Kp QM o h o g3:=K3.Z2 b3;by_cases e2:E2=0
   case neg=>
    have eP:asked n l=⟨n,[],[]⟩:=by unfold asked;rw[←hE,if_neg (by omega),if_neg ep,←jE,if_pos e2]
    rw[eP,List.append_nil];simp -implicitDefEqProofs only[go_sem,↓reduceIte,f8,e2];exact⟨o,a,YO,ZF K4,N4,W4⟩
   rw[if_pos e2]at yT oT;have u3:=z3.Zd WB;have u4:=z4.Zd WB;have u5:=z5.Zd WB;have u6:=z6.Zd WB;have u9:=x9.Zd WB;have iu6:=iw6.Zd WB;have iT:VC o g3 wt (n.data++Yo (QJ l.v)):=⟨Im.Ue oT.own (fun b hb=>K3.ZX b hb),oT.byte⟩
   have eP:asked n l=⟨{ n with data:=n.data++Yo (QJ l.v),ZB:=some (.MO ⟨l.v.b,JP n.own.l l.v⟩ l.JM l.v) },[],[]⟩:=by unfold asked;rw[←hE,if_neg (by omega),if_neg ep,←jE,if_neg (by omega)]
   rw[eP,List.append_nil];clear R3 m3 m4 m5 m9 PA q4 fh q9 qN;obtain⟨pt,ct,rfl,_⟩:=oT.bs.open;have q4:hc g3 ⟨h.size+1,0,none⟩=some (Zp nb):=Zh u4.2;have qT:rd g3 ⟨kt,0,none⟩ 2=some [.slice pt (n.data++Yo (QJ l.v)).length ct,.int .i64 n.Xg]:=Zq yT rfl;have Li:=Za N4.ZG.2;obtain⟨g4,w4,N5,k5⟩:=ZV.write (a:={ a with data:=.slice pt (n.data++Yo (QJ l.v)).length ct }) (n:={ n with data:=n.data++Yo (QJ l.v) }) { N4.pt with data:=iT } K4.ZX N4.ZG ((Y0 N4.ZG.2 N4.pt.store.len).tape (.slice pt (n.data++Yo (QJ l.v)).length ct) n.Xg rfl);have v4:=u4.Zd k5;have q4':hc g4 ⟨h.size+1,0,none⟩=some (Zp nb):=Zh v4.2;have PB:=Za N5.ZG.2;have pn:UD o g4 wb i nb a.Zj (WM 97 [ka,h.size+1,g1.size]) (some (.MO ⟨l.v.b,JP n.own.l l.v⟩ l.JM l.v)):=
    ⟨ka,h.size+1,g1.size,_,rfl,⟨_,u6.Zd k5,iu6.Zd k5⟩,v4,u9.Zd k5,h.size,h.size+1,h.size+2,l,_,rfl,u3.Zd k5,v4,u5.Zd k5,rfl,rfl⟩
   obtain⟨g6,w6,N6,k6⟩:=ZV.write (a:={ a with data:=.slice pt (n.data++Yo (QJ l.v)).length ct,ZB:=WM 97 [ka,h.size+1,g1.size] }) (n:={ n with data:=n.data++Yo (QJ l.v),ZB:=some (.MO ⟨l.v.b,JP n.own.l l.v⟩ l.JM l.v) }) { N5.pt with ZB:=pn } k5.ZX N5.ZG ((Y0 N5.ZG.2 N5.pt.store.len).ZB (WM 97 [ka,h.size+1,g1.size]) rfl);unfold WM at w6;simp only[List.map]at w6;unfold Zp at q4 q4' w6;simp -implicitDefEqProofs only[go_sem,↓reduceIte,f8,e2,f4,f6,f9,fT,q4,qT,w4,Li,q4',w6,PB];have K6:Kp (fun t=>t=.world∨t=.Zn∨t=.node i) o h o g6:=((ZF K4).trans (k5.mono fun t q=>.inr (.inr q))).trans (k6.mono fun t q=>.inr (.inr q));exact⟨o,_,YO,K6,N6,(W4.Zd k5 (by rintro t rfl;simp[Tg.of])).Zd k6 (by rintro t rfl;simp[Tg.of])⟩
theorem Q3.Yv {o:Ow} {i:Nat} {h:Hp} {sv:List (Int × Nat)} {vt:List (Int × List (Int × Unit))} (s:Q3 o i h sv vt) (k:Int):(Go.V.Yv sv k=none∧Go.V.Yv vt k=none)∨∃b l,Go.V.Yv sv k=some b∧Go.V.Yv vt k=some l∧QG o (.TN i k) h b (Lh l):=by
 induction s with
 | nil=>exact .inl ⟨rfl,rfl⟩
 | @cons a b l m Ff _ ih=>
  obtain⟨a1,a2⟩:=a;obtain⟨b1,b2⟩:=b;obtain⟨rfl,h2⟩:=Ff;unfold Go.V.Yv;by_cases q:a1=k
  ·rw[if_pos q,if_pos q];subst q;exact .inr ⟨_,_,rfl,rfl,h2⟩
  ·rw[if_neg q,if_neg q];exact ih
theorem Q3.add {o:Ow} {i:Nat} {h:Hp} {k:Int} {b:Nat} {l:List (Int × Unit)} (hb:QG o (.TN i k) h b (Lh l)):∀{sv:List (Int × Nat)} {vt:List (Int × List (Int × Unit))},Q3 o i h sv vt→Go.V.Yv sv k=none→Q3 o i h (ins sv k b) (ins vt k l):=by
 intro sv vt s
 induction s with
 | nil=>intro _;exact .cons ⟨rfl,hb⟩ .nil
 | @cons a b l m Ff _ ih=>
  intro hn;obtain⟨a1,a2⟩:=a;obtain⟨b1,b2⟩:=b;obtain⟨rfl,h2⟩:=Ff;unfold Go.V.Yv at hn;split at hn
  ·cases hn
  ·rename_i q;unfold ins;rw[if_neg q,if_neg q];exact .cons ⟨rfl,h2⟩ (ih hn)
theorem Q3.put {o:Ow} {i:Nat} {h h':Hp} {k:Int} {b:Nat} {l':List (Int × Unit)} (kp:Kp (fun t=>t=.TN i k) o h o h') (hb:QG o (.TN i k) h' b (Lh l')):∀{sv:List (Int × Nat)} {vt:List (Int × List (Int × Unit))},Q3 o i h sv vt→(sv.map (·.1)).Nodup→Go.V.Yv sv k=some b→Q3 o i h' sv (ins vt k l'):=by
 intro sv vt s
 induction s with
 | nil=>intro _ h;cases h
 | @cons a c l m Ff tl ih=>
  intro hn hl;obtain⟨a1,a2⟩:=a;obtain⟨b1,b2⟩:=c;obtain⟨h1,h2⟩:=Ff;simp only at h1 h2;subst h1;simp only[List.map_cons,List.nodup_cons]at hn;unfold Go.V.Yv at hl;unfold ins;by_cases q:a1=k
  ·rw[if_pos q]at hl ⊢;subst q;obtain rfl:=Option.some.inj hl;refine .cons ⟨rfl,hb⟩ ?_;have key:∀{l:List (Int × Nat)} {m:List (Int × List (Int × Unit))},Q3 o i h l m→a1 ∉ l.map (·.1)→Q3 o i h' l m:=by
    intro l m s
    induction s with
    | nil=>intro _;exact .nil
    | @cons x y l m hxy _ ih2=>
     intro hn;simp only[List.map_cons,List.mem_cons,not_or]at hn;exact .cons ⟨hxy.1,hxy.2.Zd kp (by intro e;cases e;exact hn.1 hxy.1.symm)⟩ (ih2 hn.2)
   exact key tl hn.1
  ·rw[if_neg q]at hl ⊢;exact .cons ⟨rfl,h2.Zd kp (by intro e;cases e;exact q rfl)⟩ (ih hn.2 hl)
theorem CA {β:Type}:∀{l:List (Int × β)} {k:Int} {v:β},(l.map (·.1)).Nodup→((ins l k v).map (·.1)).Nodup∧∀x,x∈(ins l k v).map (·.1)→x=k∨x∈l.map (·.1):=by
 intro l
 induction l with
 | nil=>intro k v _;exact⟨by simp[ins],fun x hx=>by simp[ins]at hx;exact .inl hx⟩
 | cons a l ih=>
  intro k v hn;obtain⟨a1,a2⟩:=a;simp only[List.map_cons,List.nodup_cons]at hn;unfold ins;by_cases q:a1=k
  ·rw[if_pos q];exact⟨by simp only[List.map_cons,List.nodup_cons];exact hn,fun x hx=>.inr hx⟩
  ·rw[if_neg q];obtain⟨h1,h2⟩:=ih (k:=k) (v:=v) hn.2;refine⟨?_,fun x hx=>?_⟩
   ·simp only[List.map_cons,List.nodup_cons];exact⟨fun hm=>(h2 _ hm).elim q hn.1,h1⟩
   ·simp only[List.map_cons,List.mem_cons]at hx ⊢;rcases hx with hx|hx
    ·exact .inr (.inl hx)
    ·exact (h2 _ hx).elim .inl fun q=>.inr (.inr q)
theorem xr {β:Type}:∀(l:List (Int × β)) (k:Int) (u v:β),ins (ins l k u) k v=ins l k v:=by
 intro l
 induction l with
 | nil=>intro k u v;unfold ins;simp[ins]
 | cons a l ih=>
  intro k u v;obtain⟨a1,a2⟩:=a;have h1:∀(x:Int) (y z:β) (m:List (Int × β)),ins ((x,y) :: m) k z=if x=k then (x,z) :: m else (x,y) :: ins m k z:=fun _ _ _ _=>rfl
  rw[h1,h1];by_cases q:a1=k
  ·rw[if_pos q,if_pos q,h1,if_pos q]
  ·rw[if_neg q,if_neg q,h1,if_neg q,ih]
theorem YR.qP {o:Ow} {i:Nat} {h:Hp} {ra:RA} {r:JF} (s:YR o i h ra r) (d:UE o h) {k:Int} {b:Nat} {l l':List (Int × Unit)} (hl:Yv ra.sv k=some b) (hb:QG o (.TN i k) h b (Lh l)) :
  Kp (fun t=>t=.TN i k) o h o (h.setIfInBounds b (Xu (Lh l')))∧YR o i (h.setIfInBounds b (Xu (Lh l'))) ra { r with Xz:=ins r.Xz k l' }:=by
 have kk:Kp (fun t=>t=.TN i k) o h o (h.setIfInBounds b (Xu (Lh l'))):=(Kp.refl d (fun t=>t=.TN i k)).set hb.1 rfl _;exact⟨kk,s.ZG.Zd kk (by intro e;cases e),s.prom.Zd kk (by intro e;cases e),s.SD.Zd kk,s.prop.Zd kk (by intro e;cases e),s.Xz.Zd kk (by intro e;cases e),Q3.put kk ⟨hb.1,Zy hb.2⟩ s.Ti s.keys hl,s.keys⟩
def jF (i:Nat) (t:Tg):Prop:=QU i t∨XQ i t
set_option maxHeartbeats 1000000 in
theorem MW (T:World) (h:Hp) (o:Ow) (wb i nb:Nat) (Yb:Nat→Nat) (a:NA) (n:Nd) (YO:WA) (fl:List Xj) (bad:Nat→Int) (told:List Rr) (l:Xj) (w:Value) (d:UE o h)
  (N:ZM o h wb i nb a n) (W:ZH o h wb Yb YO fl bad told) (iv:Wz o h w l.vs) (hk:n.known.length≤100000000000) (hl:n.log.length≤100000000000) (ht:told.length≤100000000000) (hq:n.queue.length≤1000000000000) (hw:n.waiting.length≤1000000000000)
  (hv:∀r s,n.Zj=some r→((Yv r.Xz s).getD []).length≤1000000) :
  Zc Tryz.prog T 65 #[Zp wb,Zp nb,.agg (Y7 l w).toArray] h fun v' h'=>∃o' a' XA,Kp (jF i) o h o' h'∧ZM o' h' wb i nb a' (YE n l).n∧ZH o' h' wb Yb XA fl bad (told++(YE n l).ts):=by
 obtain⟨pw,cw,rfl⟩:=iv.isSlice;refine Zc.Zk (args:=[_,_,_]) Tryz.func65 rfl rfl rfl rfl ?_;unfold Zp Y7;have WD:=Za N.ZG.2;have R:=ZA N.ZG.2 N.pt.store.len;obtain⟨h1,YK⟩:=Zx (h.push (.cells (Y7 l (.slice pw l.vs.length cw)).toArray 111):Hp);have k1:Kp QM o h o h1:=by rw[YK];exact ZY d _
 have x5:ZR o h1 h.size (.cells (Y7 l (.slice pw l.vs.length cw)).toArray 111):=⟨d _ (Nat.le_refl _),by rw[YK];exact Zb⟩
 have e0:=YK.symm;unfold Y7 at e0;have N1:=N.still k1;have W1:=W.still k1;have xq:=iv.Zd k1;have R1:=ZA N1.ZG.2 N1.pt.store.len;have JZ:=Za N1.ZG.2;have m5:=Za x5.2;have q0:hc h1 ⟨h.size,0,none⟩=some (.int .i64 l.kind):=Zh x5.2;have q1:hc h1 ⟨h.size,1,none⟩=some (.int .i64 l.JM):=Zh x5.2;have q3:rd h1 ⟨h.size,3,none⟩ 2=some (Jr l.b):=by rw[Z9 x5.2 (by simp[Y7])];rfl
 have q5:hc h1 ⟨h.size,5,none⟩=some (.int .i64 l.v.slot):=Zh x5.2;have q6:rd h1 ⟨h.size,6,none⟩ 2=some (Jr l.v.b):=by rw[Z9 x5.2 (by simp[Y7])];rfl
 have q13:hc h1 ⟨h.size,13,none⟩=some (.slice pw l.vs.length cw):=Zh x5.2;have lG:=N1.pt.Zj;have tT:=R.Zj
 cases hr:n.Zj with
 | none=>
  cases xt:a.Zj with
  | some ra=>rw[hr,xt]at lG;exact lG.elim
  | none=>
   have eP:YE n l=⟨n,[],[]⟩:=by unfold YE;rw[hr]
   rw[xt]at tT;unfold Pz at tT;rw[eP,List.append_nil];simp -implicitDefEqProofs only[go_sem,↓reduceIte,tT];rw[e0];exact⟨o,a,YO,ZF k1,N1,W1⟩
 | some r=>
  cases xt:a.Zj with
  | none=>rw[hr,xt]at lG;exact lG.elim
  | some ra=>
   rw[hr,xt]at lG;have RG:YR o i h1 ra r:=lG;rw[xt]at tT;unfold Pz Zp at tT;have mrb:=Za RG.ZG.2;have rr0:rd h1 ⟨ra.rb,0,none⟩ 2=some (Jr r.b):=by rw[Z9 RG.ZG.2 (by simp[bt])];rfl
   have rr2:hc h1 ⟨ra.rb,2,none⟩=some (.map (some ra.pb)):=Zh RG.ZG.2;have rr5:hc h1 ⟨ra.rb,5,none⟩=some (.map (some ra.vb)):=Zh RG.ZG.2;by_cases c1:l.kind=1
   ·have c1b:=eq_true c1;simp -implicitDefEqProofs only[go_sem,↓reduceIte,tT,c1b];rw[e0];refine VS.q mixed (by kernel_rfl) ?_;simp -implicitDefEqProofs only[go_sem,↓reduceIte,q3,rr0];by_cases c2:l.b=r.b
    ·have eP:YE n l=⟨Zce n r l,[],[]⟩:=by unfold YE;rw[hr];simp only;rw[if_pos c1,if_pos c2]
     rw[eP,List.append_nil];have c2b:=eq_true c2;simp -implicitDefEqProofs only[go_sem,↓reduceIte,c2b];refine VS.z (h1.size) [8] (.p 0 (.p 1 (.p 2 (.q 3 (.p 4 (.q 5 (.p 6 (.q 7 (.w 8 .nil))))))))) mixed (by kernel_rfl) ?_;simp -implicitDefEqProofs only[go_sem,↓reduceIte,rr2,q1,q13,mrb,m5];rw[XZ MP RG.prom.2];simp -implicitDefEqProofs only[go_sem,↓reduceIte];obtain⟨k2,R2⟩:=RG.ff k1.ZX (k:=l.JM) xq;refine⟨o,{ a with Zj:=some { ra with pv:=ins ra.pv l.JM (.slice pw l.vs.length cw) } },YO,(ZF k1).trans (k2.mono fun t q=>.inr (.inr (.inl q))),⟨?_,?_⟩,W1.Zd k2 (by rintro t rfl;simp[Tg.of])⟩
     ·have:=N1.ZG.Zd k2 (by intro e;cases e);rw[←MV (some { r with prom:=ins r.prom l.JM l.vs }) xt (ra':={ ra with pv:=ins ra.pv l.JM (.slice pw l.vs.length cw) }) rfl]at this;exact this
     ·exact ZV.QH N1.pt (k2.mono fun t q=>.inr (.inl q)) xt rfl R2
    ·have eP:YE n l=⟨n,[],[]⟩:=by unfold YE;rw[hr];simp only;rw[if_pos c1,if_neg c2]
     rw[eP,List.append_nil];simp -implicitDefEqProofs only[go_sem,↓reduceIte,c2];exact⟨o,a,YO,ZF k1,N1,W1⟩
   ·simp -implicitDefEqProofs only[go_sem,↓reduceIte,tT,c1];rw[e0];refine VS.q mixed (by kernel_rfl) ?_;simp -implicitDefEqProofs only[go_sem,↓reduceIte,q6,rr0];by_cases c2:l.v.b=r.b
    case neg=>
     have eP:YE n l=⟨n,[],[]⟩:=by unfold YE;rw[hr];simp only;rw[if_neg c1,if_pos c2]
     rw[eP,List.append_nil];simp -implicitDefEqProofs only[go_sem,↓reduceIte,c2];exact⟨o,a,YO,ZF k1,N1,W1⟩
    have eP:YE n l=if 5<2*(Wr r l).length then Wq (Lg n r l) l.v.slot l.v.cm else ⟨Lg n r l,[],[]⟩:=by unfold YE;rw[hr];simp only;rw[if_neg c1,if_neg (fun q=>q c2)]
    rw[eP];have hvr:=hv r l.v.slot hr;have c2b:=eq_true c2;have lk:=fun (K:Value→Hp→Prop)=>Yz (K:=K) (n:=l.v.slot) (c:=false) Ik Gx RG.Xz.2;rw[Xt]at lk;obtain⟨S,hS⟩:=Zx ((Yv r.Xz l.v.slot).getD []);have hlen:S.length≤1000000:=by rw[hS];exact hvr
    have NA1:ZM o h1 wb i nb { a with Zj:=some ra } { n with Zj:=some r }:=by
     have e1:({ a with Zj:=some ra }:NA)=a:=by rw[←xt]
     have e2:({ n with Zj:=some r }:Nd)=n:=by rw[←hr]
     rw[e1,e2];exact N1
    have KG:Kp (jF i) o h o h1:=ZF k1;have xu:=tT;rcases RG.Ti.Yv l.v.slot with⟨e1,e2⟩|⟨sb,S',e1,e2,zE⟩
    ·have hS0:S=[]:=by rw[hS,e2];rfl
     rw[e1]at lk;simp only[Option.map_none,Option.getD_none,Bool.false_eq_true,if_false]at lk
     -- PK new set
     obtain⟨h2,Uz⟩:=Zx (h1.push (Xu []):Hp);have eh2:h1.push (.map #[] 0)=h2:=Uz.symm;have k2a:Kp (XQ i) o h1 (JO o h1.size (.TN i l.v.slot)) h2:=by
      rw[Uz];exact ((Kp.refl k1.ZX _).push _).Sj (Nat.le_refl _) (by simp) (.inr (.inr (.inr (.inr ⟨_,rfl⟩))))
     have kx:Kp QM o h1 o h2:=by rw[Uz];exact ZY k1.ZX _
     have RGx:=RG.Zd kx (fun _ _ q=>q);have lo:∀b,b<h1.size→JO o h1.size (.TN i l.v.slot) b=o b:=fun b hb=>Xe (by omega);obtain⟨o2,tM⟩:=Zx (JO o h1.size (.TN i l.v.slot));rw[←tM]at k2a lo;have xw:YR o2 i h2 ra r:=by
      have lt:∀{b:Nat} {x:Obj},h1[b]? = some x→b<h1.size:=Za;refine⟨⟨(lo _ (Za RG.ZG.2)).trans RG.ZG.1,RGx.ZG.2⟩,⟨(lo _ (Za RG.prom.2)).trans RG.prom.1,RGx.prom.2⟩,RG.SD.Zd k2a,⟨(lo _ (Za RG.prop.2)).trans RG.prop.1,RGx.prop.2⟩,⟨(lo _ (Za RG.Xz.2)).trans RG.Xz.1,RGx.Xz.2⟩,?_,RG.keys⟩;have key:∀{sv:List (Int × Nat)} {vt:List (Int × List (Int × Unit))},Q3 o i h1 sv vt→Q3 o2 i h2 sv vt:=by
       intro sv vt s
       induction s with
       | nil=>exact .nil
       | cons x _ ih=>exact .cons ⟨x.1,⟨(lo _ (Za x.2.2)).trans x.2.1,(x.2.Zd kx id).2⟩⟩ ih
      exact key RG.Ti
     have ms:QG o2 (.TN i l.v.slot) h2 h1.size (Lh []):=⟨by rw[tM];exact Y9,by rw[Uz];exact Zb⟩
     have ZCg:ra.rb<h2.size:=by have:=kx.size;omega
     simp -implicitDefEqProofs only[go_sem,↓reduceIte,tT,c2b,q5,rr5,lk,tP];rw[eh2,XZ Ik xw.Xz.2];obtain⟨G,hG⟩:=Zx (h2.setIfInBounds ra.vb (Xu (ins (UJ tP ra.sv) l.v.slot (.map (some h1.size)))));rw[←hG];obtain⟨jr,Zco⟩:∃jr:RA,jr = { ra with sv:=ins ra.sv l.v.slot h1.size }:=⟨_,rfl⟩
     have kk:Kp (fun t=>t=.Xz i) o2 h2 o2 G:=by rw[hG];exact (Kp.refl k2a.ZX (fun t=>t=.Xz i)).set xw.Xz.1 rfl _
     have RGG:YR o2 i G jr { r with Xz:=ins r.Xz l.v.slot [] }:=by
      rw[Zco];refine⟨xw.ZG.Zd kk (by intro e;cases e),xw.prom.Zd kk (by intro e;cases e),xw.SD.Zd kk,xw.prop.Zd kk (by intro e;cases e),⟨xw.Xz.1,?_⟩,(Q3.add ms xw.Ti e1).Zd kk (fun _ e=>by cases e),(CA RG.keys).1⟩;show G[ra.vb]? = some (Xu (UJ tP (ins ra.sv l.v.slot h1.size)));rw[hG,Zy xw.Xz.2,Sh];rfl
     have k2b:Kp (XQ i) o h1 o2 G:=k2a.trans (kk.mono fun t q=>.inr (.inr (.inr (.inl q))));have CD:jr.rb=ra.rb:=by rw[Zco]
     have NG:ZM o2 G wb i nb { a with Zj:=some jr } { n with Zj:=some { r with Xz:=ins r.Xz l.v.slot [] } }:=by
      refine⟨?_,ZV.QH NA1.pt k2b rfl CD RGG⟩;have:=NA1.ZG.Zd k2b (by rintro (q|q|q|q|⟨_,q⟩)<;>cases q);rw[show Xp { n with Zj:=some { r with Xz:=ins r.Xz l.v.slot [] } } { a with Zj:=some jr } = Xp { n with Zj:=some r } { a with Zj:=some ra } from by unfold Xp UN Pz;simp only[CD]];exact this
     have WG:=W1.Zd k2b (by intro t q;rw[NW q];simp);have XG:=x5.Zd k2b;have KG2:Kp (jF i) o h o2 G:=(ZF k1).trans (k2b.mono fun t q=>.inr q);have LKS:Yv jr.sv l.v.slot=some h1.size:=by rw[Zco];simp[JK]
     have SB:QG o2 (.TN i l.v.slot) G h1.size (Lh S):=by rw[hS0];exact ms.Zd kk (by intro e;cases e)
     have Q5:hc G ⟨h.size,5,none⟩=some (.int .i64 l.v.slot):=Zh XG.2;have Q1:hc G ⟨h.size,1,none⟩=some (.int .i64 l.JM):=Zh XG.2;have RR5:hc G ⟨ra.rb,5,none⟩=some (.map (some jr.vb)):=by rw[←CD];exact Zh RGG.ZG.2
     have MRB:ra.rb<G.size:=by rw[←CD];exact Za RGG.ZG.2
     have M5:=Za XG.2;have LK:=fun (K:Value→Hp→Prop)=>Yz (K:=K) (n:=l.v.slot) (c:=false) Ik Gx RGG.Xz.2;rw[Xt]at LK;simp only[LKS,Option.map_some,Option.getD_some,Bool.false_eq_true,if_false,tP]at LK;simp -implicitDefEqProofs only[go_sem,↓reduceIte];refine VS.z (G.size) [9] (.p 0 (.p 1 (.p 2 (.q 3 (.p 4 (.p 6 (.q 7 (.p 8 (.s 5 (.w 9 .nil)))))))))) mixed (by kernel_rfl) ?_;simp -implicitDefEqProofs only[go_sem,↓reduceIte,xu,c2b,Q5,Q1,RR5,LK,MRB,M5];rw[XZ Gw SB.2];obtain⟨k2,xx⟩:=RGG.qP KG2.ZX (l':=ins S l.JM ()) LKS SB;rw[show Xu (ins (Lh S) l.JM (.agg #[]))=Xu (Lh (ins S l.JM ())) from by unfold Lh;rw[Sh]];obtain⟨g2,QW⟩:=Zx (G.setIfInBounds h1.size (Xu (Lh (ins S l.JM ()))));rw[←QW]at k2 xx ⊢;have eV:({ r with Xz:=ins r.Xz l.v.slot (Wr r l) }:JF) = { ({ r with Xz:=ins r.Xz l.v.slot [] }:JF) with Xz:=ins (ins r.Xz l.v.slot []) l.v.slot (ins S l.JM ()) }:=by unfold Wr;rw[hS,xr]
     have K2:Kp (jF i) o2 G o2 g2:=k2.mono fun t q=>.inr (.inr (.inr (.inr (.inr ⟨_,q⟩))));have N2:ZM o2 g2 wb i nb { a with Zj:=some jr } (Lg n r l):=by
      refine⟨?_,?_⟩
      ·have:=NG.ZG.Zd k2 (by intro e;cases e);exact this
      ·have:=ZV.QH NG.pt (k2.mono fun t q=>.inr (.inr (.inr (.inr ⟨_,q⟩)))) rfl rfl xx;unfold Lg;rw[eV];exact this
     have W2:=WG.Zd k2 (by rintro t rfl;simp[Tg.of]);have x2:=XG.Zd k2;have p0:rd g2 ⟨h.size,8,none⟩ 5=some l.v.cm.C:=by rw[Z9 x2.2 (by simp[Y7])];rfl
     have p5:hc g2 ⟨jr.rb,5,none⟩=some (.map (some jr.vb)):=Zh xx.ZG.2;rw[CD]at p5;have p6:=fun (K:Value→Hp→Prop)=>Yz (K:=K) (n:=l.v.slot) (c:=false) Ik Gx xx.Xz.2;rw[Xt]at p6;simp only[LKS,Option.map_some,Option.getD_some,Bool.false_eq_true,if_false]at p6;have SB2:QG o2 (.TN i l.v.slot) g2 h1.size (Lh (ins S l.JM ())):=⟨SB.1,by rw[QW];exact Zy SB.2⟩
     have p7:=fun (K:Value→Hp→Prop) (cs:Array Bool) (ty:TypeId)=>TB (T:=T) (K:=K) (ty:=ty) (cs:=cs) Gw SB2.2;have p8:(Lh (ins S l.JM ())).length=(Wr r l).length:=by unfold Lh Wr;rw[Mo,hS]
     rw[p8]at p7;simp -implicitDefEqProofs only[go_sem,↓reduceIte,xu,c2b,p5,p6,p7,tP];refine (LG T g2 (Wr r l).length (by unfold Wr;rw[←hS,Pc];split<;>omega)).use ?_;rintro _ _ ⟨rfl,rfl⟩;by_cases c3:5<2*(Wr r l).length
     ·rw[if_pos c3];simp -implicitDefEqProofs only[go_sem,↓reduceIte,c3,p0];refine (Is T _ o2 wb i nb Yb _ _ YO fl bad told l.v.slot l.v.cm k2.ZX N2 W2 hk hl ht hq hw).use ?_;rintro v' h' ⟨o',a',XA,kl,N',W'⟩;simp -implicitDefEqProofs only[go_sem,↓reduceIte];exact⟨o',a',XA,(KG2.trans K2).trans (kl.mono fun t q=>.inl q),N',W'⟩
     ·rw[if_neg c3,List.append_nil];simp -implicitDefEqProofs only[go_sem,↓reduceIte,c3];exact⟨o2,_,YO,KG2.trans K2,N2,W2⟩
    ·have hS0:S=S':=by rw[hS,e2];rfl
     subst hS0;rw[e1]at lk;simp only[Option.map_some,Option.getD_some,Bool.false_eq_true,if_false]at lk;simp -implicitDefEqProofs only[go_sem,↓reduceIte,c2b,q5,rr5,lk,tP,tT];have VF:=fun (K:Value→Hp→Prop)=>Yz (K:=K) (n:=l.v.slot) (c:=false) Ik Gx RG.Xz.2;rw[Xt]at VF;simp only[e1,Option.map_some,Option.getD_some,Bool.false_eq_true,if_false,tP]at VF;refine VS.z (h1.size) [9] (.p 0 (.p 1 (.p 2 (.q 3 (.p 4 (.p 6 (.q 7 (.p 8 (.s 5 (.w 9 .nil)))))))))) mixed (by kernel_rfl) ?_;simp -implicitDefEqProofs only[go_sem,↓reduceIte,xu,c2b,q5,q1,rr5,VF,mrb,m5];rw[XZ Gw zE.2];obtain⟨k2,xx⟩:=RG.qP KG.ZX (l':=ins S l.JM ()) e1 zE;rw[show Xu (ins (Lh S) l.JM (.agg #[]))=Xu (Lh (ins S l.JM ())) from by unfold Lh;rw[Sh]];obtain⟨g2,QW⟩:=Zx (h1.setIfInBounds sb (Xu (Lh (ins S l.JM ()))));rw[←QW]at k2 xx ⊢;have eV:({ r with Xz:=ins r.Xz l.v.slot (Wr r l) }:JF) = { r with Xz:=ins r.Xz l.v.slot (ins S l.JM ()) }:=by unfold Wr;rw[hS]
     have K2:Kp (jF i) o h1 o g2:=k2.mono fun t q=>.inr (.inr (.inr (.inr (.inr ⟨_,q⟩))));have N2:ZM o g2 wb i nb { a with Zj:=some ra } (Lg n r l):=by
      refine⟨?_,?_⟩
      ·have:=NA1.ZG.Zd k2 (by intro e;cases e);exact this
      ·have:=ZV.QH NA1.pt (k2.mono fun t q=>.inr (.inr (.inr (.inr ⟨_,q⟩)))) rfl rfl xx;unfold Lg;rw[eV];exact this
     have W2:=W1.Zd k2 (by rintro t rfl;simp[Tg.of]);have x2:=x5.Zd k2;have p0:rd g2 ⟨h.size,8,none⟩ 5=some l.v.cm.C:=by rw[Z9 x2.2 (by simp[Y7])];rfl
     have p5:hc g2 ⟨ra.rb,5,none⟩=some (.map (some ra.vb)):=Zh xx.ZG.2;have p6:=fun (K:Value→Hp→Prop)=>Yz (K:=K) (n:=l.v.slot) (c:=false) Ik Gx xx.Xz.2;rw[Xt]at p6;simp only[e1,Option.map_some,Option.getD_some,Bool.false_eq_true,if_false]at p6;have SB2:QG o (.TN i l.v.slot) g2 sb (Lh (ins S l.JM ())):=⟨zE.1,by rw[QW];exact Zy zE.2⟩
     have p7:=fun (K:Value→Hp→Prop) (cs:Array Bool) (ty:TypeId)=>TB (T:=T) (K:=K) (ty:=ty) (cs:=cs) Gw SB2.2;have p8:(Lh (ins S l.JM ())).length=(Wr r l).length:=by unfold Lh Wr;rw[Mo,hS]
     rw[p8]at p7;simp -implicitDefEqProofs only[go_sem,↓reduceIte,xu,c2b,p5,p6,p7,tP];refine (LG T g2 (Wr r l).length (by unfold Wr;rw[←hS,Pc];split<;>omega)).use ?_;rintro _ _ ⟨rfl,rfl⟩;by_cases c3:5<2*(Wr r l).length
     ·rw[if_pos c3];simp -implicitDefEqProofs only[go_sem,↓reduceIte,c3,p0];refine (Is T _ o wb i nb Yb _ _ YO fl bad told l.v.slot l.v.cm k2.ZX N2 W2 hk hl ht hq hw).use ?_;rintro v' h' ⟨o',a',XA,kl,N',W'⟩;simp -implicitDefEqProofs only[go_sem,↓reduceIte];exact⟨o',a',XA,(KG.trans K2).trans (kl.mono fun t q=>.inl q),N',W'⟩
     ·rw[if_neg c3,List.append_nil];simp -implicitDefEqProofs only[go_sem,↓reduceIte,c3];exact⟨o,_,YO,KG.trans K2,N2,W2⟩
def XL (i:Nat) (t:Tg):Prop:=t=.world∨t=.Zn∨t=.told∨t.of=some i
theorem Iv {i:Nat} {t:Tg} (h:QU i t):XL i t:=by
 rcases h with rfl|rfl|rfl|rfl|rfl|rfl|rfl<;>simp[XL,Tg.of]
theorem CE {i:Nat} {t:Tg} (h:jF i t):XL i t:=h.elim Iv fun q=>.inr (.inr (.inr (NW q)))
theorem CF (T:World) (h:Hp) (o:Ow) (wb i nb:Nat) (a:NA) (n:Nd) (l:Xj) (w:Value) (d:UE o h) (N:ZM o h wb i nb a n) (iv:Wz o h w l.vs) :
  Zc Tryz.prog T 70 #[Zp wb,Zp nb,.agg (Y7 l w).toArray] h fun v' h'=>Kp (fun t=>t=.node i) o h o h'∧ZM o h' wb i nb a (notes n l):=by
 obtain⟨pw,cw,rfl⟩:=iv.isSlice;refine Zc.Zk (args:=[_,_,_]) Tryz.func70 rfl rfl rfl rfl ?_;unfold Zp Y7;have e0:∃h1:Hp,h1=h.push (.cells (Y7 l (.slice pw l.vs.length cw)).toArray 111):=⟨_,rfl⟩
 obtain⟨h1,YK⟩:=e0;have k1:Kp QM o h o h1:=by rw[YK];exact ZY d _
 have x5:ZR o h1 h.size (.cells (Y7 l (.slice pw l.vs.length cw)).toArray 111):=⟨d _ (Nat.le_refl _),by rw[YK];exact Zb⟩
 have e0:=YK.symm;unfold Y7 at e0;have N1:=N.still k1;have R1:=ZA N1.ZG.2 N1.pt.store.len;have JZ:=Za N1.ZG.2;have m5:=Za x5.2;have q3:rd h1 ⟨h.size,3,none⟩ 2=some (Jr l.b):=by rw[Z9 x5.2 (by simp[Y7])];rfl
 have r7:rd h1 ⟨nb,7,none⟩ 2=some (Jr n.heard):=R1.heard;simp -implicitDefEqProofs only[go_sem,↓reduceIte];rw[e0];refine VS.mono (N:=fun F' g'=>Zf h1.size h1 g'∧F' 1=.pointer (some ⟨nb,0,none⟩)∧F' 5=.pointer (some ⟨h.size,0,none⟩)∧F' 12=.bool (decide (below n.heard l.b))) ?_ ?_ (fun _ _ _ h=>h) (fun _ _ h=>h)
 ·refine VS.z (h1.size) [6] (.p 0 (.q 1 (.p 2 (.p 3 (.p 4 (.q 5 (.w 6 .nil))))))) mixed (by kernel_rfl) ?_;simp -implicitDefEqProofs only[go_sem,↓reduceIte,q3,r7,JZ,m5];refine (OY T h1 l.b n.heard).use ?_;rintro _ g ⟨rfl,b⟩;simp -implicitDefEqProofs only[go_sem,↓reduceIte,b]
 ·rintro F' g ⟨b,f1,f5,f12⟩;have kb:=ZE k1.ZX b;have N2:=N1.still kb;have K2:=k1.trans kb;by_cases c:below n.heard l.b
  ·have e:notes n l = { n with heard:=l.b }:=by unfold notes;rw[if_pos c]
   rw[e];obtain⟨g2,w2,N3,k3⟩:=ZV.write (n:={ n with heard:=l.b }) (a:=a) { N2.pt with } K2.ZX N2.ZG ((Y0 N2.ZG.2 N2.pt.store.len).heard l.b.r l.b.n);have p3:rd g ⟨h.size,3,none⟩ 2=some [.int .i64 l.b.r,.int .i64 l.b.n]:=by rw[Z9 (x5.Zd kb).2 (by simp[Y7])];rfl
   have J9:=Za N2.ZG.2;simp -implicitDefEqProofs only[go_sem,↓reduceIte,f1,f5,f12,c,p3,w2,J9];exact⟨(ZF K2).trans k3,N3⟩
  ·have e:notes n l=n:=by unfold notes;rw[if_neg c]
   rw[e];simp -implicitDefEqProofs only[go_sem,↓reduceIte,f12,c];exact⟨ZF K2,N2⟩
theorem jG (T:World) (h:Hp) (o:Ow) (wb i nb:Nat) (Yb:Nat→Nat) (a:NA) (n:Nd) (YO:WA) (fl:List Xj) (bad:Nat→Int) (told:List Rr) (l:Xj) (w:Value) (d:UE o h)
  (N:ZM o h wb i nb a n) (W:ZH o h wb Yb YO fl bad told) (iv:Wz o h w l.vs) (hk:n.known.length≤100000000000) (hl:n.log.length≤100000000000) (ht:told.length≤100000000000) (hq:n.queue.length≤1000000000000) (hw:n.waiting.length≤1000000000000) :
  Zc Tryz.prog T 69 #[Zp wb,Zp nb,.agg (Y7 l w).toArray] h fun v' h'=>∃o' a' XA,Kp (QU i) o h o' h'∧ZM o' h' wb i nb a' (Wq n l.v.slot l.v.cm).n∧ZH o' h' wb Yb XA fl bad (told++(Wq n l.v.slot l.v.cm).ts):=by
 obtain⟨pw,cw,rfl⟩:=iv.isSlice;refine Zc.Zk (args:=[_,_,_]) Tryz.func69 rfl rfl rfl rfl ?_;unfold Zp Y7;obtain⟨h1,YK⟩:=Zx (h.push (.cells (Y7 l (.slice pw l.vs.length cw)).toArray 111):Hp);have k1:Kp QM o h o h1:=by rw[YK];exact ZY d _
 have e0:=YK.symm;unfold Y7 at e0;simp -implicitDefEqProofs only[go_sem,↓reduceIte];rw[e0];refine (Is T h1 o wb i nb Yb a n YO fl bad told l.v.slot l.v.cm k1.ZX (N.still k1) (W.still k1) hk hl ht hq hw).use ?_;rintro v' h' ⟨o',a',XA,k,N',W'⟩;simp -implicitDefEqProofs only[go_sem,↓reduceIte];exact⟨o',a',XA,(ZF k1).trans k,N',W'⟩
theorem qQ (T:World) (h:Hp) (o:Ow) (wb i nb:Nat) (a:NA) (n:Nd) (l:Xj) (w:Value) (d:UE o h) (N:ZM o h wb i nb a n) (iv:Wz o h w l.vs) (hq:n.queue.length≤1000000000000) (hl:n.log.length≤1000000000000) :
  Zc Tryz.prog T 67 #[Zp wb,Zp nb,.agg (Y7 l w).toArray] h fun v' h'=>∃o' a',Kp (Zcj i) o h o' h'∧ZM o' h' wb i nb a' (add n l.v.cm):=by
 obtain⟨pw,cw,rfl⟩:=iv.isSlice;refine Zc.Zk (args:=[_,_,_]) Tryz.func67 rfl rfl rfl rfl ?_;unfold Zp Y7;obtain⟨h1,YK⟩:=Zx (h.push (.cells (Y7 l (.slice pw l.vs.length cw)).toArray 111):Hp);have k1:Kp QM o h o h1:=by rw[YK];exact ZY d _
 have e0:=YK.symm;unfold Y7 at e0;simp -implicitDefEqProofs only[go_sem,↓reduceIte];rw[e0];refine (qI T h1 o wb i nb a n l.v.cm k1.ZX (N.still k1) hq hl).use ?_;rintro v' h' ⟨o',a',k,N'⟩;simp -implicitDefEqProofs only[go_sem,↓reduceIte];exact⟨o',a',(ZF k1).trans k,N'⟩
theorem qS (T:World) (h:Hp) (o:Ow) (wb i nb:Nat) (Yb:Nat→Nat) (a:NA) (n:Nd) (YO:WA) (fl:List Xj) (bad:Nat→Int) (told:List Rr) (l:Xj) (w:Value) (d:UE o h)
  (N:ZM o h wb i nb a n) (W:ZH o h wb Yb YO fl bad told) (iv:Wz o h w l.vs) (Ys:fl.length≤1000000000000) :
  Zc Tryz.prog T 68 #[Zp wb,Zp nb,.agg (Y7 l w).toArray] h fun v' h'=>∃o' a' XA,Kp (fun t=>t=.world∨t=.Zn∨t=.node i) o h o' h'∧ZM o' h' wb i nb a' (Ws n l).n∧ZH o' h' wb Yb XA (fl++(Ws n l).ls) bad told:=by
 obtain⟨pw,cw,rfl⟩:=iv.isSlice;refine Zc.Zk (args:=[_,_,_]) Tryz.func68 rfl rfl rfl rfl ?_;unfold Zp Y7;obtain⟨h1,YK⟩:=Zx (h.push (.cells (Y7 l (.slice pw l.vs.length cw)).toArray 111):Hp);have k1:Kp QM o h o h1:=by rw[YK];exact ZY d _
 have x5:ZR o h1 h.size (.cells (Y7 l (.slice pw l.vs.length cw)).toArray 111):=⟨d _ (Nat.le_refl _),by rw[YK];exact Zb⟩
 have e0:=YK.symm;have cc:=CF T h1 o wb i nb a n l (.slice pw l.vs.length cw) k1.ZX (N.still k1) (iv.Zd k1);unfold Y7 at e0;unfold Y7 Zp at cc;simp -implicitDefEqProofs only[go_sem,↓reduceIte];rw[e0];refine cc.use ?_;rintro _ g ⟨k2,N2⟩;have W2:=(W.still k1).Zd k2 (by rintro t rfl;simp[Tg.of]);have y5:=x5.Zd k2;have R2:=ZA N2.ZG.2 N2.pt.store.len;have J9:=Za N2.ZG.2;have m5:=Za y5.2;have q5:hc g ⟨h.size,5,none⟩=some (.int .i64 l.v.slot):=Zh y5.2;have ek:(notes n l).known=n.known:=by unfold notes;split<;>rfl
 have eme:(notes n l).me=n.me:=by unfold notes;split<;>rfl
 have lk:=fun (K:Value→Hp→Prop)=>Yz (K:=K) (n:=l.v.slot) (c:=true) Th OU N2.pt.known.2;have VF:=fun (K:Value→Hp→Prop) (x:Obj)=>Yz (h:=g.push x) (K:=K) (n:=l.v.slot) (c:=true) Th OU ((Zt (Za N2.pt.known.2)).trans N2.pt.known.2);rw[Xt,ek]at lk;simp only[Xt,ek]at VF;have gp:∀x:Obj,(g.push x)[g.size]? = some x:=fun x=>Zb;simp -implicitDefEqProofs only[go_sem,↓reduceIte]
 cases hx:Yv n.known l.v.slot with
 | none=>
  have eP:Ws n l=⟨notes n l,[],[]⟩:=by unfold Ws;rw[hx]
  rw[eP,List.append_nil];rw[hx]at lk;simp only[hx,Option.map_none,Option.getD_none,Option.isSome_none,↓reduceIte]at lk VF;refine VS.mono (N:=fun F' g'=>Zf g.size g g'∧F' 7=.bool false) ?_ ?_ (fun _ _ _ h=>h) (fun _ _ h=>h)
  ·refine VS.z (g.size) [7,12] (.p 0 (.p 1 (.p 2 (.q 3 (.p 4 (.p 5 (.q 6 (.or 7 (.p 8 (.p 9 (.p 10 (.s 11 (.w 12 (.p 13 .nil)))))) (.s 11 (.w 7 (.p 8 (.p 9 (.p 10 (.w 12 (.p 13 .nil))))))))))))))) mixed (by kernel_rfl) ?_;simp -implicitDefEqProofs only[go_sem,↓reduceIte,R2.known,q5,J9,m5,lk,VF]
   repeat' (first|exact Zf.refl _ _|exact Zf.push (Nat.le_refl _) _|refine And.intro ?_ ?_)
  ·rintro F' g' ⟨b,f7⟩;simp -implicitDefEqProofs only[go_sem,↓reduceIte,f7];exact⟨o,a,YO,((ZF k1).trans (k2.mono fun t q=>.inr (.inr q))).Z2 b,N2.still (ZE k2.ZX b),W2.still (ZE k2.ZX b)⟩
 | some y=>
  have eP:Ws n l=⟨notes n l,[⟨6,n.me,l.JM,JE,T8 l.v.slot JE y,[]⟩],[]⟩:=by unfold Ws;rw[hx]
  rw[eP];rw[hx]at lk;simp only[hx,Option.map_some,Option.getD_some,Option.isSome_some,↓reduceIte]at lk VF;refine VS.mono (N:=fun F' g'=>Zf g.size g g'∧F' 0=.pointer (some ⟨wb,0,none⟩)∧F' 1=.pointer (some ⟨nb,0,none⟩)∧F' 5=.pointer (some ⟨h.size,0,none⟩)∧F' 7=.bool true∧F' 6=.pointer (some ⟨g.size,0,none⟩)∧g'[g.size]? = some (.cells y.C.toArray 47)) ?_ ?_ (fun _ _ _ h=>h) (fun _ _ h=>h)
  ·refine VS.z (g.size) [7,12] (.p 0 (.p 1 (.p 2 (.q 3 (.p 4 (.p 5 (.q 6 (.or 7 (.p 8 (.p 9 (.p 10 (.s 11 (.w 12 (.p 13 .nil)))))) (.s 11 (.w 7 (.p 8 (.p 9 (.p 10 (.w 12 (.p 13 .nil))))))))))))))) mixed (by kernel_rfl) ?_;simp -implicitDefEqProofs only[go_sem,↓reduceIte,R2.known,q5,J9,m5,lk,VF,Vi]
   repeat' (first|exact Zf.refl _ _|exact Zf.push (Nat.le_refl _) _|exact gp _|refine And.intro ?_ ?_)
  ·rintro F' g' ⟨b,f0,f1,f5,f7,f6,yy⟩;have kb:=ZE k2.ZX b;have N3:=N2.still kb;have W3:=W2.still kb;have z5:=y5.Zd kb;have R3:=ZA N3.ZG.2 N3.pt.store.len;have p1:hc g' ⟨h.size,1,none⟩=some (.int .i64 l.JM):=Zh z5.2;have p5:hc g' ⟨h.size,5,none⟩=some (.int .i64 l.v.slot):=Zh z5.2;have p6:rd g' ⟨g.size,0,none⟩ 5=some [.int .i64 y.k,.int .i64 y.c,.int .i64 y.s,.int .i64 y.n,.int .i64 y.v]:=Zq yy rfl;simp -implicitDefEqProofs only[go_sem,↓reduceIte,f0,f1,f5,f7,f6,p1,p5,p6];refine (UY T g' o wb nb Yb n.me YO fl bad told l.JM ⟨6,0,0,JE,T8 l.v.slot JE y,[]⟩ (.slice none 0 0) kb.ZX W3 (by rw[←eme];exact R3.me) (Za N3.ZG.2) (Im.nil _ _ _ _) Ys).use ?_;rintro v' h' ⟨o',XA,k,_,W'⟩;simp -implicitDefEqProofs only[go_sem,↓reduceIte];exact⟨o',a,XA,(((ZF k1).trans (k2.mono fun t q=>.inr (.inr q))).trans (ZF kb)).trans (k.mono fun t q=>q.elim .inl fun q=>.inr (.inl q)),N3.Zd k (by rintro t (rfl|rfl)<;>simp[Tg.of]),W'⟩
section
variable {K:Value→Hp→Prop} {X:Hp}
theorem GF {t e:TypeId} (ht:dA Tryz.prog t=some e) {b:Nat} (hb:b=X.size) {l:List (Int × Value)} {n:Int} {x:Value} :
  Mp Tryz.prog t (.map (some b)) (.int .i64 n) x K (X.push (Xu l))=K undef (X.push (Xu (ins l n x))):=by
 subst hb;rw[XZ ht Zb]
 congr 1
 apply Array.ext_getElem?;intro j;rw[Array.getElem?_setIfInBounds,Array.getElem?_push,Array.getElem?_push];by_cases hj:X.size=j
 ·subst hj;simp
 ·rw[if_neg hj,if_neg (fun e=>hj e.symm),if_neg (fun e=>hj e.symm)]
theorem bC {t e:TypeId} (ht:dA Tryz.prog t=some e) {b:Nat} (hb:b=X.size) {n:Int} {x:Value} :
  Mp Tryz.prog t (.map (some b)) (.int .i64 n) x K (X.push (.map #[] 0))=K undef (X.push (Xu [(n,x)])):=GF (l:=[]) ht hb
theorem bD {t e:TypeId} {z:Value} (ht:dA Tryz.prog t=some e) (hz:zm Tryz.prog e=some z) {b:Nat} (hb:b=X.size) {l:List (Int × Value)} {n:Int} {x:Value} (hx:Yv l n=some x) :
  Mn Tryz.prog t (.map (some b)) (.int .i64 n) false K (X.push (Xu l))=K x (X.push (Xu l)):=by
 subst hb;rw[Yz ht hz Zb,hx];rfl
end
theorem CG (n:Nd) (l:Xj):(Y6 n l).ts=[]:=by
 unfold Y6
 repeat' split
 all_goals rfl
theorem qU (n:Nd) (l:Xj):(asked n l).ts=[]:=by
 unfold asked
 repeat' split
 all_goals rfl
theorem qV (n:Nd) (l:Xj):(Ws n l).ts=[]:=by
 unfold Ws;split<;>rfl
theorem qW (n:Nd) (s:Int) (x:Cm):(Wq n s x).ls=[]:=rfl
theorem MX (n:Nd) (l:Xj):(YE n l).ls=[]:=by
 unfold YE
 repeat' split
 all_goals rfl
set_option maxHeartbeats 1000000 in
theorem jH (T:World) (h:Hp) (o:Ow) (wb i nb:Nat) (Yb:Nat→Nat) (a:NA) (n:Nd) (YO:WA) (fl:List Xj) (bad:Nat→Int) (told:List Rr) (l:Xj) (w:Value) (d:UE o h)
  (N:ZM o h wb i nb a n) (W:ZH o h wb Yb YO fl bad told) (iv:Wz o h w l.vs) (tb:BA o h) (Zvv:0≤l.kind∧l.kind≤7) (Ys:fl.length≤1000000000000) (qh:n.own.l.length≤1000000) (lj:n.data.length≤1000000)
  (hk:n.known.length≤100000000000) (hl:n.log.length≤100000000000) (ht:told.length≤100000000000) (hq:n.queue.length≤1000000000000) (hw:n.waiting.length≤1000000000000)
  (hv:∀r s,n.Zj=some r→((Yv r.Xz s).getD []).length≤1000000) :
  Zc Tryz.prog T 49 #[Zp wb,Zp nb,.agg (Y7 l w).toArray] h fun v' h'=>∃o' a' XA,Kp (XL i) o h o' h'∧ZM o' h' wb i nb a' (handle n l).n∧ZH o' h' wb Yb XA (fl++(handle n l).ls) bad (told++(handle n l).ts):=by
 obtain⟨pw,cw,rfl⟩:=iv.isSlice;refine Zc.Zk (args:=[_,_,_]) Tryz.func49 rfl rfl rfl rfl ?_;obtain⟨h1,YK⟩:=Zx (h.push (.cells (Y7 l (.slice pw l.vs.length cw)).toArray 111):Hp);have k1:Kp QM o h o h1:=by rw[YK];exact ZY d _
 have x5:ZR o h1 h.size (.cells (Y7 l (.slice pw l.vs.length cw)).toArray 111):=⟨d _ (Nat.le_refl _),by rw[YK];exact Zb⟩
 have e0:=YK.symm;have s1:h1.size=h.size+1:=by rw[YK];simp
 obtain⟨M,hM⟩:∃M:List (Int × Value),M=[(0,.func (.func 64) #[] #[]),(1,.func (.func 65) #[] #[]),(2,.func (.func 66) #[] #[]),(3,.func (.func 65) #[] #[]),(4,.func (.func 67) #[] #[]),(5,.func (.func 68) #[] #[]),(6,.func (.func 69) #[] #[]),(7,.func (.func 70) #[] #[])]:=⟨_,rfl⟩
 have k2:Kp QM o h o (h1.push (Xu M)):=k1.push _;have N2:=N.still k2;have W2:=W.still k2;have lq:=iv.Zd k2;have AS:=tb.Zd k2;have x2:ZR o (h1.push (Xu M)) h.size (.cells (Y7 l (.slice pw l.vs.length cw)).toArray 111):=x5.Zd (ZY k1.ZX _);have d2:UE o (h1.push (Xu M)):=k2.ZX;have q0:hc (h1.push (Xu M)) ⟨h.size,0,none⟩=some (.int .i64 l.kind):=Zh x2.2;have xy:rd (h1.push (Xu M)) ⟨h.size,0,none⟩ 14=some (Y7 l (.slice pw l.vs.length cw)):=Zq x2.2 rfl;have eM:ins (ins (ins (ins (ins (ins (ins [((0:Int),Value.func (.func 64) #[] #[])] 1 (.func (.func 65) #[] #[])) 2 (.func (.func 66) #[] #[])) 3 (.func (.func 65) #[] #[])) 4 (.func (.func 67) #[] #[])) 5 (.func (.func 68) #[] #[])) 6 (.func (.func 69) #[] #[])) 7 (.func (.func 70) #[] #[])=M:=by rw[hM];rfl
 have u0:=fun (K:Value→Hp→Prop) (n:Int) (x:Value)=>bC (K:=K) (X:=h1) qA (b:=h1.size) rfl (n:=n) (x:=x);have u1:=fun (K:Value→Hp→Prop) (l:List (Int × Value)) (n:Int) (x:Value)=>GF (K:=K) (X:=h1) qA (b:=h1.size) rfl (l:=l) (n:=n) (x:=x);have lk:=fun (K:Value→Hp→Prop) (x:Value) (hx:Yv M l.kind=some x)=>bD (K:=K) (X:=h1) qA ZgT (b:=h1.size) rfl hx;unfold Zp Y7;unfold Y7 at e0 xy;have Iw:l.kind=0∨l.kind=1∨l.kind=2∨l.kind=3∨l.kind=4∨l.kind=5∨l.kind=6∨l.kind=7:=by omega
 rcases Iw with NK|NK|NK|NK|NK|NK|NK|NK
 ·have hf:handle n l=Y6 n l:=by unfold handle;simp[NK]
  rw[hf];have bE:=fun (K:Value→Hp→Prop)=>lk K (.func (.func 64) #[] #[]) (by rw[NK,hM];rfl);have cc:=Cz T _ o wb i nb Yb a n YO fl bad told l _ d2 N2 W2 lq Ys qh lj AS;unfold Y7 Zp at cc;simp -implicitDefEqProofs only[go_sem,↓reduceIte,e0,u0,u1,eM,q0,xy,bE];refine cc.use ?_;rintro v' h' ⟨o',a',XA,k,N',W'⟩;simp -implicitDefEqProofs only[go_sem,↓reduceIte];exact⟨o',a',XA,(ZF k2).trans (k.mono fun t q=>by rcases q with rfl|rfl|rfl<;>simp[XL,Tg.of]),N',by rw[CG,List.append_nil];exact W'⟩
 ·have hf:handle n l=YE n l:=by unfold handle;simp[NK]
  rw[hf];have bE:=fun (K:Value→Hp→Prop)=>lk K (.func (.func 65) #[] #[]) (by rw[NK,hM];rfl);have cc:=MW T _ o wb i nb Yb a n YO fl bad told l _ d2 N2 W2 lq hk hl ht hq hw hv;unfold Y7 Zp at cc;simp -implicitDefEqProofs only[go_sem,↓reduceIte,e0,u0,u1,eM,q0,xy,bE];refine cc.use ?_;rintro v' h' ⟨o',a',XA,k,N',W'⟩;simp -implicitDefEqProofs only[go_sem,↓reduceIte];exact⟨o',a',XA,(ZF k2).trans (k.mono fun t q=>CE q),N',by rw[MX,List.append_nil];exact W'⟩
 ·have hf:handle n l=asked n l:=by unfold handle;simp[NK]
  rw[hf];have bE:=fun (K:Value→Hp→Prop)=>lk K (.func (.func 66) #[] #[]) (by rw[NK,hM];rfl);have cc:=qO T _ o wb i nb Yb a n YO fl bad told l _ d2 N2 W2 lq Ys qh lj AS;unfold Y7 Zp at cc;simp -implicitDefEqProofs only[go_sem,↓reduceIte,e0,u0,u1,eM,q0,xy,bE];refine cc.use ?_;rintro v' h' ⟨o',a',XA,k,N',W'⟩;simp -implicitDefEqProofs only[go_sem,↓reduceIte];exact⟨o',a',XA,(ZF k2).trans (k.mono fun t q=>by rcases q with rfl|rfl|rfl<;>simp[XL,Tg.of]),N',by rw[qU,List.append_nil];exact W'⟩
 ·have hf:handle n l=YE n l:=by unfold handle;simp[NK]
  rw[hf];have bE:=fun (K:Value→Hp→Prop)=>lk K (.func (.func 65) #[] #[]) (by rw[NK,hM];rfl);have cc:=MW T _ o wb i nb Yb a n YO fl bad told l _ d2 N2 W2 lq hk hl ht hq hw hv;unfold Y7 Zp at cc;simp -implicitDefEqProofs only[go_sem,↓reduceIte,e0,u0,u1,eM,q0,xy,bE];refine cc.use ?_;rintro v' h' ⟨o',a',XA,k,N',W'⟩;simp -implicitDefEqProofs only[go_sem,↓reduceIte];exact⟨o',a',XA,(ZF k2).trans (k.mono fun t q=>CE q),N',by rw[MX,List.append_nil];exact W'⟩
 ·have hf:handle n l=⟨add n l.v.cm,[],[]⟩:=by unfold handle;simp[NK]
  rw[hf];have bE:=fun (K:Value→Hp→Prop)=>lk K (.func (.func 67) #[] #[]) (by rw[NK,hM];rfl);have cc:=qQ T _ o wb i nb a n l _ d2 N2 lq hq (by omega);unfold Y7 Zp at cc;simp -implicitDefEqProofs only[go_sem,↓reduceIte,e0,u0,u1,eM,q0,xy,bE];refine cc.use ?_;rintro v' h' ⟨o',a',k,N'⟩;simp -implicitDefEqProofs only[go_sem,↓reduceIte];exact⟨o',a',YO,(ZF k2).trans (k.mono fun t q=>by rcases q with rfl|rfl<;>simp[XL,Tg.of]),N',by rw[List.append_nil,List.append_nil];exact W2.Zd k (by rintro t (rfl|rfl)<;>simp[Tg.of])⟩
 ·have hf:handle n l=Ws n l:=by unfold handle;simp[NK]
  rw[hf];have bE:=fun (K:Value→Hp→Prop)=>lk K (.func (.func 68) #[] #[]) (by rw[NK,hM];rfl);have cc:=qS T _ o wb i nb Yb a n YO fl bad told l _ d2 N2 W2 lq Ys;unfold Y7 Zp at cc;simp -implicitDefEqProofs only[go_sem,↓reduceIte,e0,u0,u1,eM,q0,xy,bE];refine cc.use ?_;rintro v' h' ⟨o',a',XA,k,N',W'⟩;simp -implicitDefEqProofs only[go_sem,↓reduceIte];exact⟨o',a',XA,(ZF k2).trans (k.mono fun t q=>by rcases q with rfl|rfl|rfl<;>simp[XL,Tg.of]),N',by rw[qV,List.append_nil];exact W'⟩
 ·have hf:handle n l=Wq n l.v.slot l.v.cm:=by unfold handle;simp[NK]
  rw[hf];have bE:=fun (K:Value→Hp→Prop)=>lk K (.func (.func 69) #[] #[]) (by rw[NK,hM];rfl);have cc:=jG T _ o wb i nb Yb a n YO fl bad told l _ d2 N2 W2 lq hk hl ht hq hw;unfold Y7 Zp at cc;simp -implicitDefEqProofs only[go_sem,↓reduceIte,e0,u0,u1,eM,q0,xy,bE];refine cc.use ?_;rintro v' h' ⟨o',a',XA,k,N',W'⟩;simp -implicitDefEqProofs only[go_sem,↓reduceIte];exact⟨o',a',XA,(ZF k2).trans (k.mono fun t q=>Iv q),N',by rw[qW,List.append_nil];exact W'⟩
 ·have hf:handle n l=⟨notes n l,[],[]⟩:=by unfold handle;simp[NK]
  rw[hf];have bE:=fun (K:Value→Hp→Prop)=>lk K (.func (.func 70) #[] #[]) (by rw[NK,hM];rfl);have cc:=CF T _ o wb i nb a n l _ d2 N2 lq;unfold Y7 Zp at cc;simp -implicitDefEqProofs only[go_sem,↓reduceIte,e0,u0,u1,eM,q0,xy,bE];refine cc.use ?_;rintro v' h' ⟨k,N'⟩;simp -implicitDefEqProofs only[go_sem,↓reduceIte];exact⟨o,a,YO,(ZF k2).trans (k.mono fun t q=>by rw[q];simp[XL,Tg.of]),N',by rw[List.append_nil,List.append_nil];exact W2.Zd k (by rintro t rfl;simp[Tg.of])⟩
@[go_sem] theorem Zqg (x:Cm):List.take 5 x.C=x.C:=rfl
def UO (n:Nd) (r:JF) (x:Cm):Int:=match free n r x with|some s=>(s:Int)|none=>0
theorem YR.rr {o:Ow} {i:Nat} {h:Hp} {ra:RA} {r:JF} (s:YR o i h ra r):rd h ⟨ra.rb,0,none⟩ 2=some (Jr r.b)∧hc h ⟨ra.rb,2,none⟩=some (.map (some ra.pb))∧hc h ⟨ra.rb,3,none⟩=some (.bool r.begun)∧hc h ⟨ra.rb,4,none⟩=some (.map (some ra.qb))∧hc h ⟨ra.rb,5,none⟩=some (.map (some ra.vb)):=
 ⟨by rw[Z9 s.ZG.2 (by simp[bt])];rfl,Zh s.ZG.2,Zh s.ZG.2,Zh s.ZG.2,Zh s.ZG.2⟩
set_option maxHeartbeats 1000000 in
theorem xz (T:World) (h:Hp) (o:Ow) (wb i nb:Nat) (a:NA) (n:Nd) (ra:RA) (r:JF) (x:Cm) (d:UE o h) (N:ZM o h wb i nb a n) (R:YR o i h ra r) (hl:n.log.length≤1000000000000) :
  Zc Tryz.prog T 100 #[Zp nb,Zp ra.rb,Vi x] h fun v' h'=>v'=.tuple #[.int .i64 (UO n r x),.bool (free n r x).isSome]∧Zf h.size h h':=by
 have WD:=Za N.ZG.2;have bu:=Za R.ZG.2;refine Zc.XM (args:=[_,_,_]) Tryz.func100 rfl rfl rfl rfl ?_;unfold Zp Vi;obtain⟨h1,YK⟩:=Zx (h.push (.cells x.C.toArray 47):Hp);have k1:Kp QM o h o h1:=by rw[YK];exact ZY d _
 have b1:Zf h.size h h1:=by rw[YK];exact Zf.push (Nat.le_refl _) _
 have x1:ZR o h1 h.size (.cells x.C.toArray 47):=⟨d _ (Nat.le_refl _),by rw[YK];exact Zb⟩
 have e0:=YK.symm;have N1:=N.still k1;have R1:=R.Zd k1 (fun _ _ q=>q);have P1:=ZA N1.ZG.2 N1.pt.store.len;have P0:=ZA N.ZG.2 N.pt.store.len;obtain⟨lp,lc,HD,hlc⟩:=YG.isSlice N1.pt.log;have P11:=P1.log;rw[HD]at P11;have JZ:=Za N1.ZG.2;have e3:((n.log.length:Nat):Int)=(n.log.length:Int):=rfl;simp -implicitDefEqProofs only[go_sem,↓reduceIte,e0,P11];refine VS.ZW (fun F g=>Zf h1.size h1 g∧F 0=.pointer (some ⟨nb,0,none⟩)∧F 1=.pointer (some ⟨ra.rb,0,none⟩)∧F 5=.pointer (some ⟨h.size,0,none⟩)∧∃s:Nat,F 8=.int .i64 s∧n.log.length≤s∧QS n r x (40-n.log.length) n.log.length=QS n r x (40-s) s)
  (fun F _=>40-(vi (F 8)).toNat) rfl ⟨Zf.refl _ _,rfl,rfl,rfl,n.log.length,rfl,Nat.le_refl _,rfl⟩ ?_
 rintro F g ⟨hg,f0,f1,f5,s,f8,hs,he⟩;have kg:=ZE k1.ZX hg;have N2:=N1.still kg;have R2:=R1.Zd kg (fun _ _ q=>q);have y1:=x1.Zd kg;have P2:=ZA N2.ZG.2 N2.pt.store.len;obtain⟨_,_,_,q4,_⟩:=R2.rr;have gs:=hg.size;have J9:=Za N2.ZG.2;have CD:=Za R2.ZG.2;have bb:Zf h.size h g:=b1.trans (hg.mono b1.size);have eF:free n r x=QS n r x (40-s) s:=he;by_cases ZD:s<40
 ·have ZL:(s:Int)<40:=by omega
  obtain⟨f,hf⟩:∃f,40-s=f+1:=⟨39-s,by omega⟩
  have ef:f=40-(s+1):=by omega
  rw[hf]at eF he;have GG:=fun (K:Value→Hp→Prop)=>Yz (K:=K) (n:=(s:Int)) (c:=true) Th OU R2.prop.2;rw[Xt]at GG;have VF:=fun (K:Value→Hp→Prop) (z:Obj)=>Yz (h:=g.push z) (K:=K) (n:=(s:Int)) (c:=true) Th OU ((Zt (Za N2.pt.known.2)).trans N2.pt.known.2);simp only[Xt]at VF;have fz:∀c:Cm,rd g ⟨h.size,0,none⟩ 5=some x.C:=fun _=>Zq y1.2 rfl;have fx:rd g ⟨h.size,0,none⟩ 5=some x.C:=Zq y1.2 rfl;have hx5:=Za y1.2;have n1:¬h.size=g.size:=by omega
  have n2:¬h.size=g.size+1:=by omega
  have n3:¬nb=g.size:=by omega
  unfold QS at eF
  cases c1:Yv r.prop (s:Int) with
  | none=>
   simp only[c1,Option.map_none,Option.getD_none,Option.isSome_none,↓reduceIte]at GG
   cases c2:Yv n.known (s:Int) with
   | none=>
    simp only[c2,Option.map_none,Option.getD_none,Option.isSome_none,↓reduceIte]at VF;have e4:free n r x=some s:=by rw[eF,if_neg (by rw[c1,c2];simp),if_pos ⟨c1,c2⟩]
    have e5:UO n r x=s:=by unfold UO;rw[e4]
    rw[e5,e4];simp -implicitDefEqProofs only[go_sem,↓reduceIte,f0,f1,f5,f8,ZL,q4,GG,VF,P2.known,n1,n2,n3,fx,Vi,Option.isSome_some];exact (bb.Yi (by omega) _).Yi (by simp;omega) _
   | some z=>
    simp only[c2,Option.map_some,Option.getD_some,Option.isSome_some,↓reduceIte]at VF;by_cases qz:z=x
    ·have e4:free n r x=none:=by rw[eF,if_pos (.inr (by rw[c2,qz]))]
     have e5:UO n r x=0:=by unfold UO;rw[e4]
     rw[e5,e4];simp -implicitDefEqProofs only[go_sem,↓reduceIte,f0,f1,f5,f8,ZL,q4,GG,VF,P2.known,n1,n2,n3,fx,Vi,qz,Option.isSome_none];exact (bb.Yi (by omega) _).Yi (by simp;omega) _
    ·have qz':¬some z=some x:=fun e=>qz (Option.some.inj e);simp -implicitDefEqProofs only[go_sem,↓reduceIte,f0,f1,f5,f8,ZL,q4,GG,VF,P2.known,n1,n2,n3,fx,Vi,qz];unfold Yt;refine⟨⟨(hg.Yi (by omega) _).Yi (by simp;omega) _,f0,f1,f5,s+1,rfl,by omega,?_⟩,?_⟩
     ·rw[he,←ef,QS,if_neg (by rw[c1,c2];simp[qz]),if_neg (by rw[c2];simp)]
     ·simp only[vi,Zi,↓reduceIte,f8];omega
  | some y=>
   simp only[c1,Option.map_some,Option.getD_some,Option.isSome_some,↓reduceIte]at GG;by_cases qy:y=x
   ·have e4:free n r x=none:=by rw[eF,if_pos (.inl (by rw[c1,qy]))]
    have e5:UO n r x=0:=by unfold UO;rw[e4]
    rw[e5,e4]
    cases c2:Yv n.known (s:Int) with
    | none=>
     simp only[c2,Option.map_none,Option.getD_none,Option.isSome_none,↓reduceIte]at VF;simp -implicitDefEqProofs only[go_sem,↓reduceIte,f0,f1,f5,f8,ZL,q4,GG,VF,P2.known,n1,n2,n3,fx,Vi,qy,Option.isSome_none];exact (bb.Yi (by omega) _).Yi (by simp;omega) _
    | some z=>
     simp only[c2,Option.map_some,Option.getD_some,Option.isSome_some,↓reduceIte]at VF;simp -implicitDefEqProofs only[go_sem,↓reduceIte,f0,f1,f5,f8,ZL,q4,GG,VF,P2.known,n1,n2,n3,fx,Vi,qy,Option.isSome_none];exact (bb.Yi (by omega) _).Yi (by simp;omega) _
   ·cases c2:Yv n.known (s:Int) with
    | none=>
     simp only[c2,Option.map_none,Option.getD_none,Option.isSome_none,↓reduceIte]at VF;simp -implicitDefEqProofs only[go_sem,↓reduceIte,f0,f1,f5,f8,ZL,q4,GG,VF,P2.known,n1,n2,n3,fx,Vi,qy];unfold Yt;refine⟨⟨(hg.Yi (by omega) _).Yi (by simp;omega) _,f0,f1,f5,s+1,rfl,by omega,?_⟩,?_⟩
     ·rw[he,←ef,QS,if_neg (by rw[c1,c2];simp[qy]),if_neg (by rw[c1];simp)]
     ·simp only[vi,Zi,↓reduceIte,f8];omega
    | some z=>
     simp only[c2,Option.map_some,Option.getD_some,Option.isSome_some,↓reduceIte]at VF;by_cases qz:z=x
     ·have e4:free n r x=none:=by rw[eF,if_pos (.inr (by rw[c2,qz]))]
      have e5:UO n r x=0:=by unfold UO;rw[e4]
      rw[e5,e4];simp -implicitDefEqProofs only[go_sem,↓reduceIte,f0,f1,f5,f8,ZL,q4,GG,VF,P2.known,n1,n2,n3,fx,Vi,qy,qz,Option.isSome_none];exact (bb.Yi (by omega) _).Yi (by simp;omega) _
     ·
      simp -implicitDefEqProofs only[go_sem,↓reduceIte,f0,f1,f5,f8,ZL,q4,GG,VF,P2.known,n1,n2,n3,fx,Vi,qy,qz];unfold Yt;refine⟨⟨(hg.Yi (by omega) _).Yi (by simp;omega) _,f0,f1,f5,s+1,rfl,by omega,?_⟩,?_⟩
      ·rw[he,←ef,QS,if_neg (by rw[c1,c2];simp[qy,qz]),if_neg (by rw[c1];simp)]
      ·simp only[vi,Zi,↓reduceIte,f8];omega
 ·have YJ:¬(s:Int)<40:=by omega
  have e4:free n r x=none:=by rw[eF,show 40-s=0 by omega];rfl
  have e5:UO n r x=0:=by unfold UO;rw[e4]
  rw[e5,e4];simp -implicitDefEqProofs only[go_sem,↓reduceIte,f8,YJ,bb,Option.isSome_none]
def Zcp (B:Nat) (o:Ow) (h0 h:Hp) (u:Value) (LL:List (List Vt)):Prop:=
 ∃ws:List Value,Qv B 79 1 h u LL.length ws∧Dm (fun w l=>Wz o h0 w l∧l.length≤1000000) ws LL
def bF (o:Ow) (h:Hp) (u:Value) (LL:List (List Vt)):Prop:=∃p c,u=.slice p LL.length c∧(LL≠[]→∃b off,p=some ⟨b,off,none⟩∧b<h.size∧o b=none∧∀i (hi:i<LL.length),∃w,hc h ⟨b,off+i,none⟩=some w∧Wz o h w LL[i]∧LL[i].length≤1000000)
theorem bF.vss {o:Ow} {h:Hp} {u:Value} {LL:List (List Vt)} (s:bF o h u LL):Vss h u LL:=by
 obtain⟨p,c,hv,hh⟩:=s;refine⟨p,c,hv,fun YA=>?_⟩;obtain⟨b,off,h1,h2,h3,h4⟩:=hh YA;refine⟨b,off,h1,h2,fun i hi=>?_⟩;obtain⟨w,g1,g2,g3⟩:=h4 i hi;exact⟨w,g1,g2.ts,by omega⟩
theorem bF.Zd {S:Tg→Prop} {o o':Ow} {h h':Hp} {u:Value} {LL:List (List Vt)} (s:bF o h u LL) (k:Kp S o h o' h'):bF o' h' u LL:=by
 obtain⟨p,c,hv,hh⟩:=s;refine⟨p,c,hv,fun YA=>?_⟩;obtain⟨b,off,h1,h2,h3,h4⟩:=hh YA;obtain⟨q1,q2⟩:=k.Zd b h2 fun t ht=>by rw[h3]at ht;cases ht
 refine⟨b,off,h1,Nat.lt_of_lt_of_le h2 k.size,q2.trans h3,fun i hi=>?_⟩;obtain⟨w,g1,g2,g3⟩:=h4 i hi;refine⟨w,?_,g2.Zd k,g3⟩;unfold hc at g1 ⊢;rw[q1];exact g1
theorem Zcp.Zqh {o:Ow} {h0 h:Hp} {u:Value} {LL:List (List Vt)} (s:Zcp h0.size o h0 h u LL) (d:UE o h0) (hb:Zf h0.size h0 h):bF o h u LL:=by
 obtain⟨ws,own,al⟩:=s;have xC:ws.length=LL.length:=by
  clear own
  induction al with
  | nil=>rfl
  | cons _ _ ih=>simp[ih]
 have Zqi:∀i (hi:i<LL.length),∃w,ws[i]? = some w∧Wz o h0 w LL[i]∧LL[i].length≤1000000:=by
  clear own xC
  induction al with
  | nil=>intro i hi;simp at hi
  | cons Ff _ ih=>
   intro i hi
   cases i with
   | zero=>exact⟨_,rfl,Ff⟩
   | succ i=>exact ih i (by simpa using hi)
 obtain⟨p,c,hv,hl,YS⟩:=own.sl;refine⟨p,c,hv,fun YA=>?_⟩;have L1:0<LL.length:=List.length_pos_iff.2 YA;obtain⟨b,off,rfl,HU⟩:=YS (by intro e;rw[e]at xC;simp at xC;omega);have hbB:h0.size≤b:=by
  refine own.ZG b ?_;rcases own with⟨⟨q,h1⟩,h2,h3⟩|⟨b',cap,sp,_,h1,_,_,_,hm⟩
  ·subst h3;simp at xC;omega
  ·rw[hv]at h1;simp only[Value.slice.injEq,Option.some.injEq,Addr.mk.injEq]at h1;obtain⟨⟨rfl,_,_⟩,h12,h13⟩:=h1;rw[hv];have:c≠0:=by omega
   simp[ZO,this]
 refine⟨b,off,rfl,Uq (HU 0 (by omega)),d b hbB,fun i hi=>?_⟩;obtain⟨w,h1,h2,h3⟩:=Zqi i hi;have Da:i<ws.length:=by omega
 rw[List.getElem?_eq_getElem Da]at h1;exact⟨w,by rw[HU i Da,Option.some.inj h1],h2.Zd (ZE d hb),h3⟩
theorem CI {α β:Type} {R:α→β→Prop} {l:List α} {k:List β} (s:Dm R l k) {a:α} {b:β} (h:R a b):Dm R (l++[a]) (k++[b]):=by
 induction s with
 | nil=>exact .cons h .nil
 | cons x _ ih=>exact .cons x ih
theorem jI (l:List Vt) (v:Vt):Pw (l++[v])=if Pw l<v.slot then v.slot else Pw l:=by
 unfold Pw;rw[List.foldl_append];rfl
theorem YR.fi {o:Ow} {i:Nat} {h:Hp} {ra:RA} {r:JF} (s:YR o i h ra r) (d:UE o h) {k:Int} {x:Cm} :
  Kp (fun t=>t=.prop i) o h o (h.setIfInBounds ra.qb (Xu (ins (UJ Vi r.prop) k (.agg x.C.toArray))))∧YR o i (h.setIfInBounds ra.qb (Xu (ins (UJ Vi r.prop) k (.agg x.C.toArray)))) ra { r with prop:=ins r.prop k x }:=by
 have kk:Kp (fun t=>t=.prop i) o h o (h.setIfInBounds ra.qb (Xu (ins (UJ Vi r.prop) k (.agg x.C.toArray)))):=(Kp.refl d (fun t=>t=.prop i)).set s.prop.1 rfl _;exact⟨kk,s.ZG.Zd kk (by intro e;cases e),s.prom.Zd kk (by intro e;cases e),s.SD.Zd kk,⟨s.prop.1,by rw[Zy s.prop.2,Sh];rfl⟩,s.Xz.Zd kk (by intro e;cases e),s.Ti.Zd kk (fun _ e=>by cases e),s.keys⟩
theorem TO (r:JF):(Z5 r).length=5:=rfl
theorem GH (r:JF) (m:Nat) (hm:m<(Z5 r).length):(Z5 r)[m]=(Yv r.prom (m:Int)).getD []:=by
 simp only[Z5,List.getElem_map,List.getElem_range]
theorem YR.list {o:Ow} {i:Nat} {h:Hp} {ra:RA} {r:JF} (s:YR o i h ra r) (hp:∀x∈r.prom,x.2.length≤1000000) (m:Int):∃p c vs,(Yv ra.pv m).getD (.slice none 0 0)=.slice p vs.length c∧(Yv r.prom m).getD []=vs∧Wz o h (.slice p vs.length c) vs∧vs.length≤1000000:=by
 rcases s.SD.Yv m with⟨h1,h2⟩|⟨w,vs,h1,h2,iv⟩
 ·exact⟨none,0,[],by rw[h1];rfl,by rw[h2];rfl,Im.nil _ _ _ _,by simp⟩
 ·obtain⟨p,c,rfl⟩:=iv.isSlice;exact⟨p,c,vs,by rw[h1];rfl,by rw[h2];rfl,iv,hp _ (SY h2)⟩
set_option maxHeartbeats 1000000 in
theorem qX (T:World) (h:Hp) (o:Ow) (wb i nb:Nat) (a:NA) (n:Nd) (ra:RA) (r:JF) (d:UE o h) (N:ZM o h wb i nb { a with Zj:=some ra } { n with Zj:=some r }) (hp:∀x∈r.prom,x.2.length≤1000000) (hs:∀x∈r.prom,∀v∈x.2,v.slot≤1000000) (hl:n.log.length≤1000000000000) :
  Zc Tryz.prog T 99 #[Zp nb,Zp ra.rb] h fun v' h'=>∃ra',ra'.rb=ra.rb∧Kp (XQ i) o h o h'∧ZM o h' wb i nb { a with Zj:=some ra' } { n with Zj:=some (TM n r) }:=by
 have WD:=Za N.ZG.2;have R:YR o i h ra r:=N.pt.Zj;have bu:=Za R.ZG.2;refine Zc.Zk (args:=[_,_]) Tryz.func99 rfl rfl rfl rfl ?_;unfold Zp;simp -implicitDefEqProofs only[go_sem,↓reduceIte];refine VS.ZW (fun F g=>Zf h.size h g∧F 0=.pointer (some ⟨nb,0,none⟩)∧F 1=.pointer (some ⟨ra.rb,0,none⟩)∧∃m:Nat,m≤5∧F 12=.int .i64 m∧Zcp h.size o h g (F 4) ((Z5 r).take m)∧F 5=.int .i64 (Pw ((Z5 r).take m).flatten))
  (fun F _=>5-(vi (F 12)).toNat) rfl ⟨Zf.refl _ _,rfl,rfl,0,by omega,rfl,⟨[],Qv.nil _ _ _ _,.nil⟩,rfl⟩ ?_
 rintro F g ⟨hg,f0,f1,m,hm,f12,hG,f5⟩;have kg:=ZE d hg;have N1:=N.still kg;have R1:=R.Zd kg (fun _ _ q=>q);obtain⟨_,q2,q3,q4,_⟩:=R1.rr;have gs:=hg.size;by_cases ZD:m<5
 ·have ZL:(m:Int)<5:=by omega
  obtain⟨pm,cm,vs,e1,e2,iv,qh⟩:=R1.list hp (m:Int);have hm5:m<(Z5 r).length:=by rw[TO];exact ZD
  have e3:(Z5 r)[m]=vs:=by rw[GH,e2]
  have e4:(Z5 r).take (m+1)=(Z5 r).take m++[vs]:=by rw[Yl _ m hm5,e3]
  have lk:=fun (G:Hp) (hG:Zf g.size g G) (K:Value→Hp→Prop)=>Yz (h:=G) (K:=K) (n:=(m:Int)) (c:=false) MP qB (hG.get (Za R1.prom.2) R1.prom.2);simp only[e1,Bool.false_eq_true,if_false]at lk;have lk0:=lk g (Zf.refl _ _);obtain⟨ws,own,al⟩:=hG;obtain⟨p4,c4,hF4⟩:∃p c,F 4=.slice p ((Z5 r).take m).length c:=by
   obtain⟨p,c,h1,_⟩:=own.sl;exact⟨p,c,h1⟩
  have ml:((Z5 r).take m).length=m:=by rw[List.length_take,TO];omega
  rw[ml]at hF4 own;rw[hF4]at own;simp -implicitDefEqProofs only[go_sem,↓reduceIte,f0,f1,f5,f12,hF4,ZL,q2,lk0];have src:Sl 1 (g.push (.cells [.slice pm vs.length cm].toArray 79)) (.slice (some ⟨g.size,0,none⟩) 1 1) 1 [.slice pm vs.length cm]:=Sl.made (by simp) 1;refine Mm (E:=79) (n:=1) (B:=h.size) (bytes:=24) (m:=m) (k:=1) (cs:=ws) Zbh Tryz.underlying216 ZmN ZmP rfl ZmO (own.push _) (by simp;omega) src rfl (by omega) (by omega) ?_;intro u3 g3 Zhe Zqk _;have Ee:Zf h.size h g3:=(hg.Yi (by omega) _).trans (Zqk.Z2 (by simp;omega) (own.push (.cells [.slice pm vs.length cm].toArray 79)).ZG);have kg3:=ZE d Ee;have R3:=R.Zd kg3 (fun _ _ q=>q);obtain⟨_,q23,_,_,_⟩:=R3.rr;have lk3:=fun (K:Value→Hp→Prop)=>Yz (K:=K) (n:=(m:Int)) (c:=false) MP qB R3.prom.2;simp only[e1,Bool.false_eq_true,if_false]at lk3;obtain⟨p5,c5,rfl⟩:∃p c,u3=.slice p (m+1) c:=by obtain⟨p,c,h1,_⟩:=Zhe.sl;exact⟨p,c,h1⟩
  have iv0:Wz o h (.slice pm vs.length cm) vs:=by
   obtain⟨pm',cm',yX,x1,x2,iv',_⟩:=R.list hp (m:Int);rw[e1]at x1;rw[e2]at x2;subst x2;rw[←x1]at iv';exact iv'
  have al3:Dm (fun w l=>Wz o h w l∧l.length≤1000000) (ws++[.slice pm vs.length cm]) ((Z5 r).take m++[vs]):=by
   exact CI al ⟨iv0,qh⟩
  simp -implicitDefEqProofs only[go_sem,↓reduceIte,f0,f1,f5,f12,ZL,q23,lk3];obtain⟨LL,hLL⟩:=Zx (((Z5 r).take m).flatten);have vZ:((Z5 r).take (m+1)).flatten=LL++vs:=by rw[e4,List.flatten_append,←hLL];simp
  rw[←hLL]at f5;have ivo:=fun g' (hb:Zf h.size h g')=>Ir (iv0.Zd (ZE d hb)).ts;refine VS.ZW (fun F' g'=>Zf h.size h g'∧F' 0=.pointer (some ⟨nb,0,none⟩)∧F' 1=.pointer (some ⟨ra.rb,0,none⟩)∧F' 12=.int .i64 m∧F' 29=.slice pm vs.length cm∧F' 30=.int .i64 vs.length∧F' 4=.slice p5 (m+1) c5∧Qv h.size 79 1 g' (.slice p5 (m+1) c5) (m+1) (ws++[.slice pm vs.length cm])∧∃j:Nat,j≤vs.length∧F' 31=.int .i64 j∧F' 5=.int .i64 (Pw (LL++vs.take j)))
   (fun F' _=>vs.length-(vi (F' 31)).toNat) rfl ⟨Ee,f0,f1,f12,rfl,rfl,rfl,Zhe,0,by omega,rfl,by rw[List.take_zero,List.append_nil];exact f5⟩ ?_
  rintro F2 g4 ⟨OZ,f0,f1,f12,f29,f30,f4,Zhf,j,hj,f31,f5⟩;by_cases BL:j<vs.length
  ·have Zql:(j:Int)<vs.length:=by omega
   obtain⟨pp,cc,qY,pL⟩:=ivo g4 OZ;obtain⟨bb,oo,hpp,Wi,O3⟩:=pL (by intro e;rw[e]at BL;simp at BL);simp only[Value.slice.injEq]at qY;obtain⟨rfl,_,rfl⟩:=qY;subst hpp;have r1:=O3 j BL;unfold Zo at r1;simp -implicitDefEqProofs only[go_sem,↓reduceIte,f0,f1,f12,f29,f30,f4,f31,f5,Zql,r1];unfold Yt;refine⟨⟨OZ.Yi OZ.size _,f0,f1,f12,f29,f30,f4,Zhf.push _,j+1,BL,rfl,?_⟩,?_⟩
   ·show Value.int .i64 _=_;rw[Yl vs j BL,←List.append_assoc,jI]
   ·simp only[vi,Zi,↓reduceIte,f31];omega
  ·have YJ:¬(j:Int)<vs.length:=by omega
   obtain rfl:j=vs.length:=by omega
   rw[List.take_length]at f5;simp -implicitDefEqProofs only[go_sem,↓reduceIte,f30,f31,YJ,f12];unfold Yt;refine⟨⟨OZ,f0,f1,m+1,ZD,rfl,⟨_,?_,by rw[e4];exact al3⟩,by rw[vZ];exact f5⟩,?_⟩
   ·show Qv _ _ _ _ (F2 4) _ _;rw[f4,e4,List.length_append,ml];exact Zhf
   ·simp only[vi,Zi,↓reduceIte,f12];omega
 ·have YJ:¬(m:Int)<5:=by omega
  obtain rfl:m=5:=by omega
  have ht5:(Z5 r).take 5=Z5 r:=by rw[List.take_of_length_le];exact Nat.le_of_eq (TO r)
  rw[ht5]at hG f5;have P1:=ZA N1.ZG.2 N1.pt.store.len;have JZ:=Za N1.ZG.2;obtain⟨lp,lc,HD,_⟩:=YG.isSlice N1.pt.log;have P11:=P1.log;rw[HD]at P11;have jJ:=hG.Zqh d hg;obtain⟨u,hu⟩:=Zx (F 4);rw[←hu]at jJ hG;obtain⟨top,FP⟩:=Zx (Pw (Z5 r).flatten);rw[←FP]at f5;have htl:top≤1000000:=by
   rw[FP];have key:∀(l:List Vt) (t:Int),t≤1000000→(∀v∈l,v.slot≤1000000)→l.foldl (fun t v=>if t<v.slot then v.slot else t) t≤1000000:=by
    intro l
    induction l with
    | nil=>intro t ht _;exact ht
    | cons x l ih=>
     intro t ht hh;refine ih _ ?_ (fun v hv=>hh v (List.mem_cons_of_mem _ hv));show (if t<x.slot then x.slot else t)≤1000000;split
     ·exact hh x List.mem_cons_self
     ·exact ht
   refine key _ _ (by omega) ?_;intro v hv;simp only[List.mem_flatten]at hv;obtain⟨l,oB,I3⟩:=hv;obtain⟨k,hk,rfl⟩:=List.getElem_of_mem oB;rw[GH]at I3
   cases hx:Yv r.prom (k:Int) with
   | none=>rw[hx]at I3;cases I3
   | some y=>rw[hx]at I3;exact hs _ (SY hx) v I3
  clear hG;obtain⟨LL,hLL⟩:=Zx (Z5 r);rw[←hLL]at jJ FP;obtain⟨C,hC⟩:=Zx ((top+1).toNat-n.log.length);have aD:TM n r = { r with prop:=(List.range' n.log.length C).foldl (XT n LL) r.prop,begun:=true }:=by
   unfold TM;rw[hC,FP,hLL]
  rw[aD];have hu':=hu.symm;simp -implicitDefEqProofs only[go_sem,↓reduceIte,f0,f1,f5,f12,YJ,P11];refine VS.ZW (fun F' g'=>Kp (XQ i) o h o g'∧F' 0=.pointer (some ⟨nb,0,none⟩)∧F' 1=.pointer (some ⟨ra.rb,0,none⟩)∧F' 4=u∧F' 5=.int .i64 top∧bF o g' u LL∧∃k:Nat,k≤C∧F' 9=.int .i64 ((n.log.length+k:Nat):Int)∧ZM o g' wb i nb { a with Zj:=some ra } { n with Zj:=some { r with prop:=(List.range' n.log.length k).foldl (XT n LL) r.prop } })
   (fun F' _=>n.log.length+C-(vi (F' 9)).toNat) rfl ⟨ZF kg,f0,f1,hu',f5,jJ,0,by omega,rfl,N1⟩ ?_
  rintro F2 g2 ⟨K2,f0,f1,f4,f5,jJ,k,hk,f9,N2⟩;obtain⟨pk,vJ⟩:=Zx ((List.range' n.log.length k).foldl (XT n LL) r.prop);rw[←vJ]at N2;have R2:YR o i g2 ra { r with prop:=pk }:=N2.pt.Zj;obtain⟨_,_,_,q4,_⟩:=R2.rr;have P2:=ZA N2.ZG.2 N2.pt.store.len;have J9:=Za N2.ZG.2;have CD:=Za R2.ZG.2;by_cases hkc:k<C
  ·have hle:(((n.log.length+k:Nat):Int))≤top:=by omega
   have lk:=fun (K:Value→Hp→Prop)=>Yz (K:=K) (n:=((n.log.length+k:Nat):Int)) (c:=true) Th OU N2.pt.known.2;rw[Xt]at lk;have YX:(List.range' n.log.length (k+1)).foldl (XT n LL) r.prop=XT n LL pk (n.log.length+k):=by
    rw[List.range'_concat,List.foldl_append,←vJ];simp
   cases hx:Yv n.known ((n.log.length+k:Nat):Int) with
   | some y=>
    have e6:XT n LL pk (n.log.length+k)=pk:=by unfold XT;rw[if_neg (by rw[hx];simp)]
    simp only[show ({ n with Zj:=some { r with prop:=pk } }:Nd).known=n.known from rfl,hx,Option.map_some,Option.getD_some,Option.isSome_some,↓reduceIte]at lk;simp -implicitDefEqProofs only[go_sem,↓reduceIte,f0,f1,f4,f5,f9,hle,P2.known,lk,Vi];have kx:=ZY K2.ZX (.cells y.C.toArray 47);unfold Yt;refine⟨⟨K2.push _,f0,f1,f4,f5,jJ.Zd kx,k+1,hkc,?_,by rw[YX,e6];exact N2.still kx⟩,?_⟩
    ·show Value.int .i64 _=Value.int .i64 _
     congr 1
    ·simp only[vi,Zi,↓reduceIte,f9];omega
   | none=>
    have e6:XT n LL pk (n.log.length+k)=ins pk ((n.log.length+k:Nat):Int) (SC LL ((n.log.length+k:Nat):Int)):=by unfold XT;rw[if_pos hx]
    simp only[show ({ n with Zj:=some { r with prop:=pk } }:Nd).known=n.known from rfl,hx,Option.map_none,Option.getD_none,Option.isSome_none,↓reduceIte]at lk;simp -implicitDefEqProofs only[go_sem,↓reduceIte,f0,f1,f4,f5,f9,hle,P2.known,lk];obtain⟨g3,Ee⟩:=Zx (g2.push (.cells By.C.toArray 47):Hp);have kx:Kp QM o g2 o g3:=by rw[Ee];exact ZY K2.ZX _
    rw[←Ee];have N3:=N2.still kx;have R3:YR o i g3 ra { r with prop:=pk }:=N3.pt.Zj;obtain⟨_,_,_,q43,_⟩:=R3.rr;have Zqm:=Za R3.ZG.2;have hv3:=jJ.Zd kx;have LLl:LL.length≤4611686018427387904:=by rw[hLL,TO];omega
    refine VS.z (g3.size) [12] (.p 0 (.p 1 (.p 2 (.q 3 (.p 4 (.p 5 (.p 6 (.s 7 (.p 8 (.p 9 (.p 10 (.p 11 (.w 12 .nil))))))))))))) mixed (by kernel_rfl) ?_;simp -implicitDefEqProofs only[go_sem,↓reduceIte,f0,f1,f4,f5,f9,q43,Zqm];refine (vI T g3 u LL ((n.log.length+k:Nat):Int) hv3.vss LLl).use ?_;rintro _ g4 ⟨vX,b4⟩;unfold FL at vX;subst vX;have k4:=ZE kx.ZX b4;have N4:=N3.still k4;have R4:YR o i g4 ra { r with prop:=pk }:=N4.pt.Zj;have eC:FK (if Vf ((n.log.length+k:Nat):Int) LL.flatten=0 then Q9 ((n.log.length+k:Nat):Int) LL.flatten else Tw)=(SC LL ((n.log.length+k:Nat):Int)).C:=by
     unfold SC;split<;>rfl
    rw[eC];simp -implicitDefEqProofs only[go_sem,↓reduceIte,b4,f0,f1,f4,f5,f9];rw[XZ Th R4.prop.2];obtain⟨k5,R5⟩:=R4.fi k4.ZX (k:=((n.log.length+k:Nat):Int)) (x:=SC LL ((n.log.length+k:Nat):Int));have k5':Kp (XQ i) o g4 o _:=k5.mono fun t q=>.inr (.inr (.inl q));simp -implicitDefEqProofs only[go_sem,↓reduceIte,f9];unfold Yt;refine⟨⟨(K2.trans ((ZF kx).trans (ZF k4))).trans k5',f0,f1,f4,f5,(hv3.Zd k4).Zd k5',k+1,hkc,?_,?_⟩,?_⟩
    ·show Value.int .i64 _=Value.int .i64 _
     congr 1
    ·rw[YX,e6];exact⟨N4.ZG.Zd k5 (by intro e;cases e),ZV.QH N4.pt k5' rfl rfl R5⟩
    ·simp only[vi,Zi,↓reduceIte,f9];omega
  ·have hgt:¬(((n.log.length+k:Nat):Int))≤top:=by omega
   obtain rfl:k=C:=by omega
   obtain⟨g4,w4,h4⟩:∃g4,JJ g2 ⟨ra.rb,3,none⟩ (.bool true)=some g4∧g4=g2.setIfInBounds ra.rb (.cells (bt { r with prop:=pk,begun:=true } ra).toArray 138):=by
    refine⟨_,?_,rfl⟩;rw[YC R2.ZG.2,if_pos ⟨by simp[bt],rfl⟩];rfl
   simp -implicitDefEqProofs only[go_sem,↓reduceIte,f0,f1,f4,f5,f9,hgt,CD,w4];have kk:Kp (fun t=>t=.Zj i) o g2 o g4:=by rw[h4];exact (Kp.refl K2.ZX (fun t=>t=.Zj i)).set R2.ZG.1 rfl _
   have R4:YR o i g4 ra { r with prop:=pk,begun:=true }:=⟨⟨R2.ZG.1,by rw[h4];exact Zy R2.ZG.2⟩,R2.prom.Zd kk (by intro e;cases e),R2.SD.Zd kk,R2.prop.Zd kk (by intro e;cases e),R2.Xz.Zd kk (by intro e;cases e),R2.Ti.Zd kk (fun _ e=>by cases e),R2.keys⟩
   rw[←vJ];refine⟨ra,rfl,K2.trans (kk.mono fun t q=>.inl q),N2.ZG.Zd kk (by intro e;cases e),ZV.QH N2.pt (kk.mono fun t q=>.inl q) rfl rfl R4⟩
end Go.Proofs.YtboeoomhjbcecaaGreatDoor
