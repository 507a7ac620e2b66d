/- Part Txc. -/
import Derived.Test.YtkhkmpfenaipaaaGreatDoorMif
import Derived.Test.YtkhkmpfenaipaaaGreatDoorLchks
import Derived.Test.YtkhkmpfenaipaaaGreatDoorPak
open Go.Value renaming int→O,slice→U,bool→ak,agg→an,pointer→ax
open Go.IntKind renaming i64→H
open Go.Obj renaming cells→ae
open Go.Proofs.Tryz renaming prog→aC
open List renaming length→W,toArray→ao,take_of_length_le→aw,mem_map→aH,length_append→aI,getElem_mem→aS,take_append_of_le_length→aV,foldl_cons→aW,mem_of_mem_eraseIdx→a2,length_take→a5,length_map→a8,mem_of_mem_take→ba,drop_left→bc,foldl_append→bf,range_succ→bl,map_append→bo,mem_append→bq,range→bt,drop_drop→bw,map_take→bA
open Nat renaming le_refl→aq,zero_le→aL,le_trans→aX,lt_of_lt_of_le→a0,mul_le_mul_right→a9,le_succ→bh,min_eq_left→bp
open Int renaming tmod_eq_emod_of_nonneg→a1,toNat_natCast→bg
open Option renaming map_eq_some_iff→a6,map_some→br,some→Y,none→aa
open Array renaming setIfInBounds→am,getElem?_push→bd,size_push→bk
open Classical renaming byContradiction→aF
open Go renaming Value→al
namespace Go.Proofs.YtkhkmpfenaipaaaGreatDoor
set_option maxHeartbeats 8000000
open Go Go.V
set_option linter.all false
set_option maxRecDepth 100000
variable(T:World){M:Nat->ZN}{S:Cm->Prop}{b:ZN}{k:Nat}
def ZlK(h:Hp)(o:Ow)(wb:Nat)(Y6:Nat->Nat)(XY:WA)(w:Wd)(a:Ac)(dv:al)(d:V3 o h)(A:Q4 o h wb Y6 XY w)(ok:WOk w)(hk:1<=a.a/\a.a<=9)(hi:a.ZM<5)(iv:Rb o h dv a.data)(c9:(W a.data)<=140737488355328)(tb:j1 o h):
  Zg aC T 31 #[ZC wb,an (Ob a.a a.ZM a.at' a.Zh dv).toArray] h fun v' h'=>∃Q JY cv,Kp RM o h Q h'/\Q4 Q h' wb cv JY (act w a):=by
 let⟨pd,cd,bS,WF⟩:=iv.1.fits;have ic:RT dv:=by rw[bS];exact WF
 subst bS;refine Zg.X8 [_,_] Tryz.func31 ?_;unfold ZC Ob;let⟨f,Jt⟩:=ZO (h.push (ae (Ob a.a a.ZM a.at' a.Zh (U pd (W a.data) cd)).toArray 41):Hp);have B:Kp WL o h o f:=by rw[Jt];exact YK d _
 have x3:Yo o f h.size (ae (Ob a.a a.ZM a.at' a.Zh (U pd (W a.data) cd)).toArray 41):=⟨d _ (aq _),zK⟩
 have e0:=Jt.symm;unfold Ob at e0;have I:=A.Zt B;have tb1:=tb.Zh B;have R1:=Je I.wd.Yb.2;have Rn:=R1.Za;let⟨b,off,c,hn,b8,hb,Ik⟩:=Sm I.wd;rw[hn]at Rn;have bW:=Zb I.wd.Yb.2;have P:hc f ⟨h.size,0,aa⟩=Y (O H a.a):=Zr x3.2;have q1:hc f ⟨h.size,1,aa⟩=Y (O H a.ZM):=Zr x3.2;have q2:hc f ⟨h.size,2,aa⟩=Y (O H a.at'):=Zr x3.2;have q3:hc f ⟨h.size,3,aa⟩=Y (O H a.Zh):=Zr x3.2;have q4:hc f ⟨h.size,4,aa⟩=Y (U pd (W a.data) cd):=Zr x3.2;have l3:=Zb x3.2;have ri:=Ik a.ZM hi;unfold ZC at ri;have ga:(a.ZM:Int)<5:=uh;let⟨na,N1⟩:=I.nd a.ZM hi;have T4:=Zb N1.Yb.2;have c4:=iv.Zh B;have Di:a.a=1\/a.a=2\/a.a=3\/(a.a=4\/a.a=5\/a.a=6)\/a.a=7\/a.a=8\/a.a=9:=uh;rcases Di with e|e|e|e|e|e|e
 ·-- a command
  have X:act w a=Wj w a.ZM a.data:=by unfold act;rw[if_pos e]
  rw[X];rw[e]at P;have cs:=ya T f o wb Y6 XY w a.ZM a.data (U pd (W a.data) cd) B.YG I hi (ok.me _ hi) c4 ic c9 tb1 (by have:=ok.ZD _ hi;omega) (by have:=ok.ZF _ hi;omega) (by have:=ok.e _ hi;omega) (by have:=ok.ZH;omega) (ok.YP _ hi);unfold ZC at cs;simp only[go_sem,e0,P];refine VS.z (f.size) [11] (.p 0 (.p 1 (.p 2 (.p 3 (.q 4 (.p 5 (.q 6 (.p 7 (.q 8 (.p 9 (.q 10 (.w 11 .nil)))))))))))) mixed zI ?_;simp only[go_sem,Rn,q1,q4,bW,l3,hb,ga,ri];refine cs.use ?_;rintro v' g ⟨Q,JY,u,A'⟩;simp only[go_sem];exact⟨Q,JY,Y6,(Y9 B).trans u,A'⟩
 ·-- to lead
  have X:act w a=w.set a.ZM (lead (w.Za a.ZM)):=by unfold act;rw[if_neg uh,if_pos e]
  rw[X];rw[e]at P;have cs:=Zhw T f o wb a.ZM (Y6 a.ZM) na (w.Za a.ZM) B.YG N1 (ok.ZAj _ hi) (ok.Rd _ hi);unfold ZC at cs;simp only[go_sem,e0,P];refine VS.z (f.size) [9] (.p 0 (.p 1 (.p 2 (.p 3 (.q 4 (.p 5 (.q 6 (.p 7 (.q 8 (.w 9 .nil)))))))))) mixed zI ?_;simp only[go_sem,Rn,q1,bW,l3,hb,ga,ri];refine cs.use ?_;rintro v' g ⟨Q,a',u,N'⟩;simp only[go_sem];exact⟨Q,XY,Y6,(Y9 B).trans (Y9 u),I.YO (u.mono fun t q=>.inr (.inr (.inr q))) N' (I.wd.Zh u fun t q e=>by grind)⟩
 ·-- a step
  have X:act w a=w.out a.ZM (step (w.Za a.ZM)):=by unfold act;rw[if_neg uh,if_neg uh,if_pos e]
  rw[X];rw[e]at P;have cs:=Zdk T f o wb a.ZM (Y6 a.ZM) Y6 na (w.Za a.ZM) XY w.b w.YP w.ZH B.YG N1 I.wd tb1 (ok.step _ hi);unfold ZC at cs;simp only[go_sem,e0,P];refine VS.z (f.size) [9] (.p 0 (.p 1 (.p 2 (.p 3 (.q 4 (.p 5 (.q 6 (.p 7 (.q 8 (.w 9 .nil)))))))))) mixed zI ?_;simp only[go_sem,Rn,q1,bW,l3,hb,ga,ri];refine cs.use ?_;rintro v' g ⟨Q,a',JY,u,N',W'⟩;simp only[go_sem];exact⟨Q,JY,Y6,(Y9 B).trans (Y9 u),I.YO u N' W'⟩
 ·-- a letter
  have X:act w a=pick w a.at' (decide (a.a≠5)) (decide (a.a=6)):=by unfold act;rw[if_neg uh,if_neg uh,if_neg uh,if_pos e]
  rw[X];have cs:=Zdl T f o wb Y6 XY w a.at' (decide (a.a≠5)) (decide (a.a=6)) B.YG I ok.to (by have:=ok.room;omega) (fun j hj=>by have:=ok.Zd j hj;omega);unfold ZC at cs;rcases e with e|e|e
  all_goals
   rw[e]at P cs ⊢;rw[e]at e0;simp only[go_sem,e0,P,q2];refine cs.use ?_;rintro v' g ⟨Q,JY,u,A'⟩;simp only[go_sem];exact⟨Q,JY,Y6,(Y9 B).trans u,A'⟩
 ·-- all tD
  have X:act w a=w.b.foldl XN { w with b:=[] }:=by unfold act;rw[if_neg uh,if_neg uh,if_neg uh,if_neg uh,if_pos e]
  rw[X];rw[e]at P;have Xq:=ok.room;let⟨pf,cf,hf,cA⟩:=PM I.wd.b;have Rf:=R1.b;rw[hf]at Rf;let⟨y,w2,W2,k2⟩:=I.wd.Au (fl':=[]) (v:=U aa 0 0) (Kp.refl B.YG (fun t=>t=.b)) ⟨[],rfl,Xk.nil _ _ _ _ _,fun x hx=>by cases hx⟩ (R1.bV (U aa 0 0) rfl);have A2:Q4 o y wb Y6 { XY with b:=U aa 0 0 } { w with b:=[] }:=I.Zhr k2 (by rintro t rfl;rfl) W2;have L2:Ww o .b y (U pf w.b.length cf) w.b:=by rw[<-hf];exact I.wd.b.Zh k2 zK
  have R:Kp RM o h o y:=(Y9 B).trans (Y9 k2);simp only[go_sem,e0,P,Rf,bW,w2];refine VS.YC (fun F g=>F 0=ax (Y ⟨wb,0,aa⟩)/\F 118=U pf w.b.length cf/\F 119=O H w.b.length/\∃(j:Nat) (Q:Ow),j<=w.b.length/\F 120=O H j/\Kp RM o h Q g/\Q4 Q g wb Y6 { XY with b:=U aa 0 0 } ((w.b.take j).foldl XN { w with b:=[] })/\Ww Q .b g (U pf w.b.length cf) w.b)
   (fun F _=>w.b.length-(vi (F 120)).toNat) rfl ⟨rfl,rfl,rfl,0,o,aL _,rfl,R,A2,L2⟩ ?_
  rintro F3 C ⟨f0,f118,f119,j,o3,hj,f120,K3,A3,L3⟩;by_cases Ye:j<w.b.length
  .have Yh:(j:Int)<w.b.length:=uh;let⟨v,b3,cR,c3,hv,cz,cB,bn,b1⟩:=th L3 j Ye;simp only[Value.slice.injEq]at hv;obtain⟨rfl,_,rfl⟩:=hv;let⟨l,hl⟩:=ZO (w.b[j]);rw[<-hl]at bn b1;have zN:l∈w.b:=by rw[hl];exact aS Ye
   obtain⟨pw,cw,rfl⟩:=b1.ZR;let⟨V,Hf⟩:=ZO (C.push (ae (Jk l (U pw (W l.vs) cw)).toArray 143):Hp);have z:Kp WL o3 C o3 V:=by rw[Hf];exact YK K3.YG _
   have x6:Yo o3 V C.size (ae (Jk l (U pw (W l.vs) cw)).toArray 143):=⟨K3.YG _ (aq _),zK⟩
   have e4:=Hf.symm;have r6:rd V ⟨C.size,0,aa⟩ 14=Y (Jk l (U pw (W l.vs) cw)):=ZB x6.2 rfl;let⟨wj,bR⟩:=ZO ((w.b.take j).foldl XN { w with b:=[] });rw[<-bR]at A3;have Jy:(w.b.take (j+1)).foldl XN { w with b:=[] } = XN wj l:=by
    rw[Xg _ j Ye,<-hl,bf,<-bR];rfl
   have cc:=ce T V o3 wb Y6 _ wj l (U pw (W l.vs) cw) z.YG (A3.Zt z) (b1.Zh z) (ok.to l zN) (fun i hi=>by
    grind [iR,WOk.Zd])
   unfold ZC Jk at cc;unfold Jk at e4 r6 bn;simp only[go_sem,f0,f118,f119,f120,Yh,bn,e4,r6];refine cc.use ?_;rintro v' J ⟨o5,k5,A5⟩;simp only[go_sem,f120];unfold Xz;refine⟨⟨f0,f118,f119,j+1,o5,Ye,rfl,(K3.trans (Y9 z)).trans (Y9 k5),zK,(L3.Zh z (fun q=>q.elim)).Zh k5 (by rintro⟨_,e⟩;cases e)⟩,?_⟩;simp only[vi,Zu,↓reduceIte,f120];omega
  .have XX:¬(j:Int)<w.b.length:=uh;obtain rfl:j=w.b.length:=uh;rw[aw (aq _)]at A3;simp only[go_sem,f119,f120,XX]
   grind
 ·-- a ZFV
  have X:act w a=w.set a.ZM (Y4 a.ZM (w.Za a.ZM) a.Zh):=by unfold act;rw[if_neg uh,if_neg uh,if_neg uh,if_neg uh,if_neg uh,if_pos e]
  rw[X];rw[e]at P;let⟨n,jX⟩:=ZO (w.Za a.ZM);have bb:=ok.data _ hi;rw[<-jX]at N1 bb;have P1:=ZU N1.Yb.2 N1.pt.store.len;have cx:=P1.up;simp only[go_sem,e0,P];refine VS.mono (N:=fun F' g'=>Zm f.size f g'/\F' 0=ax (Y ⟨wb,0,aa⟩)/\F' 3=ax (Y ⟨h.size,0,aa⟩)/\F' 7=ax (Y ⟨Y6 a.ZM,0,aa⟩)) ?_ ?_ (fun _ _ _ h=>h) (fun _ _ h=>h)
  .refine VS.z (f.size) [] (.p 0 (.p 1 (.p 2 (.q 3 (.p 4 (.q 5 (.p 6 (.q 7 (.p 8 .nil))))))))) mixed zI ?_;simp only[go_sem,Rn,q1,bW,l3,hb,ga,ri]
   try exact Zm.refl _ _
  rintro F2 y ⟨b2,f0,f3,f7⟩;have NH:=Z9 B.YG b2;have A2:=I.Zt NH;have N2:=N1.Zt NH;have R:=B.trans NH;have y3:=x3.Zh NH;have P2:=ZU N2.Yb.2 N2.pt.store.len;have td:=P2.up;have UP:=Zb N2.Yb.2;clear P1 cx
  cases hu:n.up with
  | false=>
   rw[hu]at td;have e1:Y4 a.ZM (w.Za a.ZM) a.Zh=w.Za a.ZM:=by unfold Y4;rw[<-jX,if_neg (by rw[hu];simp)]
   rw[e1,iP];simp only[go_sem,f7,td];exact⟨o,XY,Y6,Y9 R,A2⟩
  | true=>
   rw[hu]at td;let⟨pt,ct,zS⟩:=N2.pt.data.1.ZR;have zS:na.data=U pt (W n.data) ct:=zS;have a3:=P2.tape;rw[zS]at a3;have ND:=N2.pt.data;rw[zS]at ND;obtain⟨L,Z,E,cq⟩:∃L Z E,Nr n.data n.XI a.Zh=(L,Z,E):=⟨_,_,_,rfl⟩
   have q3:hc y ⟨h.size,3,aa⟩=Y (O H a.Zh):=Zr y3.2;have l3:=Zb y3.2;have call:∀G,Zm y.size y G->Zg aC T 57 #[an #[U pt (W n.data) ct,O H n.XI],O H a.Zh] G fun v' h'=>Zm G.size G h'/\rE G.size h' v' (L,Z,E):=fun G hG=>by
    rw[<-cq];exact ZbK T G _ n.XI a.Zh n.data (ND.bs.YQ hG) uh
   have wT:∀(G:Hp) (k:Nat) (m:Int) (p:Option Addr) (L c:Nat),G[k]? = Y (ae [U aa 0 0,O H 0].toArray 95)->wr G ⟨k,0,aa⟩ [U p L c,O H m]=Y (am G k (ae [U p L c,O H m].toArray 95)):=fun G k m p L c hx=>by
    rw[Yr hx 0 _];rfl
   rw[oC a.ZM (w.Za a.ZM) a.Zh L Z E zK zK];simp only[go_sem,f7,td];refine VS.mono (N:=fun F' g'=>F' 0=ax (Y ⟨wb,0,aa⟩)/\F' 3=ax (Y ⟨h.size,0,aa⟩)/\Zm y.size y g'/\∃kt p c,F' 8=ax (Y ⟨kt,0,aa⟩)/\g'[kt]? = Y (ae [U p (W L) c,O H Z].toArray 95)/\Rb o g' (U p (W L) c) L) ?_ ?_ (fun _ _ _ h=>h) (fun _ _ h=>h)
   .refine VS.z (y.size) [6,11] (.p 0 (.p 1 (.p 2 (.q 3 (.p 4 (.q 5 (.or 6 (.p 7 (.p 8 (.p 9 (.s 10 (.w 11 (.p 12 .nil)))))) (.s 10 (.w 6 (.p 7 (.p 8 (.p 9 (.w 11 (.p 12 .nil)))))))))))))) mixed zI ?_;simp only[go_sem,f0,f3,f7,a3,q3,UP,l3]
    repeat' (first|with_reducible exact Zm.refl _ _|with_reducible exact Zm.push uh _|with_reducible refine And.intro ?_ ?_)
    all_goals first
     | (refine (call y (Zm.refl _ _)).use ?_
        rintro _ J ⟨b5,p5,c5,L',Z',E',hz,rfl,bs,b6,ie⟩
        cases hz
        have s5:=b5.size;have u:=Z9 R.YG b5;have im:Rb o J (U p5 (W L) c5) L:=Dl u.YG bs b6 fun b hb=>⟨R.YG b (ie b hb).1,(ie b hb).2⟩
        simp only[go_sem,b5];exact⟨f0,f3,_,_,_,rfl,Zf,im.Zh (YK u.YG _)⟩)
     | (refine (call (y.push (ae _ 95)) (Zm.push (aq _) _)).use ?_
        rintro _ J ⟨b5,p5,c5,L',Z',E',hz,rfl,bs,b6,ie⟩
        cases hz
        have B5:Zm y.size y J:=(Zm.push (aq _) _).trans (b5.mono zX);have xA:=b5.get (k:=y.size) zX Zf;have OL:=wT _ _ Z p5 (W L) c5 xA;have zA:=Zb xA;have u:=Z9 R.YG B5;have im:Rb o J (U p5 (W L) c5) L:=Dl u.YG bs b6 fun b hb=>⟨R.YG b (by have:=(ie b hb).1;rw[bk]at this;omega),(ie b hb).2⟩
        have ks:=iQ u.YG im zA (fun b hb=>by have:=(ie b hb).1;rw[bk]at this;omega) (ae [U p5 (W L) c5,O H Z].toArray 95);simp only[go_sem,B5,OL,zA];exact⟨f0,f3,_,_,_,rfl,Yp xA,ks⟩)
   clear f0 f3 f7;rintro F3 C ⟨f0,f3,b3,kt,p3,c3,f8,yt,c6⟩;have Sx:=Z9 R.YG b3;have K3:=R.trans Sx;have A3:=A2.Zt Sx;have z3:=y3.Zh Sx;let⟨b,off,c,hn,b8,hb,Ik⟩:=Sm A3.wd;have R3:=Je A3.wd.Yb.2;have Rn:=R3.Za;rw[hn]at Rn;have bW:=Zb A3.wd.Yb.2;have q1:hc C ⟨h.size,1,aa⟩=Y (O H a.ZM):=Zr z3.2;have l3:=Zb z3.2;have rt:rd C ⟨kt,0,aa⟩ 2=Y [U p3 (W L) c3,O H Z]:=ZB yt rfl;have lt:=Zb yt;have cb:Zg aC T 51 #[O H a.ZM,an #[U p3 (W L) c3,O H Z],an #[O H 0,O H 0,U aa 0 0]] C _:=Dj T C o wb a.ZM (U p3 (W L) c3) L Z (U aa 0 0) Qj K3.YG c6 (Im.nil _ _ _ _);refine VS.z (C.size) [12] (.p 0 (.p 1 (.p 2 (.q 3 (.p 4 (.q 5 (.p 6 (.q 7 (.q 8 (.p 9 (.s 10 (.p 11 (.w 12 .nil))))))))))))) mixed zI ?_;simp only[go_sem,f0,f3,f8,Rn,q1,rt,bW,l3,lt,hb,ga];refine cb.use ?_;rintro _ V ⟨nb,o4,a4,rfl,b4,z,N4⟩;have W4:=A3.wd.Zh z aab;let⟨b',cu,c',J,Kt,w5,k5,W5⟩:=Av z.YG W4 a.ZM nb hi;rw[hn]at Kt;simp only[Value.slice.injEq,Option.some.injEq,Addr.mk.injEq,true_and,and_true]at Kt;obtain⟨⟨rfl,rfl⟩,rfl⟩:=Kt;have cn:b<V.size:=a0 hb b4.size;have N5:=N4.Zh k5 (by rintro t rfl e;cases e);have K5:Kp RM o h o4 J:=((Y9 K3).trans (Y9 z)).trans (Y9 k5);have z5:=(z3.Zh z).Zh k5;unfold ZC at w5 ⊢;simp only[go_sem,b4,w5,cn,ga];have R5:=Je W5.Yb.2;have bY:=R5.Za;rw[hn]at bY;let⟨cP,cS,cO,b9,_,ck,cr⟩:=Sm W5;rw[hn]at b9;simp only[Value.slice.injEq,Option.some.injEq,Addr.mk.injEq,true_and,and_true]at b9;obtain⟨⟨rfl,rfl⟩,rfl⟩:=b9;have b0:=cr a.ZM hi;simp only[↓reduceIte]at b0;unfold ZC at b0;have oy:=Zb W5.Yb.2;have c1:hc J ⟨h.size,1,aa⟩=Y (O H a.ZM):=Zr z5.2;have c2:=Zb z5.2;have Ly:=Zb N5.Yb.2;let⟨g6,w6,N6,k6⟩:=Yx.write (n:={ ZZ a.ZM true L Z Qj with up:=false }) (a:=a4) { N5.pt with } K5.YG N5.Yb ((X4 N5.Yb.2 N5.pt.store.len).up false);refine VS.z (J.size) [10] (.p 0 (.p 1 (.p 2 (.q 3 (.p 4 (.q 5 (.p 6 (.q 7 (.p 8 (.p 9 (.w 10 .nil))))))))))) mixed zI ?_;simp only[go_sem,f0,f3,bY,c1,oy,c2,ck,ga,b0,Ly,w6];have u:Kp (fun t=>t=.Za\/t.of=Y a.ZM) o C o4 g6:=((z.mono fun t q=>by rcases q with rfl|rfl<;>exact .inr rfl).trans (k5.mono fun t q=>.inl q)).trans (k6.mono fun t q=>.inr (by rw[q];rfl));exact⟨o4,XY,_,K5.trans (Y9 k6),A3.fresh u N6 (W5.Zh k6 HS)⟩
 ·-- a start
  have X:act w a=w.set a.ZM (started a.ZM (w.Za a.ZM)):=by unfold act;rw[if_neg uh,if_neg uh,if_neg uh,if_neg uh,if_neg uh,if_neg uh]
  rw[X];rw[e]at P;let⟨n,jX⟩:=ZO (w.Za a.ZM);have bb:=ok.data _ hi;rw[<-jX]at N1 bb;simp only[go_sem,e0,P];refine VS.mono (N:=fun F' g'=>Zm f.size f g'/\F' 0=ax (Y ⟨wb,0,aa⟩)/\F' 3=ax (Y ⟨h.size,0,aa⟩)/\F' 10=ax (Y ⟨Y6 a.ZM,0,aa⟩)) ?_ ?_ (fun _ _ _ h=>h) (fun _ _ h=>h)
  .refine VS.z (f.size) [] (.p 0 (.p 1 (.p 2 (.q 3 (.p 4 (.q 5 (.p 6 (.q 7 (.p 8 .nil))))))))) mixed zI ?_;simp only[go_sem,Rn,q1,bW,l3,hb,ga,ri]
   try exact Zm.refl _ _
  rintro F2 y ⟨b2,f0,f3,f10⟩;have NH:=Z9 B.YG b2;have A2:=I.Zt NH;have N2:=N1.Zt NH;have R:=B.trans NH;have md:=tb1.Zh NH;have y3:=x3.Zh NH;have P2:=ZU N2.Yb.2 N2.pt.store.len;have td:=P2.up;have UP:=Zb N2.Yb.2
  cases hu:n.up with
  | true=>
   rw[hu]at td;have e1:started a.ZM (w.Za a.ZM)=w.Za a.ZM:=by unfold started;rw[<-jX,if_pos hu]
   rw[e1,iP];simp only[go_sem,f10,td];exact⟨o,XY,Y6,Y9 R,A2⟩
  | false=>
   rw[hu]at td;let⟨pt,ct,zS,ca⟩:=N2.pt.data.1.fits;have zS:na.data=U pt (W n.data) ct:=zS;have a3:=P2.tape;rw[zS]at a3;have ND:=N2.pt.data;rw[zS]at ND;let⟨D,hD⟩:=ZO (Hc n.data n.XI);let⟨Z,hZ⟩:=ZO (nL n.data n.XI);let⟨s,bT⟩:=ZO (if Xo D Z then (Sj D).1 else Qj);have es:started a.ZM (w.Za a.ZM)=ZZ a.ZM true D Z s:=by unfold started;rw[<-jX,if_neg (by rw[hu];simp),bT,hD,hZ]
   rw[es];have cN:(W D)<=1000000:=by
    rw[hD];unfold Hc;split
    .grind
    .simp
   simp only[go_sem,f10,td,a3];refine (xt T y _ n.XI n.data ND.bs ca uh md.tk).use ?_;rintro v3 C ⟨R3,b3⟩;obtain⟨p3,c3,E3,rfl,o3⟩:∃p c E,v3=.tuple [an [U p (W D) c,O H Z].toArray,O H E].toArray/\YL y.size 5 C (U p (W D) c) D:=by
    obtain⟨r,k,E,w',rfl,ob,hk,hr⟩:=R3;have f:(if E=0 then n.data.take k else [])=D:=by
     rw[hD];unfold Hc;split at hr
     .rename_i q;rw[if_pos hr.1,if_pos q,Mu hr.2]
     .grind
    have h2:(if E=0 then (if (k:Int)<n.XI then (k:Int) else n.XI) else 0)=Z:=by
     rw[hZ];unfold nL;split at hr
     .rename_i q;rw[if_pos hr.1,if_pos q,Mu hr.2]
     .grind
    grind [YL.open]
   have Sx:=Z9 R.YG b3;let⟨V,Hf⟩:=ZO (C.push (ae [U p3 (W D) c3,O H Z].toArray 95):Hp);have z:Kp WL o y o V:=by rw[Hf];exact Sx.push _
   have bK:Yo o V C.size (ae [U p3 (W D) c3,O H Z].toArray 95):=⟨Sx.YG _ (aq _),zK⟩
   have e4:=Hf.symm;have bN:Rb o V (U p3 (W D) c3) D:=by rw[Hf];exact Rb.Zh ⟨Im.Vp o3.Zn (fun b hb=>R.YG b hb),o3.byte⟩ (YK Sx.YG _)
   have c0:rd V ⟨C.size,0,aa⟩ 2=Y [U p3 (W D) c3,O H Z]:=ZB bK.2 rfl;have tb4:=md.Zh z;simp only[go_sem,e4,c0];refine (EZ T V _ Z D bN.bs uh tb4.tk).use ?_;rintro v5 J ⟨R5,b5⟩;obtain⟨p5,c5,E5,cT,rfl,o5⟩:∃p c E K,v5=.tuple [an [O H s.p.r,O H s.p.n,U p (W s.l) c].toArray,O H K,O H E].toArray/\Ta o J (U p (W s.l) c) s.l:=by
    obtain⟨r,k,E,w',rfl,ob,hk,_,hr⟩:=R5;have f:r=s:=by
     rw[bT];split at hr
     .rw[if_pos aad,Mu hr.2]
     .grind
    rw[f]at ob ⊢;have im:Ta o J w' s.l:=Im.Vp ob.Zn (fun b hb=>z.YG b hb);obtain⟨p,c,rfl⟩:=im.ZR;exact⟨p,c,E,_,rfl,im⟩
   have Ap:=Z9 z.YG b5;let⟨g6,LY⟩:=ZO (J.push (ae [O H s.p.r,O H s.p.n,U p5 (W s.l) c5].toArray 100):Hp);have k6:Kp WL o V o g6:=by rw[LY];exact Ap.push _
   have bG:Yo o g6 J.size (ae [O H s.p.r,O H s.p.n,U p5 (W s.l) c5].toArray 100):=⟨Ap.YG _ (aq _),zK⟩
   have e6:=LY.symm;have K6:Kp WL o h o g6:=(R.trans z).trans k6;have c8:=bN.Zh k6;have c7:Ta o g6 (U p5 (W s.l) c5) s.l:=by rw[LY];exact o5.Zh (YK Ap.YG _)
   have A6:=(A2.Zt z).Zt k6;have z3:=(y3.Zh z).Zh k6;have bE:=bK.Zh k6;clear hn b8 hb Ik Rn bW q1 l3 ri;let⟨b,off,c,hn,b8,hb,Ik⟩:=Sm A6.wd;have R6:=Je A6.wd.Yb.2;have Rn:=R6.Za;rw[hn]at Rn;have bW:=Zb A6.wd.Yb.2;have q1:hc g6 ⟨h.size,1,aa⟩=Y (O H a.ZM):=Zr z3.2;have l3:=Zb z3.2;have rt:rd g6 ⟨C.size,0,aa⟩ 2=Y [U p3 (W D) c3,O H Z]:=ZB bE.2 rfl;have lt:=Zb bE.2;have ra:rd g6 ⟨J.size,0,aa⟩ 3=Y [O H s.p.r,O H s.p.n,U p5 (W s.l) c5]:=ZB bG.2 rfl;have la:=Zb bG.2;have cb:=Dj T g6 o wb a.ZM (U p3 (W D) c3) D Z (U p5 (W s.l) c5) s K6.YG c8 c7;simp only[go_sem,e6];refine VS.z (g6.size) [12] (.p 0 (.p 1 (.p 2 (.q 3 (.p 4 (.q 5 (.p 6 (.q 7 (.q 8 (.q 9 (.s 10 (.p 11 (.w 12 .nil))))))))))))) mixed zI ?_;simp only[go_sem,f0,f3,Rn,q1,rt,ra,bW,l3,lt,la,hb,ga];refine cb.use ?_;rintro _ g7 ⟨nb,o7,a7,rfl,b7,k7,N7⟩;have W7:=A6.wd.Zh k7 aab;let⟨b',cu,c',g8,Kt,w8,k8,W8⟩:=Av k7.YG W7 a.ZM nb hi;rw[hn]at Kt;simp only[Value.slice.injEq,Option.some.injEq,Addr.mk.injEq,true_and,and_true]at Kt;obtain⟨⟨rfl,rfl⟩,rfl⟩:=Kt;have cg:b<g7.size:=a0 hb b7.size;have N8:=N7.Zh k8 (by rintro t rfl e;cases e);have K8:Kp RM o h o7 g8:=((Y9 K6).trans (Y9 k7)).trans (Y9 k8);unfold ZC at w8 ⊢;simp only[go_sem,b7,w8,cg,ga];have u:Kp (fun t=>t=.Za\/t.of=Y a.ZM) o g6 o7 g8:=(k7.mono fun t q=>by rcases q with rfl|rfl<;>exact .inr rfl).trans (k8.mono fun t q=>.inl q);exact⟨o7,XY,_,K8,A6.fresh u N8 W8⟩
def Dr(Y6:Nat->Nat)(j:Nat):List al:=(bt j).map fun i=>ZC (Y6 i)
def oL(Y6:Nat->Nat)(j:Nat):Dr Y6 (j+1)=Dr Y6 j++[ZC (Y6 j)]:=by
 unfold Dr;rw[bl,bo];rfl
def oM(Y6:Nat->Nat)(j nb:Nat):Dr (fun i=>if i=j then nb else Y6 i) j=Dr Y6 j:=by
 grind [Dr,List.map_congr_left]
def Zdt(h:Hp)(o:Ow)(d:V3 o h):
  Zg aC T 30 #[] h fun v' h'=>∃wb Y6 c XY,v'=ZC wb/\Kp RM o h c h'/\Q4 c h' wb Y6 XY Qf:=by
 refine Zg.X8 [] Tryz.func30 ?_;let⟨wb,z⟩:=ZO (h.size);obtain⟨g1,Z⟩:∃g1:Hp,g1=h.push (ae (Jv (fun _=>0) ⟨U aa 0 0,U aa 0 0,U aa 0 0⟩).toArray 92):=⟨_,rfl⟩
 have C:=Z.symm;unfold Jv at C;simp only at C;have k1:Kp RM o h (Up o wb .world) g1:=by rw[Z,z];exact ((Kp.refl d RM).push _).Nj (aq _) zX trivial
 have B1:Ve (Up o wb .world) .world g1 wb (ae (Jv (fun _=>0) ⟨U aa 0 0,U aa 0 0,U aa 0 0⟩).toArray 92):=⟨Jh,zK⟩
 simp only[go_sem,C];rw[<-z];refine VS.YC (fun F g=>F 1=ax (Y ⟨wb,0,aa⟩)/\∃(j:Nat) (c:Ow) (Y6:Nat->Nat) (v:al),j<=5/\F 5=O H j/\Kp RM o h c g/\Ve c .world g wb (ae (Jv (fun _=>0) ⟨v,U aa 0 0,U aa 0 0⟩).toArray 92)/\Xk c .Za 93 1 g v j (Dr Y6 j)/\∀i,i<j->∃a,Yg c g wb i (Y6 i) a (ZZ i true [] 0 Qj))
  (fun F _=>5-(vi (F 5)).toNat) rfl ⟨rfl,0,_,fun _=>0,U aa 0 0,uh,rfl,k1,B1,Xk.nil _ _ _ _ _,fun i hi=>by omega⟩ ?_
 clear B1 k1 C Z;rintro F2 Q ⟨f1,j,o2,Y6,v,hj,y,V,I,R,N2⟩;by_cases Ye:j<5
 .have Yh:(j:Int)<5:=uh;obtain⟨pv,cv,rfl,_⟩:=R.ZR;have R2:=Je I.2;have Rn:=R2.Za;simp only at Rn;have bW:=Zb I.2;have cb:Zg aC T 51 #[O H j,an #[U aa 0 0,O H 0],an #[O H 0,O H 0,U aa 0 0]] Q _:=Dj T Q o2 wb j (U aa 0 0) [] 0 (U aa 0 0) Qj V.YG ⟨Im.nil _ _ _ _,fun x L=>by cases L⟩ (Im.nil _ _ _ _);simp only[go_sem,f1,y,Yh];refine VS.z (Q.size) [10,13] (.p 0 (.p 1 (.p 2 (.p 3 (.q 4 (.p 5 (.p 6 (.p 7 (.s 8 (.s 9 (.w 10 (.p 11 (.p 12 (.w 13 .nil)))))))))))))) mixed zI ?_;simp only[go_sem,f1,y,Rn,bW];refine cb.use ?_;rintro _ w ⟨nb,B,a3,rfl,b3,p,N3⟩;unfold ZC;simp only[go_sem,b3];let⟨s,X⟩:=ZO (w.push (ae [ZC nb].toArray 93):Hp);have e4:=X.symm;unfold ZC at e4;rw[e4];have m:Kp WL B w B s:=by rw[X];exact YK p.YG _
  have B4:=(I.Zh p (by rintro (e|e)<;>cases e)).Zh m (fun q=>q);have O4:=(R.Zh p (by rintro (e|e)<;>cases e)).Zh m (fun q=>q);have N4:=N3.Zt m;have M4:∀i,i<j->∃a,Yg B s wb i (Y6 i) a (ZZ i true [] 0 Qj):=fun i hi=>by
   let⟨a,N⟩:=N2 i hi;refine⟨a,(N.Zh p ?_).Zt m⟩
   grind [Hj,Tg.of]
  have x4:s[w.size]? = Y (ae [ZC nb].toArray 93):=by rw[X];exact Zf
  have src:Sl 1 s (U (Y ⟨w.size,0,aa⟩) 1 1) 1 [ZC nb]:=⟨_,1,rfl,rfl,fun _=>⟨w.size,0,rfl,fun i hi=>by
   grind [hc]⟩⟩
  refine QM (E:=93) (n:=1) (bytes:=8) (k:=1) ZoC Tryz.underlying89 ZwC ZwE rfl ZwD O4 m.YG src rfl uh uh ?_;intro v' l P O5 f _;have f:Kp (fun u=>u=.Za) B s l P:=f;obtain⟨A,D,rfl,_⟩:=O5.ZR;have G:=B4.Zh f zK;have J:=(Je G.2).Zli (U A (j+1) D) rfl;have oy:=Zb G.2;obtain⟨r,LY⟩:∃r,r=am P wb (ae (Jv (fun _=>0) ⟨U A (j+1) D,U aa 0 0,U aa 0 0⟩).toArray 92):=⟨_,rfl⟩
  simp only at J;rw[<-LY]at J;have K:Kp (fun t=>t=.world) l P l r:=by rw[LY];exact (Kp.refl f.YG (fun t=>t=.world)).set G.1 rfl _
  have B6:Ve l .world r wb (ae (Jv (fun _=>0) ⟨U A (j+1) D,U aa 0 0,U aa 0 0⟩).toArray 92):=⟨G.1,zK⟩
  have K6:Kp RM o h l r:=(((V.trans (Y9 p)).trans (Y9 m)).trans (Y9 f)).trans (Y9 K);simp only[go_sem,J,oy,y];unfold Xz;refine⟨⟨f1,j+1,l,(fun i=>if i=j then nb else Y6 i),U A (j+1) D,Ye,rfl,K6,B6,?_,fun i hi=>?_⟩,?_⟩
  .rw[oL,oM]
   grind [Xk.Zh]
  .by_cases e:i=j
   .subst e;refine⟨a3,?_⟩;simp only[↓reduceIte];exact (N4.Zh f (by rintro t rfl e;cases e)).Zh K (by rintro t rfl e;cases e)
   .let⟨a,N⟩:=M4 i uh;refine⟨a,?_⟩;simp only[if_neg e];exact (N.Zh f (by rintro t rfl e;cases e)).Zh K (by rintro t rfl e;cases e)
  .simp only[vi,Zu,↓reduceIte,y];omega
 .have XX:¬(j:Int)<5:=uh;obtain rfl:j=5:=uh;simp only[go_sem,f1,y,XX];exact⟨wb,Y6,o2,_,rfl,V,⟨I,R,⟨[],rfl,Xk.nil _ _ _ _ _,fun x L=>by cases L⟩,Xk.nil _ _ _ _ _⟩,fun i hi=>N2 i hi⟩
def oN(h:Hp)(u:al)(l:List Cm)(s:Ts Q9.C 5 h u l)(f:(W l)<=2199023255552):
  Zg aC T 32 #[u] h fun d h'=>QY h.size 43 Q9.C 5 h' d l/\Zm h.size h h':=by
 obtain⟨p,c,rfl,m⟩:=UD s;refine Zg.X8 [_] Tryz.func32 ?_
 cases p with
 | none=>
  have:l=[]:=by
   cases l with
   | nil=>rfl
   | cons x l=>grind
  subst this;simp only[go_sem];exact QY.nil _ _ _ _ _
 | some a=>
  simp only[go_sem];refine RZ (E:=43) (B:=h.size) (n:=5) (bytes:=40) fw Tryz.underlying35 Zkd Zbo rfl ZoA (fun _=>rfl) (QY.CE _ _ Q9.C 5 _ _) zX (s.YQ (Zm.push (aq _) _)) Fo uh ?_;intro d h' e hb _;simp only[go_sem];exact⟨zK,(Zm.push (aq _) _).trans hb⟩
structure Raw where
 k:Int
 n:Int
 a:Int
 b:Int
 data:List Nat
def Raw.ac(x:Raw):Ac:=⟨x.k,x.n.toNat,x.a.toNat,x.b,x.data⟩
def Raw.err(x:Raw):Int:=WQ x.k x.n x.a x.b (W x.data)
def Uq(x:Raw × al):List al:=Ob x.1.k x.1.n x.1.a x.1.b x.2
def Wz:List Raw->Int
 | []=>0
 | x :: l=>if x.err≠0 then x.err else Wz l
def RO(l:List Raw):Int:=if 100000<(W l) then 1 else Wz l
theorem Io(x:Raw × al):(Uq x).length=5:=rfl
theorem Ds{l:List Raw}{j:Nat}(a:j<(W l))(e:∀x∈l.take j,x.err=0)(d:l[j].err≠0):Wz l=l[j].err:=by
 induction l generalizing j with
 | nil=>simp at a
 | cons y l c=>
  cases j with
  | zero=>unfold Wz;grind
  | succ j=>
   grind [Wz.eq_def]
theorem NK{l:List Raw}(c:∀x∈l,x.err=0):Wz l=0:=by
 induction l with
 | nil=>rfl
 | cons y l a=>grind [Wz.eq_def]
def Ox{x:Raw}(h:x.err=0):(1<=x.k/\x.k<=9)/\(0<=x.n/\x.n<=4)/\(0<=x.a/\x.a<=1048576)/\(0<=x.b/\x.b<=100000)/\(W x.data)<=2000:=by
 unfold Raw.err WQ at h;by_cases a:1<=x.k/\x.k<=9
 case neg=>grind
 grind
def Xx(xs:List (Raw × al)):List Raw:=xs.map (·.1)
def Mx:Ow:=fun _=>aa
def Hl(h:Hp):V3 Mx h:=fun _ _=>rfl
def Hm{S:Tg->Prop}{h h':Hp}{a:Ow}(k:Kp S Mx h a h'):Zm h.size h h':=
 ⟨k.size,fun b hb=>(k.Zh b hb fun t c=>by cases c).1⟩
def zT:List al:=[O H 0,ak false,ak false,ak false,ak false,ak false,U aa 0 0,O H 0,O H 0,O H 0,O H 0,O H 0,U aa 0 0]
def oP(w:Wd)(lv tv:al):List al:=[O H w.b.length,ak (w.Za 0).up,ak (w.Za 1).up,ak (w.Za 2).up,ak (w.Za 3).up,ak (w.Za 4).up,lv,O H (w.YP 0),O H (w.YP 1),O H (w.YP 2),O H (w.YP 3),O H (w.YP 4),tv]
structure oQ(h:Hp)(R:List al)(w:Wd)(lv tv:al)(vs:List al):Prop where
 cells:R=oP w lv tv
 ZqN:Ts (fun v=>[v]) 1 h lv vs
 each:fu (fun v l=>Ts Q9.C 5 h v l) vs [(w.Za 0).ZF,(w.Za 1).ZF,(w.Za 2).ZF,(w.Za 3).ZF,(w.Za 4).ZF]
 ZH:Ts NE 5 h tv w.ZH
 ZNR:fu (fun v (l:List Cm)=>∃p c,v=U p (W l) c/\(W l)<=c) vs [(w.Za 0).ZF,(w.Za 1).ZF,(w.Za 2).ZF,(w.Za 3).ZF,(w.Za 4).ZF]
def Tf(B:Nat)(h:Hp)(R:List al)(w:Wd)(lv tv:al)(vs:List al):Prop:=∀G:Hp,(∀b,B<=b->b<h.size->G[b]? = h[b]?)->oQ G R w lv tv vs
def Tf.at{B:Nat}{h:Hp}{R:List al}{w:Wd}{lv tv:al}{vs:List al}(s:Tf B h R w lv tv vs):oQ h R w lv tv vs:=s h fun _ _ _=>rfl
def Tf.YQ{B:Nat}{h h':Hp}{R:List al}{w:Wd}{lv tv:al}{vs:List al}(s:Tf B h R w lv tv vs)(b:Zm h.size h h'):Tf B h' R w lv tv vs:=
 fun G a=>s G fun k d c=>by grind [Zm.block]
def Tf.set{B:Nat}{h:Hp}{R:List al}{w:Wd}{lv tv:al}{vs:List al}(s:Tf B h R w lv tv vs)(a:k<B)(x:Obj):Tf B (am h k x) R w lv tv vs:=
 fun G c=>s G fun b e d=>by grind
def Ax(B:Nat)(h':Hp)(a:al)(l:List Raw):Prop:=
 if RO l=0 then ∃R lv tv vs,a=.tuple #[an (ao R),O H 0]/\Tf B h' R (Tx (l.map Raw.ac)) lv tv vs
 else a=.tuple #[an (ao zT),O H (RO l)]
def Ay{h:Hp}{v:al}{l:List (Raw × al)}(s:Ts Uq 5 h v l):∃p c,v=U p (W l) c/\(l≠[]->∃b o,p=Y ⟨b,o,aa⟩/\b<h.size/\∀i (hi:i<(W l)),rd h ⟨b,o+i*5,aa⟩ 5=Y (Uq l[i])):=by
 grind [Ts.open,Io,YU.rd]
def dy(w:Wd)(j:Nat)(lv tv:al):List al:=[O H w.b.length,ak (if 0<j then (w.Za 0).up else false),ak (if 1<j then (w.Za 1).up else false),ak (if 2<j then (w.Za 2).up else false),ak (if 3<j then (w.Za 3).up else false),ak (if 4<j then (w.Za 4).up else false),lv,O H (w.YP 0),O H (w.YP 1),O H (w.YP 2),O H (w.YP 3),O H (w.YP 4),tv]
def tE(w:Wd)(j:Nat)(lv tv:al):(dy w j lv tv).length=13:=rfl
def ZlO(w:Wd)(j:Nat)(lv tv:al)(a:j<5):(dy w j lv tv).set (1+j) (ak (w.Za j).up)=dy w (j+1) lv tv:=by
 grind [dy]
def ZhG(w:Wd)(j:Nat)(lv a tv:al):(dy w j lv tv).set 6 a=dy w j a tv:=rfl
def Ho(w:Wd)(j:Nat):List (List Cm):=(bt j).map fun i=>(w.Za i).ZF
def iW(w:Wd)(j:Nat):Ho w (j+1)=Ho w j++[(w.Za j).ZF]:=by
 unfold Ho;rw[bl,bo];rfl
def oR(t:Tg):Prop:=t=.ZF 100\/t=.ZF 101
def Ip{α β:Type}{R R':α->β->Prop}{l:List α}{k:List β}(s:fu R l k)(h:∀x y,R x y->R' x y):fu R' l k:=by
 induction s with
 | nil=>exact .nil
 | cons a _ c=>exact .cons (h _ _ a) c
def yj(l:List al):ZW (fun v=>[v]) l=l:=by
 induction l with
 | nil=>rfl
 | cons x l a=>
  grind [ZW]
def Zdu{o:Ow}{t:Tg}{E:TypeId}{n m b:Nat}{h:Hp}{v:al}{cs:List al}(s:Xk o t E n h v m cs)(hb:Yq v=Y b):o b=Y t:=by
 rcases s with⟨⟨q,rfl⟩,_,_⟩|⟨p,j,cap,pre,ZT,l,rfl,f,e,d,c,a⟩
 .cases q<;>simp[Yq]at hb
 .unfold Yq at hb
  grind
def tF{o:Ow}{t:Tg}{E:TypeId}{n m:Nat}{h G:Hp}{v:al}{cs:List al}(s:Xk o t E n h v m cs)(a:∀b,o b=Y t->b<h.size->G[b]? = h[b]?):Xk o t E n G v m cs:=by
 grind [Xk]
def ZqO{o:Ow}{n m:Nat}{h G:Hp}{v:al}{cs:List al}(s:Im o n h v m cs)(u:∀b,Yq v=Y b->b<h.size->G[b]? = h[b]?):Sl n G v m cs:=by
 obtain⟨⟨p,c,rfl,a,d⟩,⟨q,c',f,r⟩,t⟩:=s;simp only[Value.slice.injEq,true_and]at f;obtain⟨rfl,rfl⟩:=f;refine⟨p,c,rfl,a,fun l=>?_⟩;obtain⟨b,off,rfl,w⟩:=d l;have x:c≠0:=by
  intro e;have:m=0:=uh;rw[this,Nat.zero_mul]at a;exact l (List.eq_nil_of_length_eq_zero a)
 grind [Yq,YU,hc]
def iX{S:Tg->Prop}{h h':Hp}{a:Ow}{t:Tg}{b:Nat}(k:Kp S Mx h a h')(hb:a b=Y t):h.size<=b:=by
 refine aF fun q=>?_;let⟨_,c⟩:=k.Zh b uh (fun t d=>by cases d);rw[hb]at c;cases c
def ZhH(h:Hp)(v:al)(xs:List (Raw × al))(hv:Ts Uq 5 h v xs)(hx:∀x∈xs,Rb Mx h x.2 x.1.data)(tb:j1 Mx h)(dp:xs.length<=4611686018427387904)(inv:(∀x∈Xx xs,x.err=0)->xs.length<=100000->∀j,j<=xs.length->WOk (Tx (((Xx xs).take j).map Raw.ac))):
  Zg aC T 16 #[v] h fun v' h'=>Zm h.size h h'/\Ax h.size h' v' (Xx xs):=by
 obtain⟨p,c,rfl,Jx⟩:=Ay hv;refine Zg.Kq [_] Tryz.func16 ?_;obtain⟨d,Jt⟩:=ZO (h.push (.cells zT.toArray 30):Hp);have e1:=Jt.symm;unfold zT at e1;have b1:Zm h.size h d:=by rw[Jt];exact Zm.push (aq _) _
 have s1:d.size=h.size+1:=by rw[Jt];simp
 have x2:d[h.size]? = Y (.cells zT.toArray 30):=by rw[Jt];exact Zf
 have rl:(Xx xs).length=xs.length:=by unfold Xx;simp
 have rz:∀G:Hp,Zm d.size d G->G[h.size]? = Y (.cells zT.toArray 30):=fun G hG=>hG.get uh x2;have wz:∀G:Hp,Zm d.size d G->wr G ⟨h.size,0,aa⟩ [.int .i64 0,.bool false,.bool false,.bool false,.bool false,.bool false,.slice aa 0 0,.int .i64 0,.int .i64 0,.int .i64 0,.int .i64 0,.int .i64 0,.slice aa 0 0]=Y G:=fun G hG=>by
  rw[Yr (rz G hG) 0 _];have:(G.setIfInBounds h.size (.cells (XB zT 0 [.int .i64 0,.bool false,.bool false,.bool false,.bool false,.bool false,.slice aa 0 0,.int .i64 0,.int .i64 0,.int .i64 0,.int .i64 0,.int .i64 0,.slice aa 0 0]).toArray 30))=G:=EF (rz G hG);rw[if_pos ⟨by simp[zT],rfl⟩]
  grind
 have rr:∀G:Hp,Zm d.size d G->rd G ⟨h.size,0,aa⟩ 13=Y [.int .i64 0,.bool false,.bool false,.bool false,.bool false,.bool false,.slice aa 0 0,.int .i64 0,.int .i64 0,.int .i64 0,.int .i64 0,.int .i64 0,.slice aa 0 0]:=fun G hG=>ZB (rz G hG) rfl;have w0:=wz d (Zm.refl _ _);have r0:=rr d (Zm.refl _ _);have l0:=Zb x2;by_cases c3:100000<xs.length
 .have bE:(xs.length:Int)>100000:=uh;have e2:RO (Xx xs)=1:=by unfold RO;rw[rl,if_pos c3]
  simp only[go_sem,e1,bE,w0,r0]
  grind [Ax]
 have bE:¬(xs.length:Int)>100000:=uh;have cP:xs.length<=100000:=uh;have e2:RO (Xx xs)=Wz (Xx xs):=by unfold RO;rw[rl,if_neg c3]
 have cO:∀i (hi:i<xs.length),(Xx xs)[i]'(by rw[rl];exact hi)=xs[i].1:=fun i hi=>by unfold Xx;simp
 simp only[go_sem,e1,bE];refine VS.YC (fun F g=>F 0=.slice p xs.length c/\F 2=.pointer (Y ⟨h.size,0,aa⟩)/\F 17=.slice p xs.length c/\F 18=.int .i64 xs.length/\Zm d.size d g/\∃j:Nat,j<=xs.length/\F 19=.int .i64 j/\∀x∈(Xx xs).take j,x.err=0)
  (fun F _=>xs.length-(vi (F 19)).toNat) rfl ⟨rfl,rfl,rfl,rfl,Zm.refl _ _,0,aL _,rfl,fun x hx=>by simp at hx⟩ ?_
 rintro F2 D ⟨f0,f2,f17,f18,b2,j,hj,f19,hz⟩;by_cases f:j<xs.length
 .have Yh:(j:Int)<xs.length:=uh;obtain⟨bb,oo,rfl,Sb,Ik⟩:=Jx zK;obtain⟨x,LW⟩:=ZO (xs[j]);have b0:x∈xs:=by rw[LW];exact aS f
  have iv:=hx x b0;obtain⟨L,X,PK⟩:=iv.1.ZR;have r1:rd D ⟨bb,oo+j*5,aa⟩ 5=Y (Uq x):=by rw[Ut (b1.trans (b2.mono uh)) Sb,LW];exact Ik j f
  unfold Uq Ob at r1;rw[PK]at r1;obtain⟨g3,iJ⟩:=ZO (D.push (.cells (Ob x.1.k x.1.n x.1.a x.1.b (.slice L x.1.data.length X)).toArray 41):Hp);have e3:=iJ.symm;have y3:g3[D.size]? = Y (.cells (Ob x.1.k x.1.n x.1.a x.1.b (.slice L x.1.data.length X)).toArray 41):=by rw[iJ];exact Zf
  have r3:rd g3 ⟨D.size,0,aa⟩ 5=Y (Ob x.1.k x.1.n x.1.a x.1.b (.slice L x.1.data.length X)):=ZB y3 rfl;unfold Ob at e3 r3;have b3:Zm d.size d g3:=by rw[iJ];exact b2.Xj b2.size _
  have ck:=CP T g3 x.1.k x.1.n x.1.a x.1.b L x.1.data.length X;unfold IW at ck;simp only[go_sem,f0,f2,f17,f18,f19,Yh,r1,e3,r3];refine ck.use ?_;rintro _ a ⟨rfl,b4⟩;have B4:Zm d.size d a:=b3.trans (b4.mono b3.size);have cz:x.1.err=WQ x.1.k x.1.n x.1.a x.1.b x.1.data.length:=rfl;rw[<-cz];by_cases hex:x.1.err=0
  .simp only[go_sem,hex,f19];unfold Xz;refine⟨⟨f0,f2,f17,f18,B4,j+1,f,rfl,fun y hy=>?_⟩,?_⟩
   .grind [Xg]
   .simp only[vi,Zu,↓reduceIte,f19];omega
  .have w4:=wz a B4;have r4:=rr a B4;have l4:=Zb (rz a B4);simp only[go_sem,hex,w4,r4,f2,l4]
   grind [Ax,Zm.trans,Zm.mono,Ds]
 have XX:¬(j:Int)<xs.length:=uh;obtain rfl:j=xs.length:=uh;have QV:∀x∈Xx xs,x.err=0:=fun x hx=>hz x zK;have hzero:RO (Xx xs)=0:=by rw[e2];exact NK QV
 have inv:=inv QV cP;simp only[go_sem,f18,f19,XX];refine (Zdt T D Mx (Hl D)).use ?_;rintro _ g3 ⟨wb,dq,o3,dv,rfl,K3,A3⟩;unfold ZC;have cB:Zm h.size h D:=b1.trans (b2.mono uh);have bW:Kp RM Mx h Mx D:=Kp.En (Hl h) cB _;obtain⟨yk,ym⟩:=ZO ((Xx xs).map Raw.ac);have e6:yk.length=xs.length:=by rw[ym,a8,rl]
 have inv:∀j,j<=xs.length->WOk (Tx (yk.take j)):=fun j hj=>by
  grind [bA]
 simp only[go_sem,f0,f2];refine VS.YC (fun F g=>F 2=.pointer (Y ⟨h.size,0,aa⟩)/\F 7=.pointer (Y ⟨wb,0,aa⟩)/\F 31=.slice p xs.length c/\F 32=.int .i64 xs.length/\∃(j:Nat) (o':Ow) (Y6:Nat->Nat) (JY:WA),j<=xs.length/\F 33=.int .i64 j/\Kp RM Mx D o' g/\Q4 o' g wb Y6 JY (Tx (yk.take j)))
  (fun F _=>xs.length-(vi (F 33)).toNat) rfl ⟨f2,rfl,rfl,rfl,0,o3,dq,dv,aL _,rfl,K3,A3⟩ ?_
 clear f0 f2 f17 f18 f19 K3 A3;rintro F4 a ⟨f2,f7,f31,f32,j,K,dm,sZ,hj,f33,K4,J⟩;by_cases f:j<xs.length
 .have Yh:(j:Int)<xs.length:=uh;obtain⟨bb,oo,rfl,Sb,Ik⟩:=Jx zK;obtain⟨x,LW⟩:=ZO (xs[j]);have b0:x∈xs:=by rw[LW];exact aS f
  have cv:x.1.err=0:=QV x.1 zK;obtain⟨q1,q2,q3,q4,q5⟩:=Ox cv;have bK:Kp RM Mx h K a:=bW.trans K4;have iv:=(hx x b0).Zh bK;obtain⟨L,X,PK⟩:=iv.1.ZR;have r1:rd a ⟨bb,oo+j*5,aa⟩ 5=Y (Uq x):=by rw[Ut (Hm bK) Sb,LW];exact Ik j f
  unfold Uq Ob at r1;rw[PK]at r1 iv;obtain⟨Q,z⟩:=ZO (a.push (.cells (Ob x.1.k x.1.n x.1.a x.1.b (.slice L x.1.data.length X)).toArray 41):Hp);have e5:=z.symm;have k5:Kp WL K a K Q:=by rw[z];exact YK K4.YG _
  have y5:Q[a.size]? = Y (.cells (Ob x.1.k x.1.n x.1.a x.1.b (.slice L x.1.data.length X)).toArray 41):=by rw[z];exact Zf
  have r5:rd Q ⟨a.size,0,aa⟩ 5=Y (Ob x.1.k x.1.n x.1.a x.1.b (.slice L x.1.data.length X)):=ZB y5 rfl;unfold Ob at e5 r5;have en:((x.1.n.toNat:Nat):Int)=x.1.n:=uh;have ea:((x.1.a.toNat:Nat):Int)=x.1.a:=uh;have V:=ZlK T Q K wb dm sZ (Tx (yk.take j)) x.1.ac (.slice L x.1.data.length X) k5.YG (J.Zt k5) (inv j hj) q1 (by unfold Raw.ac;grind) (iv.Zh k5) (by unfold Raw.ac;grind) ((tb.Zh bK).Zh k5);unfold ZC Ob Raw.ac at V;simp only at V;rw[en,ea]at V;have Jy:Tx (yk.take (j+1))=act (Tx (yk.take j)) ⟨x.1.k,x.1.n.toNat,x.1.a.toNat,x.1.b,x.1.data⟩:=by
   rw[Xg _ j zK];unfold Tx;rw[bf];have:yk[j]'zK=⟨x.1.k,x.1.n.toNat,x.1.a.toNat,x.1.b,x.1.data⟩:=by
    simp only[ym,List.getElem_map,cO j f,<-LW];rfl
   rw[this];rfl
  simp only[go_sem,f2,f7,f31,f32,f33,Yh,r1,e5,r5];refine V.use ?_;rintro v' g6 ⟨o6,ds,dj,k6,A6⟩;simp only[go_sem,f33];unfold Xz;refine⟨⟨f2,f7,f31,f32,j+1,o6,dj,ds,f,rfl,(K4.trans (Y9 k5)).trans k6,zK⟩,?_⟩;simp only[vi,Zu,↓reduceIte,f33];omega
 have XX:¬(j:Int)<xs.length:=uh;obtain rfl:j=xs.length:=uh;rw[aw uh]at J;have okW:=inv xs.length (aq _);rw[aw uh]at okW;obtain⟨w,hw⟩:=ZO (Tx yk);rw[<-hw]at J okW;have U4:=Je J.wd.Yb.2;have c5:=U4.out;have de:=Zb J.wd.Yb.2;obtain⟨pf,cf,cx,_⟩:=PM J.wd.b;obtain⟨pt,r,zS,_⟩:=J.wd.ZH.ZR;obtain⟨tv,cw⟩:=ZO (sZ.ZH);rw[zS]at c5 cw;obtain⟨s,c0⟩:=ZO (a.size);obtain⟨Q,z⟩:=ZO (a.push (.cells [.int .i64 0,.bool false,.bool false,.bool false,.bool false,.bool false,.slice aa 0 0,.int .i64 (w.YP 0),.int .i64 (w.YP 1),.int .i64 (w.YP 2),.int .i64 (w.YP 3),.int .i64 (w.YP 4),.slice pt w.ZH.length r].toArray 30):Hp);have e5:=z.symm;have y5:Q[s]? = Y (.cells [.int .i64 0,.bool false,.bool false,.bool false,.bool false,.bool false,.slice aa 0 0,.int .i64 (w.YP 0),.int .i64 (w.YP 1),.int .i64 (w.YP 2),.int .i64 (w.YP 3),.int .i64 (w.YP 4),.slice pt w.ZH.length r].toArray 30):=by rw[z,c0];exact Zf
 have k5:Kp WL K a K Q:=by rw[z];exact YK K4.YG _
 obtain⟨g6,LY⟩:=ZO (Q.setIfInBounds s (.cells (dy w 0 (.slice aa 0 0) (.slice pt w.ZH.length r)).toArray 30):Hp);have w6:Uf Q ⟨s,0,aa⟩ (.int .i64 w.b.length)=Y g6:=by rw[XZ y5 0 _,LY];rfl
 have l5:=Zb y5;obtain⟨o6,b5⟩:=ZO (Up K s (.ZF 101));have k6:Kp oR K a o6 g6:=by rw[b5,LY];exact ((Ya k5).Nj uh l5 (.inr rfl)).ma uh _
 have B6:Ve o6 (.ZF 101) g6 s (.cells (dy w 0 (.slice aa 0 0) (.slice pt w.ZH.length r)).toArray 30):=⟨by rw[b5];exact Jh,zK⟩
 have A5:=J.Zt k5;have U5:=Je A5.wd.Yb.2;have c4:=U5.b;rw[cx]at c4;have oy:=Zb A5.wd.Yb.2;have bS:∀t,oR t->t.of≠aa:=by rintro t (rfl|rfl) e<;>cases e
 have bR:∀t (i:Nat),i<5->oR t->t.of≠Y i:=by
  rintro t i hi (rfl|rfl) e
  .have:=aag e;omega
  .have:=aag e;omega
 have W6:=J.wd.Zh k6 bS;obtain⟨bn,cT,cn,hn,dP,b6,b8⟩:=Sm W6;have bG:=(Je W6.Yb.2).Za;rw[hn]at bG;have c2:=Zb W6.Yb.2;simp only[go_sem,f32,f33,XX,f2,f7,c5,de,e5];rw[<-c0];simp only[go_sem,f7,c4,oy,w6,l5,bG,c2];refine VS.YC (fun F g=>F 2=.pointer (Y ⟨h.size,0,aa⟩)/\F 10=.pointer (Y ⟨s,0,aa⟩)/\F 54=.slice (Y ⟨bn,cT,aa⟩) 5 cn/\F 55=.int .i64 5/\∃(j:Nat) (o':Ow) (lv:al) (vs:List al),j<=5/\F 56=.int .i64 j/\Kp oR K a o' g/\Ve o' (.ZF 101) g s (.cells (dy w j lv (.slice pt w.ZH.length r)).toArray 30) /\
   Xk o' (.ZF 100) 35 1 g lv j vs/\fu (fun v l=>Im o' 5 g v l.length (ZW Q9.C l)/\∀b,Yq v=Y b->a.size<=b) vs (Ho w j))
  (fun F _=>5-(vi (F 56)).toNat) rfl ⟨f2,rfl,rfl,rfl,0,o6,.slice aa 0 0,[],uh,rfl,k6,B6,Xk.nil _ _ _ _ _,.nil⟩ ?_
 clear f2 f7 f31 f32 f33 B6 k6 w6 l5 bG c2 W6 b8 b6 b5 LY y5 e5;rintro F7 B ⟨f2,f10,f54,f55,j,m,lv,vs,hj,f56,K7,B7,O7,L7⟩;have W7:=J.wd.Zh K7 bS;by_cases f:j<5
 .have Yh:(j:Int)<5:=uh;obtain⟨na,dz⟩:=J.nd j f;have N7:=dz.Zh K7 (fun t q=>bR t j f q);obtain⟨e0,e7,dT,Kt,e4,b6,b8⟩:=Sm W7;rw[hn]at Kt;simp only[Value.slice.injEq,Option.some.injEq,Addr.mk.injEq,true_and,and_true]at Kt;obtain⟨⟨rfl,rfl⟩,rfl⟩:=Kt;have ri:=b8 j f;unfold ZC at ri;have P7:=ZU N7.Yb.2 N7.pt.store.len;have dw:=P7.up;have cN:=Zb N7.Yb.2;have l7:=Zb B7.2;obtain⟨A,bT⟩:=ZO (B.setIfInBounds s (.cells (dy w (j+1) lv (.slice pt w.ZH.length r)).toArray 30):Hp);have w8:Uf B ⟨s,1+j,aa⟩ (.bool (w.Za j).up)=Y A:=by
   rw[XZ B7.2,if_pos ⟨by rw[tE];omega,rfl⟩,ZlO w j lv _ f,bT]
  have k8:Kp oR m B m A:=by rw[bT];exact (Kp.refl K7.YG oR).set B7.1 (.inr rfl) _
  have cu:Kp (fun t=>t=.ZF 101) m B m A:=by rw[bT];exact (Kp.refl K7.YG (fun t=>t=.ZF 101)).set B7.1 rfl _
  have B8:Ve m (.ZF 101) A s (.cells (dy w (j+1) lv (.slice pt w.ZH.length r)).toArray 30):=⟨B7.1,zK⟩
  have O8:=O7.Zh cu zK;have L8:=Ip L7 (R':=fun v l=>Im m 5 A v l.length (ZW Q9.C l)/\∀b,Yq v=Y b->a.size<=b) (fun v l q=>⟨q.1.Zh k8,q.2⟩);have K8:=K7.trans k8;have N8:=N7.Zh k8 (fun t q=>bR t j f q);have c6:=(ZU N8.Yb.2 N8.pt.store.len).ZF;obtain⟨pl,cl,FZ,_⟩:=Xk.ZR N8.pt.ZF;have FZ:na.ZF=.slice pl (w.Za j).ZF.length cl:=FZ;rw[FZ]at c6;have Tl:=N8.pt.ZF.ts;rw[FZ]at Tl;have cR:=Zb N8.Yb.2;have l8:=Zb B8.2;obtain⟨bN,c1,rfl,_⟩:=O8.ZR;have r8:hc A ⟨s,6,aa⟩=Y (.slice bN j c1):=Zr B8.2;have cc:=oN T A (.slice pl (w.Za j).ZF.length cl) (w.Za j).ZF Tl (by have:=okW.ZF j f;omega);simp only[go_sem,f2,f10,f54,f55,f56,Yh,ri,dw,cN,w8,l7,b6];refine VS.z (A.size) [8,10] (.p 0 (.q 1 (.p 2 (.p 3 (.p 4 (.q 5 (.s 6 (.s 7 (.w 8 (.p 9 (.w 10 .nil))))))))))) mixed zI ?_;simp only[go_sem,f2,f10,r8,c6,cR,l8];refine cc.use ?_;rintro v9 g9 ⟨o9,b9⟩;have k9:Kp WL m A m g9:=Z9 K8.YG b9;have bY:Im m 5 g9 v9 (w.Za j).ZF.length (ZW Q9.C (w.Za j).ZF):=Im.Vp o9.Zn (fun b hb=>K8.YG b hb);have cq:∀b,Yq v9=Y b->a.size<=b:=fun b hb=>aX K8.size (o9.Zn.Yb b hb);obtain⟨p9,c9,rfl⟩:=bY.ZR;obtain⟨I,a4⟩:=ZO (g9.push (.cells [.slice p9 (w.Za j).ZF.length c9].toArray 35):Hp);have cA:=a4.symm;have xE:Kp WL m g9 m I:=by rw[a4];exact YK k9.YG _
  have ca:Kp oR K a m I:=(K8.trans (Ya k9)).trans (Ya xE);have dB:=(B8.Zh k9 (fun q=>q)).Zh xE (fun q=>q);have dx:=(O8.Zh k9 (fun q=>q)).Zh xE (fun q=>q);have cS:=bY.Zh xE;have dE:I[g9.size]? = Y (.cells [.slice p9 (w.Za j).ZF.length c9].toArray 35):=by rw[a4];exact Zf
  have src:Sl 1 I (.slice (Y ⟨g9.size,0,aa⟩) 1 1) 1 [.slice p9 (w.Za j).ZF.length c9]:=⟨_,1,rfl,rfl,fun _=>⟨g9.size,0,rfl,fun i hi=>by
   grind [hc]⟩⟩
  simp only[go_sem,b9,cA];refine⟨by rw[a4];exact b9.Xj b9.size _,?_⟩;refine QM (E:=35) (n:=1) (bytes:=24) (k:=1) Zoy Tryz.underlying26 Zvx Zvz rfl Zvy dx ca.YG src rfl uh uh ?_;intro v11 C R c7 zO _;have zO:Kp (fun u=>u=.ZF 100) m I C R:=zO;obtain⟨N,Z,rfl,_⟩:=c7.ZR;have a7:=dB.Zh zO zK;have cr:=Zb a7.2;obtain⟨b7,mK⟩:=ZO (R.setIfInBounds s (.cells (dy w (j+1) (.slice N (j+1) Z) (.slice pt w.ZH.length r)).toArray 30):Hp);have cg:Uf R ⟨s,6,aa⟩ (.slice N (j+1) Z)=Y b7:=by
   rw[XZ a7.2,if_pos ⟨by rw[tE];omega,rfl⟩,ZhG,mK]
  have P:Kp (fun t=>t=.ZF 101) C R C b7:=by rw[mK];exact (Kp.refl zO.YG (fun t=>t=.ZF 101)).set a7.1 rfl _
  have dA:Ve C (.ZF 101) b7 s (.cells (dy w (j+1) (.slice N (j+1) Z) (.slice pt w.ZH.length r)).toArray 30):=⟨a7.1,zK⟩
  simp only[go_sem,f10,cg,cr,f56];unfold Xz;refine⟨⟨f2,f10,f54,f55,j+1,C,.slice N (j+1) Z,vs++[.slice p9 (w.Za j).ZF.length c9],f,rfl,(ca.trans (zO.mono fun t q=>.inl q)).trans (P.mono fun t q=>.inr q),dA,c7.Zh P zK,?_⟩,?_⟩
  .rw[iW];refine iI (Ip L8 fun v l q=>⟨((((q.1.Zh k9).Zh xE).Zh zO).Zh P),q.2⟩) ⟨(cS.Zh zO).Zh P,cq⟩
  .simp only[vi,Zu,↓reduceIte,f56];omega
 have XX:¬(j:Int)<5:=uh;obtain rfl:j=5:=uh;have a3:Yo m B h.size (.cells zT.toArray 30):=Yo.Zh (Yo.Zh (o:=Mx) ⟨rfl,rz D b2⟩ K4) K7;have rk:rd B ⟨s,0,aa⟩ 13=Y (dy w 5 lv (.slice pt w.ZH.length r)):=ZB B7.2 rfl;obtain⟨A,bT⟩:=ZO (B.setIfInBounds h.size (.cells (dy w 5 lv (.slice pt w.ZH.length r)).toArray 30):Hp);have w8:wr B ⟨h.size,0,aa⟩ (dy w 5 lv (.slice pt w.ZH.length r))=Y A:=by
  obtain⟨bN,c1,rfl,_⟩:=O7.ZR;rw[Yr a3.2 0 _,bT];rfl
 have l7:=Zb a3.2;have r8:rd A ⟨h.size,0,aa⟩ 13=Y (dy w 5 lv (.slice pt w.ZH.length r)):=ZB (by rw[bT];exact Yp a3.2) rfl;have c8:Kp RM Mx h m B:=(bW.trans K4).trans (Y9 K7);have vl:vs.length=5:=by have:=O7.length;omega
 have bound:h.size<a.size:=a0 (Zb (rz D b2)) K4.size;rw[show dy w 5 lv (.slice pt w.ZH.length r)=oP w lv (.slice pt w.ZH.length r) from rfl]at rk w8 r8;unfold oP at rk w8 r8;simp only[go_sem,f55,f56,XX,f2,f10,rk,w8,l7,r8];refine⟨by rw[bT];exact (Hm c8).ZA (aq _) _,?_⟩;unfold Ax;rw[hzero,if_pos rfl,<-ym,<-hw];refine⟨_,lv,.slice pt w.ZH.length r,vs,rfl,fun G hG=>?_⟩;have wt:=W7.ZH;rw[zS]at wt;have XU:∀b,b<B.size->b≠h.size->G[b]? = A[b]? -> G[b]? = B[b]?:=fun b _ h2 e=>by grind
 have dJ:A.size=B.size:=by rw[bT];simp
 have Zn:∀t,∀b,m b=Y t->b<B.size->G[b]? = B[b]?:=fun t b q1 q2=>XU b q2 (fun e=>by rw[e,a3.1]at q1;cases q1) (hG b (iX c8 q1) uh);refine⟨rfl,⟨by rw[yj,vl];exact (tF O7 (Zn _)).sl⟩,?_,⟨(tF wt (Zn _)).sl⟩,Ip (k:=Ho w 5) L7 fun v l q=>q.1.fits⟩;refine Ip (k:=Ho w 5) L7 fun v l q=>⟨ZqO q.1 fun b hb f=>?_⟩
 grind
structure CmI(C:List Cm)(w v:Wd)(m:Nat):Prop where
 nd:∀i,i<5->JZ C i (v.Za i)
 JC:∀i,i<5->∀l∈(v.Za i).Zd,Qt C l
 WM:v.b=w.b
 sum:MM (fun i=>(v.Za i).Zd.length)<=MM (fun i=>(w.Za i).Zd.length)+m
 wait:MM (fun i=>(v.Za i).e.length)=MM (fun i=>(w.Za i).e.length)
 ZH:v.ZH=w.ZH
 YP:v.YP=w.YP
def oS{C:List Cm}{w:Wd}{l:Yt}(c:∀i,i<5->JZ C i (w.Za i))(h:∀i,i<5->∀l∈(w.Za i).Zd,Qt C l)(f:Qt C l):CmI C w (XN w l) 1:=by
 have a:l.to.toNat<5:=by have:=f.to;omega
 unfold XN;split
 .refine⟨fun i hi=>?_,fun i hi x d=>?_,rfl,?_,?_,rfl,rfl⟩
  .unfold Wd.set;by_cases e:i=l.to.toNat
   .simp only[if_pos e];rw[e];exact { c _ a with }
   grind
  .unfold Wd.set at d
   grind
  .grind [MM,Wd.set]
  grind [Wd.set]
 .exact⟨c,h,rfl,uh,rfl,rfl,rfl⟩
def ZhJ{C:List Cm}:∀(ls:List Yt) (w:Wd),(∀i,i<5->JZ C i (w.Za i))->(∀i,i<5->∀l∈(w.Za i).Zd,Qt C l)->(∀l∈ls,Qt C l)->CmI C w (ls.foldl XN w) (W ls):=by
 intro ls
 induction ls with
 | nil=>intro w d c _;exact⟨d,c,rfl,zX,rfl,rfl,rfl⟩
 | cons l ls f=>
  intro w d c e;have a:=oS d c (e l zX);have b:=f (XN w l) a.nd a.JC (fun x h=>e x (by simp[h]));refine⟨b.nd,b.JC,by rw[aW,b.WM,a.WM],?_,by rw[aW,b.wait,a.wait],by rw[aW,b.ZH,a.ZH],by rw[aW,b.YP,a.YP]⟩;have o:=b.sum;have m:=a.sum
  grind
theorem WI.ZhK{C:List Cm}{w u v:Wd}{m:Nat}(h:WI C k w)(c:CmI C u v m)(f:u.Za=w.Za)(e:∀l∈u.b,l∈w.b)(d:u.ZH=w.ZH)(a:u.YP=w.YP)(q:u.b.length+m<=w.b.length+1):WI C (k+1) v:=by
 have o:=c.sum;have hw:=c.wait;rw[f]at o hw;have s:=h.room;have r:=h.wait;refine⟨c.nd,c.JC,fun l p=>h.WM l (e l (by rw[<-c.WM];exact p)),?_,?_,fun i=>by rw[c.YP,a];have:=h.YP i;omega⟩
 .rw[c.WM];omega
 .rw[c.ZH,d,hw];omega
def ZlT{C:List Cm}{w:Wd}(h:WI C k w)(at':Nat)(comes stays:Bool):WI C (k+1) (pick w at' comes stays):=by
 unfold pick;split
 .exact h.more
 .rename_i l d;have c:l∈w.b:=List.mem_of_getElem? d;have a:=h.WM l c;have f:(w.b.eraseIdx (at'%w.b.length)).length+1<=w.b.length+1:=by
   have:=List.length_eraseIdx_le w.b (at'%w.b.length);omega
  have e:(w.b.eraseIdx (at'%w.b.length)).length<=w.b.length:=uh
  cases comes with
  | true=>
   cases stays with
   | true=>exact h.ZhK (u:=w) (oS h.nd h.JC a) rfl (fun l q=>q) rfl rfl uh
   | false=>exact h.ZhK (u:={ w with b:=w.b.eraseIdx (at'%w.b.length) }) (oS h.nd h.JC a) rfl (fun l q=>a2 q) rfl rfl f
  | false=>
   cases stays with
   | true=>exact h.more
   | false=>exact h.ZhK (u:={ w with b:=w.b.eraseIdx (at'%w.b.length) }) (m:=0) ⟨h.nd,h.JC,rfl,zX,rfl,rfl,rfl⟩ rfl (fun l q=>a2 q) rfl rfl zK
def WY(rc:List Nat):Cm:=⟨Ju ((JK rc).drop 22) 0,Ju ((JK rc).drop 22) 1,Ju ((JK rc).drop 22) 2,Ju ((JK rc).drop 22) 3,Ju ((JK rc).drop 22) 4⟩
def Zdw(n:Nd)(x:Cm):(VT n x).e.length<=n.e.length+1:=by
 unfold VT;grind
def Zdx{C:List Cm}{w:Wd}(h:WI C k w){i:Nat}(hi:i<5){rc:List Nat}(hc:WY rc∈C):WI C (k+1) (Wj w i rc):=by
 unfold Wj;split
 .split
  .refine⟨h.nd,h.JC,h.WM,aX h.room (a9 _ (bh k)),aX h.wait (bh k),fun j=>?_⟩;have p:=h.YP j
   grind
  .rename_i q;have e:JL rc (w.Za i).ZF.length=WY rc:=by
    unfold JL WY;rw[if_pos (by simpa using q)]
   rw[e];split
   .have hw:=h.wait;refine⟨h.nd,h.JC,h.WM,aX h.room (a9 _ (bh k)),zK,fun j=>by have:=h.YP j;grind⟩
   .rw[Re];have a:=Zjo (h.nd i hi) hc;have d:(add (w.Za i) (WY rc)).Zd=(w.Za i).Zd:=by unfold add;split<;>rfl
    have c:(VT (add (w.Za i) (WY rc)) (WY rc)).Zd=(w.Za i).Zd:=by unfold VT;split<;>exact d
    have o:=Zdw (add (w.Za i) (WY rc)) (WY rc);have m:=(add_same (w.Za i) (WY rc)).1;refine h.out hi ?_ (fun l f=>by cases f) (by simp only[c];exact h.JC i hi) zK zK;unfold VT;simp only;split
    .exact a
    .exact { a with }
 .exact h.more
def Dt{C:List Cm}(hC:(W C)<=100000){w:Wd}(h:WI C k w)(a:Ac)(hi:a.ZM<5)(hc:WY a.data∈C):WI C (k+1) (act w a):=by
 have d:=h.nd a.ZM hi;have hb:=h.JC a.ZM hi;unfold act;split
 .exact Zdx h hi hc
 split
 .grind [Zdr,Re,WI.out]
 split
 .grind [ZlI,WI.out]
 split
 .exact ZlT h _ _ _
 split
 .have c:=ZhJ w.b { w with b:=[] } h.nd h.JC h.WM
  grind [WI.ZhK]
 grind [Aw,Re,WI.out,yi]
def VV(C:List Cm):WI C 0 Qf:=by
 refine⟨fun i hi=>cD zX Dm.zero,(fun i hi l a=>by cases a),(fun l a=>by cases a),by simp[Qf,MM,ZZ],by simp[Qf,MM,ZZ],fun i=>by simp[Qf]⟩
def oU{C:List Cm}(hC:(W C)<=100000):∀(l:List Ac) (k:Nat) (w:Wd),WI C k w->(∀a∈l,a.ZM<5/\WY a.data∈C)->WI C (k+(W l)) (l.foldl act w):=by
 intro l
 induction l with
 | nil=>grind
 | cons a l d=>
  intro k w h c;have:=d (k+1) (act w a) (Dt hC h a (c a zX).1 (c a zX).2) (fun x e=>c x (by simp[e]))
  grind
def ZhM(xs:List (Raw × al))(f:∀x∈Xx xs,x.err=0)(h:(W xs)<=100000)(j:Nat)(m:j<=(W xs)):WOk (Tx (((Xx xs).take j).map Raw.ac)):=by
 obtain⟨C,hC⟩:∃C,C=(Xx xs).map fun x=>WY x.data:=⟨_,rfl⟩
 have e:(Xx xs).length=(W xs):=by unfold Xx;simp
 have d:(W C)<=100000:=by rw[hC,a8,e];exact h
 have:=oU d (((Xx xs).take j).map Raw.ac) 0 Qf (VV C) (fun a l=>by
  obtain⟨x,c,rfl⟩:=aH.1 l;have c:=ba c;let⟨_,o,_,_,_⟩:=Ox (f x c)
  grind [Raw.ac])
 refine this.ok d ?_
 grind
def ZhN(h:Hp)(v:al)(xs:List (Raw × al))(d:Ts Uq 5 h v xs)(c:∀x∈xs,Rb Mx h x.2 x.1.data)(tb:j1 Mx h)(m:(W xs)<=4611686018427387904):
  Zg aC T 16 #[v] h fun a h'=>Zm h.size h h'/\Ax h.size h' a (Xx xs):=
 ZhH T h v xs d c tb m fun l f j e=>ZhM xs l f j e
def UY(n m:Int):Int:=(if n<0 then 0-(n+1) else n)%m
def WB(n:Int){m:Int}(h:0<m):0<=UY n m/\UY n m<m:=⟨Int.emod_nonneg _ uh,Int.emod_lt_of_pos _ h⟩
def i64(n:Int):Prop:=-9223372036854775808<=n/\n<9223372036854775808
def TL(h:Hp)(n m:Int)(d:i64 n)(f:1<=m)(l:m<=1000000):
  Zg aC T 18 #[O H n,O H m] h fun c h'=>c=O H (UY n m)/\h'=h:=by
 unfold i64 at d;refine Zg.X8 [_,_] Tryz.func18 ?_;have a:¬m=0:=uh;by_cases q:n<0
 .have e:UY n m=(0-(n+1)).tmod m:=by unfold UY;rw[if_pos q,a1 uh]
  rw[e];simp only[go_sem,q,a]
 .have e:UY n m=n.tmod m:=by unfold UY;rw[if_neg q,a1 uh]
  rw[e];simp only[go_sem,q,a]
def Qu(h:Hp)(n m:Int)(c:i64 n)(d:1<=m)(e:m<=1000000):
  Zg aC T 9 #[O H n,O H m] h fun a h'=>a=O H (UY n m)/\h'=h:=by
 refine Zg.X8 [_,_] Tryz.func9 ?_;simp only[go_sem];refine (TL T h n m c d e).pure ?_;simp only[go_sem]
def ZqS(k c s n v:Int):List al:=[O H k,O H c,O H s,O H n,O H v]
def cmW(k c s n v:Int):Cm:=⟨1+(UY k 5).tdiv 2,UY c 4,UY s 6,UY n 4,if 1+(UY k 5).tdiv 2=1 then UY v 1000 else 0⟩
def iY(h:Hp)(k c s n v:Int)(o:i64 k)(hc:i64 c)(f:i64 s)(l:i64 n)(e:i64 v):
  Zg aC T 48 #[an (ZqS k c s n v).toArray] h fun a h'=>a=an (cmW k c s n v).C.toArray/\Zm h.size h h':=by
 refine Zg.X8 [_] Tryz.func48 ?_;unfold ZqS;simp only[go_sem];refine VS.z (h.size+2) [16] (.p 0 (.q 1 (.p 2 (.p 3 (.p 4 (.p 5 (.q 6 (.p 7 (.p 8 (.q 9 (.p 10 (.p 11 (.q 12 (.p 13 (.p 14 (.s 15 (.w 16 .nil))))))))))))))))) mixed zI ?_;simp only[go_sem];refine UM (fun h=>TL T h k 5 o uh uh) ?_;simp only[go_sem];refine UM (fun h=>TL T h c 4 hc uh uh) ?_;simp only[go_sem];refine UM (fun h=>TL T h s 6 f uh uh) ?_;simp only[go_sem];refine UM (fun h=>TL T h n 4 l uh uh) ?_;have d:=WB k (m:=5) uh;generalize p:UY k 5=K at *;have r:0<=K.tdiv 2/\K.tdiv 2<=2:=by rw[Int.tdiv_eq_ediv_of_nonneg d.1];omega
 unfold cmW;rw[p];generalize K.tdiv 2=J at *;by_cases q:1+J=1
 .simp only[go_sem,q];refine⟨Zm.push zX _,(TL T _ v 1000 e uh uh).pure ?_⟩;simp only[go_sem,q];exact⟨rfl,(((Zm.refl _ _).add _).add _).add _⟩
 .simp only[go_sem,q];exact⟨Zm.push zX _,rfl,(((Zm.refl _ _).add _).add _).add _⟩
structure Gr where
 k:Int
 a:Int
 b:Int
 c:Int
 d:Int
def Gr.C(g:Gr):List al:=[O H g.k,O H g.a,O H g.b,O H g.c,O H g.d]
def Gr.ok(g:Gr):Prop:=(i64 g.k/\i64 g.a)/\i64 g.b/\i64 g.c/\i64 g.d
def gCm(g:Gr):Cm:=cmW g.b g.c g.d g.a g.d
def zU(g:Gr):Int:=if UY g.d 17=16 then ((gCm g).c+1).tmod 4 else (gCm g).c
def zW(g:Gr):Int:=if UY g.d 17=15 then 0 else 7
def ZlU(n c r u:Int)(x:Cm):List Nat:=if RF n c r u x.k x.c x.s x.n x.v=0 then xm n c r u x.k x.c x.s x.n x.v else []
def PQ(g:Gr):List Nat:=ZlU (UY g.a 1000) (zU g) (zW g) 60 (gCm g)
def NL(g:Gr):List Nat:=if UY g.d 23=22/\30<(PQ g).length then (PQ g).take 30 else PQ g
def cE(h:Hp)(g:Gr)(hg:g.ok)(tk:Tk h):
  Zg aC T 28 #[an (ao g.C)] h fun I h'=>YL h.size 5 h' I (NL g)/\Zm h.size h h':=by
 let⟨⟨wk,wa⟩,wb,wc,wd⟩:=hg;refine Zg.X8 [_] Tryz.func28 ?_;unfold Gr.C;have c1:∀h:Hp,Zg aC T 48 #[an #[O H g.b,O H g.c,O H g.d,O H g.a,O H g.d]] h fun I h'=>I=an (gCm g).C.toArray/\Zm h.size h h':=fun h=>iY T h g.b g.c g.d g.a g.d wb wc wd wa wd;let⟨q,y⟩:=ZO (h.push (ae (ao g.C) 64):Hp);have o:q[h.size]? = Y (ae (ao g.C) 64):=by rw[y];exact Zf
 have b0:Zm h.size h q:=by rw[y];exact (Zm.refl _ _).add _
 have V:=y.symm;unfold Gr.C at V o;have s0:q.size=h.size+1:=by rw[y];simp
 have l0:=Zb o;have u1:hc q ⟨h.size,1,aa⟩=Y (O H g.a):=Zr o;have u2:hc q ⟨h.size,2,aa⟩=Y (O H g.b):=Zr o;have u3:hc q ⟨h.size,3,aa⟩=Y (O H g.c):=Zr o;have u4:hc q ⟨h.size,4,aa⟩=Y (O H g.d):=Zr o;simp only[go_sem,V,u1,u2,u3,u4,l0];refine (c1 q).use ?_;rintro _ c ⟨rfl,C⟩;have B1:Zm h.size h c:=b0.trans (C.mono b0.size);have s1:=C.size;have A:=C.get l0 o;let⟨X,P⟩:=ZO (gCm g);rw[<-P];have a3:0<=X.c/\X.c<4:=by rw[P];exact WB g.c uh
 let⟨d,s⟩:=ZO ((c.push (ae (ao X.C) 43)).push (ae [O H X.c,O H 7,O H 60].toArray 74):Hp);have B:=s.symm;unfold Q9.C Wg at B ⊢;have y4:hc d ⟨h.size,4,aa⟩=Y (O H g.d):=by
  have:d[h.size]? = Y (ae [O H g.k,O H g.a,O H g.b,O H g.c,O H g.d].toArray 64):=by
   rw[s,ZX Fo,ZX uh];exact A
  exact Zr this
 simp only[go_sem,B,y4];refine (Qu T d g.d 17 wd uh uh).pure ?_;have s2:d.size=c.size+2:=by rw[s];simp
 have t:d[c.size+1]? = Y (ae [O H X.c,O H 7,O H 60].toArray 74):=by rw[s,bd,if_pos zX]
 have x2:d[c.size]? = Y (ae (ao X.C) 43):=by rw[s,ZX zX,Zf]
 have b2:Zm c.size c d:=by rw[s];exact ((Zm.refl _ _).add _).add _
 have E:=b2.get (Zb A) A;have B2:Zm h.size h d:=B1.trans (b2.mono B1.size);have XU:c.size+1≠h.size:=by have:=B1.size;omega
 have bK:c.size+1≠c.size:=uh;clear B s V y y4;have three:∀K J:Int,K=zU g->J=zW g->∃a:Hp,a=am d (c.size+1) (ae [O H K,O H J,O H 60].toArray 74)/\Zm h.size h a/\a.size=d.size/\a[c.size+1]? = Y (ae [O H (zU g),O H (zW g),O H 60].toArray 74)/\a[c.size]? = Y (ae (ao X.C) 43)/\a[h.size]? = Y (ae [O H g.k,O H g.a,O H g.b,O H g.c,O H g.d].toArray 64):=fun K J e1 B=>by
  grind [Zm.ZA]
 have L:hc d ⟨c.size+1,0,aa⟩=Y (O H X.c):=Zr t;have l2:=Zb t;have Q:∃a:Hp,((UY g.d 17=15/\Uf d ⟨c.size+1,1,aa⟩ (O H 0)=Y a)\/(UY g.d 17=16/\Uf d ⟨c.size+1,0,aa⟩ (O H ((X.c+1).tmod 4))=Y a)\/((¬UY g.d 17=15/\¬UY g.d 17=16)/\a=d))/\Zm h.size h a/\a.size=d.size/\a[c.size+1]? = Y (ae [O H (zU g),O H (zW g),O H 60].toArray 74)/\a[c.size]? = Y (ae (ao X.C) 43)/\a[h.size]? = Y (ae [O H g.k,O H g.a,O H g.b,O H g.c,O H g.d].toArray 64):=by
  by_cases e:UY g.d 17=15
  .let⟨a,N,z⟩:=three X.c 0 (by unfold zU;grind) (by unfold zW;grind);exact⟨a,.inl ⟨e,by rw[XZ t 1 _,N];rfl⟩,z⟩
  by_cases l:UY g.d 17=16
  .let⟨a,N,z⟩:=three ((X.c+1).tmod 4) 7 (by unfold zU;grind) (by unfold zW;grind);exact⟨a,.inr (.inl ⟨l,by rw[XZ t 0 _,N];rfl⟩),z⟩
  .grind [zU,zW]
 let⟨a,Di,D,s3,t3,x3,F⟩:=Q;have ra:hc a ⟨h.size,1,aa⟩=Y (O H g.a):=Zr F;have rt:rd a ⟨c.size+1,0,aa⟩ 3=Y [O H (zU g),O H (zW g),O H 60]:=ZB t3 rfl;have rx:rd a ⟨c.size,0,aa⟩ 5=Y [O H X.k,O H X.c,O H X.s,O H X.n,O H X.v]:=ZB x3 rfl;have ly:=Zb F;have lt:=Zb t3;have lx:=Zb x3;have pk:=ZgT T a (UY g.a 1000) (zU g) (zW g) 60 X.k X.c X.s X.n X.v (tk.QL D);unfold Oi Wg at pk;clear three b2 t x2 E C A b0 o;rcases Di with⟨e,G⟩|⟨l,G⟩|⟨⟨e,l⟩,R⟩
 case' inl=>simp only[go_sem,e,G]
 case' inr.inl=>have e:¬(16:Int)=15:=HE
 case' inr.inl=>simp only[go_sem,l,L,G]
 case' inr.inr=>subst R
 case' inr.inr=>simp only[go_sem,e,l]
 all_goals
  refine VS.z (a.size) [] (.p 0 (.q 1 (.p 2 (.q 3 (.q 4 (.s 5 (.p 6 (.p 7 (.p 8 (.p 9 (.p 10 .nil))))))))))) mixed zI ?_;simp only[go_sem,ra,rt,rx,ly,lt,lx];refine UM (fun h=>Qu T h g.a 1000 wa uh uh) ?_;simp only[go_sem,rt,rx,lt,lx];refine pk.use ?_;rintro _ h4 ⟨⟨w,rfl,p⟩,Z⟩;have B4:=D.trans (Z.mono D.size);have eF:(if RF (UY g.a 1000) (zU g) (zW g) 60 X.k X.c X.s X.n X.v=0 then xm (UY g.a 1000) (zU g) (zW g) 60 X.k X.c X.s X.n X.v else [])=PQ g:=by unfold PQ ZlU;rw[<-P]
  rw[eF]at p;have p:=p.mono D.size;obtain⟨p4,c4,rfl,_⟩:=p.open;have yd:hc h4 ⟨h.size,4,aa⟩=Y (O H g.d):=Zr (Z.get ly F);simp only[go_sem,yd,Z];refine (Qu T h4 g.d 23 wd uh uh).pure ?_;by_cases f:UY g.d 23=22
  .by_cases u:30<(PQ g).length
   .have r:((PQ g).length:Int)>30:=uh;have v:NL g=(PQ g).take 30:=by unfold NL;rw[if_pos ⟨f,u⟩]
    simp only[go_sem,f,r];have hf:=p.Zn.MF (m:=30) uh;rw[v];refine⟨⟨?_,fun x hx=>p.byte x (ba hx)⟩,B4⟩;rw[a5,bp uh,bA];exact hf
   .have r:¬((PQ g).length:Int)>30:=uh;have v:NL g=PQ g:=by unfold NL;rw[if_neg (fun h=>u h.2)]
    simp only[go_sem,f,r];rw[v];exact⟨p,B4⟩
  .have v:NL g=PQ g:=by unfold NL;rw[if_neg (fun h=>f h.1)]
   simp only[go_sem,f];rw[v];exact⟨p,B4⟩
def VW(g:Gr)(a:Bool):Raw:=
 if UY g.k 24<3 then ⟨1,UY g.a 5,0,0,NL g⟩ else if UY g.k 24<5 then ⟨2,UY g.a 5,0,0,[]⟩ else if UY g.k 24<14 then ⟨3,UY g.a 5,0,0,[]⟩
 else if UY g.k 24=14 then ⟨4,0,UY g.c 20,0,[]⟩ else if UY g.k 24=15 then ⟨5,0,UY g.c 20,0,[]⟩ else if UY g.k 24=16 then ⟨6,0,UY g.c 20,0,[]⟩
 else if UY g.k 24=17/\a=true then ⟨8,UY g.a 5,0,UY g.c 90,[]⟩ else if UY g.k 24=18/\a=true then ⟨9,UY g.a 5,0,0,[]⟩ else ⟨7,0,0,0,[]⟩
def yn(h:Hp)(g:Gr)(t:Bool)(I:g.ok)(tk:Tk h):
  Zg aC T 15 #[an (ao g.C),ak t] h fun Q h'=>(∃w,Q=an (Uq (VW g t,w)).toArray/\YL h.size 5 h' w (VW g t).data)/\Zm h.size h h':=by
 have D:=fun h tk=>cE T h g I tk;let⟨⟨N,P⟩,wb,wc,wd⟩:=I;refine Zg.X8 [_,_] Tryz.func15 ?_;unfold Gr.C at *;let⟨d,y⟩:=ZO ((h.push (ae [O H g.k,O H g.a,O H g.b,O H g.c,O H g.d].toArray 64)).push (ae (Ob 0 0 0 0 (U aa 0 0)).toArray 41):Hp);have J:=y.symm;have u:d[h.size]? = Y (ae [O H g.k,O H g.a,O H g.b,O H g.c,O H g.d].toArray 64):=by rw[y,ZX zX,Zf]
 have o:d[h.size+1]? = Y (ae (Ob 0 0 0 0 (U aa 0 0)).toArray 41):=by rw[y,bd,if_pos zX]
 have q:Zm h.size h d:=by rw[y];exact ((Zm.refl _ _).add _).add _
 have G:hc d ⟨h.size,0,aa⟩=Y (O H g.k):=Zr u;have R:hc d ⟨h.size,1,aa⟩=Y (O H g.a):=Zr u;have z:hc d ⟨h.size,3,aa⟩=Y (O H g.c):=Zr u;have V:rd d ⟨h.size,0,aa⟩ 5=Y [O H g.k,O H g.a,O H g.b,O H g.c,O H g.d]:=ZB u rfl;have X:=Zb u;have r:=Zb o;have rk:=WB g.k (m:=24) uh;unfold Ob at J;simp only[go_sem,J,R,G];refine (Qu T d g.a 5 P uh uh).pure ?_;simp only[go_sem,G];refine (Qu T d g.k 24 N uh uh).pure ?_;let⟨A,v⟩:=ZO (UY g.a 5);rw[<-v];have fin:∀(s:Hp) (k n a b:Int) (p:Option Addr) (m c:Nat) (l:List Nat),s[h.size+1]? = Y (ae (Ob 0 0 0 0 (U aa 0 0)).toArray 41)->Zm h.size h s->YL (h.size+2) 5 s (U p m c) l->VW g t=⟨k,n,a,b,l⟩ ->
   wr s ⟨h.size+1,0,aa⟩ [O H k,O H n,O H a,O H b,U p m c]=Y (am s (h.size+1) (ae (Ob k n a b (U p m c)).toArray 41)) /\
   rd (am s (h.size+1) (ae (Ob k n a b (U p m c)).toArray 41)) ⟨h.size+1,0,aa⟩ 5=Y [O H k,O H n,O H a,O H b,U p m c] /\
   ((∃w,Value.agg [O H k,O H n,O H a,O H b,U p m c].toArray=an (Uq (VW g t,w)).toArray/\YL h.size 5 (am s (h.size+1) (ae (Ob k n a b (U p m c)).toArray 41)) w (VW g t).data)/\Zm h.size h (am s (h.size+1) (ae (Ob k n a b (U p m c)).toArray 41))):=fun s k n a b p m c l F x C e=>by
  refine⟨by rw[Yr F 0 _];rfl,ZB (Yp F) rfl,⟨U p m c,by rw[e];rfl,?_⟩,x.ZA uh _⟩;rw[e];exact (C.Ym uh _).mono uh
 have nil:=fun B=>YL.nil B 5 d;have L:UY g.k 24<3\/(¬UY g.k 24<3/\UY g.k 24<5)\/(¬UY g.k 24<5/\UY g.k 24<14)\/UY g.k 24=14\/UY g.k 24=15\/UY g.k 24=16\/UY g.k 24=17\/UY g.k 24=18\/18<UY g.k 24:=uh;let⟨K,hK⟩:=ZO (UY g.k 24);rw[<-hK]at L rk ⊢;rcases L with c|⟨c,c'⟩|⟨c,c'⟩|c|c|c|c|c|c
 .simp only[go_sem,c,V,X];refine (D d (tk.QL q)).use ?_;rintro w s ⟨C,x⟩;obtain⟨p,cp,rfl,_⟩:=C.open;have s0:d.size=h.size+2:=by rw[y];simp
  let⟨f1,f2,f⟩:=fin s 1 A 0 0 p _ cp (NL g) (x.get r o) (q.trans (x.mono q.size)) (C.mono uh) (by unfold VW;rw[<-hK,if_pos c,<-v]);have Z:=Zb (x.get r o);simp only[go_sem,f1,f2,Z];exact f
 .let⟨f1,f2,f⟩:=fin d 2 A 0 0 aa 0 0 [] o q (nil _) (by unfold VW;rw[<-hK];rw[if_neg c,if_pos c',<-v]);simp only[go_sem,c,c',f1,f2,r];exact f
 .let⟨f1,f2,f⟩:=fin d 3 A 0 0 aa 0 0 [] o q (nil _) (by unfold VW;grind);have c2:¬K<3:=uh;simp only[go_sem,c,c',c2,f1,f2,r];exact f
 .let⟨f1,f2,f⟩:=fin d 4 0 (UY g.c 20) 0 aa 0 0 [] o q (nil _) (by unfold VW;rw[<-hK];rw[c];rfl);have t14:¬(14:Int)<3:=HE;simp only[go_sem,c,z];refine (Qu T d g.c 20 wc uh uh).pure ?_;simp only[go_sem,f1,f2,r];exact f
 .let⟨f1,f2,f⟩:=fin d 5 0 (UY g.c 20) 0 aa 0 0 [] o q (nil _) (by unfold VW;rw[<-hK];rw[c];rfl);have t15:¬(15:Int)<3:=HE;simp only[go_sem,c,z];refine (Qu T d g.c 20 wc uh uh).pure ?_;simp only[go_sem,f1,f2,r];exact f
 .let⟨f1,f2,f⟩:=fin d 6 0 (UY g.c 20) 0 aa 0 0 [] o q (nil _) (by unfold VW;rw[<-hK];rw[c];rfl);have t16:¬(16:Int)<3:=HE;simp only[go_sem,c,z];refine (Qu T d g.c 20 wc uh uh).pure ?_;simp only[go_sem,f1,f2,r];exact f
 .cases t with
  | true=>
   let⟨f1,f2,f⟩:=fin d 8 A 0 (UY g.c 90) aa 0 0 [] o q (nil _) (by unfold VW;rw[<-hK,c,<-v];rfl);simp only[go_sem,c,z];refine (Qu T d g.c 90 wc uh uh).pure ?_;simp only[go_sem,f1,f2,r];exact f
  | false=>
   let⟨f1,f2,f⟩:=fin d 7 0 0 0 aa 0 0 [] o q (nil _) (by unfold VW;rw[<-hK,c];rfl);simp only[go_sem,c,f1,f2,r];exact f
 .cases t with
  | true=>
   let⟨f1,f2,f⟩:=fin d 9 A 0 0 aa 0 0 [] o q (nil _) (by unfold VW;rw[<-hK,c,<-v];rfl);simp only[go_sem,c,f1,f2,r];exact f
  | false=>
   let⟨f1,f2,f⟩:=fin d 7 0 0 0 aa 0 0 [] o q (nil _) (by unfold VW;rw[<-hK,c];rfl);simp only[go_sem,c,f1,f2,r];exact f
 .let⟨f1,f2,f⟩:=fin d 7 0 0 0 aa 0 0 [] o q (nil _) (by unfold VW;rw[<-hK,if_neg uh,if_neg uh,if_neg uh,if_neg uh,if_neg uh,if_neg uh,if_neg uh,if_neg uh]);have c3:¬K<3:=uh;have c5:¬K<5:=uh;have E:¬K<14:=uh;have d14:¬K=14:=uh;have d15:¬K=15:=uh;have d16:¬K=16:=uh;have d17:¬K=17:=uh;have d18:¬K=18:=uh;simp only[go_sem,c3,c5,E,d14,d15,d16,d17,d18,f1,f2,r];exact f
def NM:Raw:=⟨7,0,0,0,[]⟩
def NN(n:Nat)(a:Raw):Raw:=if a.k=1/\6<n+1 then NM else a
def WZ(a:Bool)(st:Nat × List Raw)(g:Gr):Nat × List Raw:=(if (VW g a).k=1 then st.1+1 else st.1,st.2++[NN st.1 (VW g a)])
def NO(a:List Gr)(c:Bool)(j:Nat):Nat × List Raw:=(a.take j).foldl (WZ c) (0,[])
def scr(a:List Gr)(d:Nat)(c:Bool):List Raw:=(NO a c d).2
theorem Az(a:List Gr)(c:Bool)(j:Nat)(d:j<(W a)):NO a c (j+1)=WZ c (NO a c j) a[j]:=by
 grind [NO,Xg]
theorem Du(a:List Gr)(c:Bool):∀j,j<=(W a)->(NO a c j).2.length=j/\(NO a c j).1<=j:=by
 intro j
 induction j with
 | zero=>intro _;exact⟨rfl,aq _⟩
 | succ j d=>
  grind [WZ,Az]
theorem iZ(a:List Gr)(c:Bool)(j:Nat)(h:(W a)<=j):NO a c j=NO a c (W a):=by
 grind [NO]
def yo{B:Nat}{h:Hp}{v:al}{l:List Nat}{o:Ow}(s:YL B 5 h v l)(a:∀b,B<=b->o b=aa):Rb o h v l:=⟨Im.Vp s.Zn a,s.byte⟩
def oV(h:Hp)(v:al)(d:List Gr)(I:Nat)(m:Bool)(hv:Ts Gr.C 5 h v d)(hg:∀g∈d,g.ok)(hm:I<=1000000)(tk:Tk h):
  Zg aC T 6 #[v,O H I,ak m] h fun v' h'=>∃(o:Ow) (f:List (Raw × al)),Xx f=scr d I m/\Kp (fun t=>t=.ZF 100) Mx h o h'/\Xk o (.ZF 100) 41 5 h' v' (W f) (ZW Uq f)/\(∀y∈f,Rb o h' y.2 y.1.data)/\(∀y∈f,∀b,Yq y.2=Y b->h.size<=b)/\∀b,Yq v'=Y b->h.size<=b/\b<h'.size:=by
 obtain⟨p,c,rfl,Jx⟩:=hv.open (n:=5) (enc:=Gr.C) (fun _=>rfl) HE;refine Zg.X8 [_,_,_] Tryz.func6 ?_;simp only[go_sem];refine VS.YC (fun F g=>(F 0=U p (W d) c/\F 1=O H I/\F 2=ak m)/\∃(j:Nat) (o:Ow) (f:List (Raw × al)),j<=(W d)/\j<=I/\F 9=O H j/\F 8=O H ((NO d m j).1:Nat)/\Kp (fun t=>t=.ZF 100) Mx h o g/\Xx f=(NO d m j).2/\Xk o (.ZF 100) 41 5 g (F 7) (W f) (ZW Uq f)/\(∀y∈f,Rb o g y.2 y.1.data)/\∀y∈f,∀b,Yq y.2=Y b->h.size<=b)
  (fun F _=>(W d)-(vi (F 9)).toNat) rfl ⟨⟨rfl,rfl,rfl⟩,0,Mx,[],aL _,aL _,rfl,rfl,Kp.refl (Hl h) _,rfl,Xk.nil _ _ _ _ _,(fun y B=>by cases B),fun y B=>by cases B⟩ ?_
 rintro F2 g2 ⟨⟨f0,f1,f2⟩,j,s,f,hj,b5,f9,f8,J,hr,O2,I2,N2⟩;have yl:(W f)=j:=by
  have:=congrArg W hr;unfold Xx at this;rw[a8,(Du d m j hj).1]at this;exact this
 obtain⟨p3,c3,f3,b6⟩:=O2.ZR;by_cases R:j<(W d)/\j<I
 .obtain⟨R,b1⟩:=R;have Yh:(j:Int)<(W d):=uh;have b0:(j:Int)<I:=uh;obtain⟨bb,oo,rfl,Sb,Ik⟩:=Jx zK;obtain⟨g,N⟩:=ZO (d[j]);have a4:g∈d:=by rw[N];exact aS R
  have r1:rd g2 ⟨bb,oo+j*5,aa⟩ 5=Y g.C:=by rw[Ut (Hm J) Sb,N];exact (Ik j R).rd (by simp[Gr.C]) rfl
  have ca:=yn T g2 g m (hg g a4) (tk.QL (Hm J));unfold Gr.C at ca r1;simp only[go_sem,f0,f1,f2,f9,Yh,b0,r1];refine ca.use ?_;rintro vv C ⟨⟨w,D,o3⟩,b3⟩;obtain⟨a,ha⟩:=ZO (VW g m);rw[<-ha]at o3 D;obtain⟨p4,c4,rfl,_⟩:=o3.open;have D:vv=an #[O H a.k,O H a.n,O H a.a,O H a.b,U p4 (W a.data) c4]:=by rw[D];rfl
  subst D;obtain⟨n,hn⟩:=ZO ((NO d m j).1);rw[<-hn]at f8;have b4:n<=j:=by rw[hn];exact (Du d m j hj).2
  obtain⟨Q,Hf⟩:=ZO (C.push (ae (Ob a.k a.n a.a a.b (U p4 (W a.data) c4)).toArray 41):Hp);have e4:=Hf.symm;have y4:Q[C.size]? = Y (ae (Ob a.k a.n a.a a.b (U p4 (W a.data) c4)).toArray 41):=by rw[Hf];exact Zf
  have K3:Kp WL s g2 s C:=Z9 J.YG b3;have k4:Kp WL s C s Q:=by rw[Hf];exact YK K3.YG _
  have K4:=K3.trans k4;have i3:Rb s C (U p4 (W a.data) c4) a.data:=yo o3 (fun b hb=>J.YG b hb);have i4:=i3.Zh k4;have rk:hc Q ⟨C.size,0,aa⟩=Y (O H a.k):=Zr y4;have l4:=Zb y4;have b2:=b3.size;have a7:∃(r:Hp) (q:Option Addr) (l:Nat),((¬a.k=1/\r=Q)\/((a.k=1/\¬(n:Int)+1>6)/\r=Q)\/((a.k=1/\(n:Int)+1>6)/\wr Q ⟨C.size,0,aa⟩ [O H 7,O H 0,O H 0,O H 0,U aa 0 0]=Y r)) /\
    r[C.size]? = Y (ae (Ob (NN n a).k (NN n a).n (NN n a).a (NN n a).b (U q (NN n a).data.length l)).toArray 41)/\Kp WL s g2 s r/\Rb s r (U q (NN n a).data.length l) (NN n a).data/\C.size<r.size/\∀b,Yq (U q (NN n a).data.length l)=Y b->h.size<=b:=by
   have b7:∀b,Yq (U p4 (W a.data) c4)=Y b->h.size<=b:=fun b hb=>aX J.size (o3.Zn.Yb b hb);by_cases z:a.k=1
   .by_cases Z:6<n+1
    .have eX:NN n a=NM:=by unfold NN;rw[if_pos ⟨z,Z⟩]
     rw[eX];refine⟨_,aa,0,.inr (.inr ⟨⟨z,uh⟩,by rw[Yr y4 0 _];rfl⟩),Yp y4,K4.ma uh _,⟨Im.nil _ 1 _ aa,fun x hx=>by cases hx⟩,zK,fun b hb=>by simp[Yq]at hb⟩
    grind [NN]
   .grind [NN]
  obtain⟨r,q,l,Di,y5,K5,i5,l5,n5⟩:=a7;obtain⟨X,hX⟩:=ZO (NN n a);rw[<-hX]at y5 i5 n5;have eN:NO d m (j+1)=(if a.k=1 then n+1 else n,(NO d m j).2++[X]):=by rw[Az d m j R,<-N];unfold WZ;rw[<-ha,<-hn,hX]
  have r5:rd r ⟨C.size,0,aa⟩ 5=Y (Ob X.k X.n X.a X.b (U q (W X.data) l)):=ZB y5 rfl;obtain⟨g6,LY⟩:=ZO (r.push (ae (Ob X.k X.n X.a X.b (U q (W X.data) l)).toArray 41):Hp);have e6:=LY.symm;have k6:Kp WL s r s g6:=by rw[LY];exact YK K5.YG _
  have x6:g6[r.size]? = Y (ae (Ob X.k X.n X.a X.b (U q (W X.data) l)).toArray 41):=by rw[LY];exact Zf
  have src:Sl 5 g6 (U (Y ⟨r.size,0,aa⟩) 1 1) 1 (Ob X.k X.n X.a X.b (U q (W X.data) l)):=⟨_,1,rfl,rfl,fun _=>⟨r.size,0,rfl,fun i hi=>by
   grind [hc]⟩⟩
  have O6:=(O2.Zh K5 (fun q=>q)).Zh k6 (fun q=>q);rw[f3]at O6;have a3:∀V A (G:Hp),Xk A (.ZF 100) 41 5 G V ((W f)+1) (ZW Uq f++Ob X.k X.n X.a X.b (U q (W X.data) l))->Kp (fun u=>u=.ZF 100) s g6 A G ->
    Kp (fun t=>t=.ZF 100) Mx h A G/\Xx (f++[(X,U q (W X.data) l)])=(NO d m (j+1)).2/\Xk A (.ZF 100) 41 5 G V (f++[(X,Value.slice q (W X.data) l)]).length (ZW Uq (f++[(X,U q (W X.data) l)]))/\(∀y∈f++[(X,Value.slice q (W X.data) l)],Rb A G y.2 y.1.data)/\∀y∈f++[(X,Value.slice q (W X.data) l)],∀b,Yq y.2=Y b->h.size<=b:=fun V A G O7 L=>by
   refine⟨((J.trans (Ya K5)).trans (Ya k6)).trans L,?_,?_,fun y B=>?_,fun y B=>?_⟩
   .grind [Xx]
   .have e:ZW Uq (f++[(X,U q (W X.data) l)])=ZW Uq f++Ob X.k X.n X.a X.b (U q (W X.data) l):=by rw[Xd,VH];rfl
    grind
   .rcases bq.1 B with B|B
    .exact (((I2 y B).Zh K5).Zh k6).Zh L
    .rw[List.mem_singleton.1 B];exact (i5.Zh k6).Zh L
   grind
  unfold Ob at e4 r5 e6;rcases Di with⟨z,P⟩|⟨⟨z,Z⟩,P⟩|⟨⟨z,Z⟩,w5⟩
  case' inl=>subst P
  case' inl=>simp only[go_sem,e4,rk,z,r5,l5,e6,f3]
  case' inr.inl=>subst P
  case' inr.inl=>have K:=eq_true z
  case' inr.inl=>simp only[go_sem,e4,rk,K,f8,Z,r5,l5,e6,f3]
  case' inr.inr=>have K:=eq_true z
  case' inr.inr=>simp only[go_sem,e4,rk,K,f8,Z,w5,l4,r5,l5,e6,f3]
  all_goals
   refine QM (E:=41) (n:=5) (bytes:=56) (k:=1) Zbn Tryz.underlying23 Zka Zkc rfl Zkb O6 k6.YG src rfl uh uh ?_;intro V A G O7 L _;have L:Kp (fun u=>u=.ZF 100) s g6 A G:=L;obtain⟨z1,z2,z3,z4,z5⟩:=a3 V A G O7 L;simp only[go_sem,f9];unfold Xz;refine⟨⟨⟨f0,f1,f2⟩,j+1,A,f++[(X,Value.slice q (W X.data) l)],R,b1,rfl,?_,z1,z2,?_,z4,z5⟩,?_⟩
   .rw[eN]
    first
    | (rw[if_pos z];rfl)
    | (rw[if_neg z];exact f8)
   .exact z3
   .simp only[vi,Zu,↓reduceIte,f9];omega
 have e9:scr d I m=(NO d m j).2:=by
  unfold scr;by_cases q:j<(W d)
  .grind
  .grind [iZ]
 have fin:∀b,Yq (F2 7)=Y b->h.size<=b/\b<g2.size:=fun b hb=>by
  have ho:=Zdu O2 hb;refine⟨iX J ho,?_⟩;refine aF fun q=>?_;rw[J.YG b uh]at ho;cases ho
 by_cases Lr:j<(W d)
 .have Yh:(j:Int)<(W d):=uh;have XX:¬(j:Int)<I:=uh;simp only[go_sem,f0,f1,f9,Yh,XX]
  grind
 .have Yh:¬(j:Int)<(W d):=uh;simp only[go_sem,f0,f1,f9,Yh]
  grind
def oW(h:Hp)(v:al)(d:List Gr)(e:Nat)(m:Bool)(p:Ts Gr.C 5 h v d)(r:∀g∈d,g.ok)(q:e<=1000000)(tk:Tk h):
  Zg aC T 6 #[v,O H e,ak m] h fun l h'=>Zm h.size h h'/\RT l/\∃a,Xx a=scr d e m/\Ts Uq 5 h' l a/\(∀y∈a,Rb Mx h' y.2 y.1.data)/\(∀y∈a,∀b,Yq y.2=Y b->h.size<=b)/\∀b,Yq l=Y b->h.size<=b/\b<h'.size:=
 (oV T h v d e m p r q tk).mono fun _ _ ⟨o,a,hr,t,s,f,N2,fin⟩=>⟨Hm t,(by
   grind [RT,Xk.ZR]),a,hr,⟨s.sl⟩,(fun y c=>⟨⟨(f y c).1.sl,(f y c).1.fits,fun b hb=>⟨((f y c).1.free b hb).1,rfl⟩⟩,(f y c).2⟩),N2,fin⟩
def yp(h:Hp)(v:al)(c:List Gr)(d:Nat)(e:Bool)(r:Ts Gr.C 5 h v c)(t:∀g∈c,g.ok)(s:d<=1000000)(tk:Tk h):
  Zg aC T 6 #[v,O H d,ak e] h fun f h'=>Zm h.size h h'/\RT f/\∃a,Xx a=scr c d e/\Ts Uq 5 h' f a/\∀y∈a,Rb Mx h' y.2 y.1.data:=
 (oW T h v c d e r t s tk).mono fun _ _ ⟨q,p,a,o,m,l,_,_⟩=>⟨q,p,a,o,m,l⟩
def Qv(l:List Raw):Wd:=Tx (l.map Raw.ac)
def ZdA{h:Hp}{v:al}{l:List (Raw × al)}(s:Ts Uq 5 h v l):∃p c,v=U p (W l) c:=by
 let⟨p,c,h,_⟩:=Ay s;grind
def tH{α β:Type}{R:α->β->Prop}{l:List α}{k:List β}(h:fu R l k):(W l)=(W k):=by
 induction h with
 | nil=>rfl
 | cons _ _ a=>grind
def ZlW(h:Hp)(v:al)(xs:List (Raw × al))(K:Ts Uq 5 h v xs)(hx:∀x∈xs,Rb Mx h x.2 x.1.data)(tb:j1 Mx h)(dp:(W xs)<=4611686018427387904)(hz:RO (Xx xs)=0):
  Zg aC T 7 #[v] h fun V h'=>(∃lv tv vs,V=.tuple #[an (oP (Qv (Xx xs)) lv tv).toArray,ak true]/\Tf (h.size+1) h' (oP (Qv (Xx xs)) lv tv) (Qv (Xx xs)) lv tv vs)/\Zm h.size h h':=by
 let⟨p,c,P⟩:=ZdA K;subst P;refine Zg.X8 [_] Tryz.func7 ?_;let⟨s,A⟩:=ZO (h.push (ae (ao zT) 30):Hp);have L:=A.symm;have z:Zm h.size h s:=by rw[A];exact (Zm.refl _ _).add _
 have u:s[h.size]? = Y (ae (ao zT) 30):=by rw[A];exact Zf
 have k0:Kp WL Mx h Mx s:=Z9 (Hl h) z;unfold zT at L;simp only[go_sem,L];refine (ZhN T s _ xs (K.YQ z) (fun x F=>(hx x F).Zh k0) (tb.Zh k0) dp).use ?_;rintro v1 e ⟨y,E⟩;have N:=z.trans (y.mono z.size);unfold Ax at E;rw[if_pos hz]at E;obtain⟨R,lv,tv,vs,rfl,w⟩:=E;have l:=w.at;let⟨m,cl,hl,_⟩:=l.ZqN.open (n:=1) (enc:=fun v=>[v]) (fun _=>rfl) (show (1:Nat)≠0 by decide);have Q:(W vs)=5:=tH l.each;subst hl;rw[Q]at *;have rc:=l.cells;subst rc;let⟨R,f⟩:=ZO (oP (Qv (Xx xs)) (U m 5 cl) tv);have r:oP (Tx (List.map Raw.ac (Xx xs))) (U m 5 cl) tv=R:=by rw[f];rfl
 rw[r];rw[r]at l w;let⟨pt,ct,ht,_⟩:=l.ZH.open (n:=5) (enc:=NE) (fun _=>rfl) (show (5:Nat)≠0 by decide);have a:(W R)=13:=by rw[f];rfl
 have B:R.all YV=true:=by rw[f,ht];rfl
 have G:XB [Value.int H 0,ak false,ak false,ak false,ak false,ak false,U aa 0 0,O H 0,O H 0,O H 0,O H 0,O H 0,U aa 0 0] 0 R=R:=Yf (by rw[a];rfl);have t:(W R)<=13:=uh;have q:nth R 6=Y (U m 5 cl):=by rw[f];rfl
 let⟨d,J⟩:=ZO (e.push (ae (ao R) 30):Hp);have e2:=J.symm;have I:Zm e.size e d:=by rw[J];exact (Zm.refl _ _).add _
 have C:d[e.size]? = Y (ae (ao R) 30):=by rw[J];exact Zf
 have z2:=I.get (Zb (y.get (Zb u) u)) (y.get (Zb u) u);have lz:=Zb z2;have ly:=Zb C;have r2:rd d ⟨e.size,0,aa⟩ 13=Y R:=ZB C a;have Z:hc d ⟨e.size,6,aa⟩=Y (U m 5 cl):=by rw[Zr C];exact q
 have w2:wr d ⟨h.size,0,aa⟩ R=Y (am d h.size (ae (ao R) 30)):=by
  rw[Yr z2 0 _,if_pos ⟨by rw[a];decide,B⟩];have:XB zT 0 R=R:=Yf (by rw[a];rfl);rw[this]
 have z3:=Yp (o:=ae (ao R) 30) z2;have r3:=ZB z3 a;simp only[go_sem,a,B,G,t,e2];refine VS.z (h.size) [0,5,9] (.p 1 (.p 2 (.p 3 (.p 4 (.or 0 (.or 5 (.p 6 (.p 7 (.p 8 (.w 9 (.p 10 .nil))))) (.s 9 (.w 5 (.p 6 (.p 7 (.p 8 (.p 10 .nil))))))) (.s 5 (.p 6 (.p 7 (.p 8 (.w 0 (.w 9 (.p 10 .nil)))))))))))) mixed zI ?_;have X:s.size=h.size+1:=by rw[A];simp
 have XU:¬e.size=h.size:=by have:=y.size;omega
 have e5:decide (((5:Nat):Int)=5)=true:=rfl;have et:R.take 13=R:=aw uh;have bs:Zm h.size h (am d h.size (ae (ao R) 30)):=(N.trans (I.mono N.size)).ZA (aq _) _;have D:Tf (h.size+1) (am d h.size (ae (ao R) 30)) R (Tx (List.map Raw.ac (Xx xs))) (U m 5 cl) tv vs:=by
  rw[X]at w;exact (w.YQ I).set uh _
 have key:(∃lv tv vs,Value.tuple #[an (ao R),ak true]=.tuple #[an (oP (Qv (Xx xs)) lv tv).toArray,ak true]/\Tf (h.size+1) (am d h.size (ae (ao R) 30)) (oP (Qv (Xx xs)) lv tv) (Qv (Xx xs)) lv tv vs)/\Zm h.size h (am d h.size (ae (ao R) 30)):=
  ⟨⟨_,tv,vs,by rw[<-f],by rw[<-f];exact D⟩,bs⟩
 simp only[go_sem,r2,Z,w2,a,B,t,ly,lz,XU,q,e5,et]
 grind
theorem Yv(a:ZN):¬Zj a a:=by unfold Zj;omega
theorem Xh{a c:ZN}(e:¬Zj b a)(d:¬Zj c b):¬Zj c a:=by unfold Zj at *;omega
theorem Q6{a:ZN}(h:Zj a b):¬Zj b a:=by unfold Zj at *;omega
theorem UW{a:ZN}(d:¬Zj a b)(c:¬Zj b a):a=b:=by
 let⟨r,n⟩:=a;let⟨s,m⟩:=b;unfold Zj at d c
 grind
def yq(b:ZN):Nat:=(b.r*5+b.n).toNat
def cF{a:ZN}(c:Zv a)(hb:Zv b)(h:Zj a b):yq a<yq b:=by
 unfold Zv at c hb;unfold Zj at h;unfold yq;omega
def YS{α:Type}[DecidableEq α]:∀{l C:List α},l.Nodup->(∀x∈l,x∈C)->(W l)<=(W C):=by
 intro l
 induction l with
 | nil=>grind
 | cons x l c=>
  intro C a h;rw[List.nodup_cons]at a;have f:=c (C:=C.erase x) a.2 (fun y d=>(List.mem_erase_of_ne (fun e=>a.1 zK)).2 (h y (by simp[d])))
  grind
def Co(Q:List Nat):Prop:=Q.Nodup/\(∀i∈Q,i<5)/\3<=(W Q)
theorem Co.meet{Q R:List Nat}(q:Co Q)(r:Co R):∃i,i∈Q/\i∈R:=by
 refine aF fun h=>?_;have d:(Q++R).Nodup:=by
  rw[List.nodup_append];exact⟨q.1,r.1,fun a f b hb e=>h ⟨a,f,zK⟩⟩
 have:=YS (C:=bt 5) d (fun x c=>by
  rw[List.mem_range];rcases bq.1 c with c|c
  .exact q.2.1 x c
  .exact r.2.1 x c)
 have m:=q.2.2;have l:=r.2.2
 grind
structure Gh where
 V:Nat->ZN->Int->Cm->Prop
 P:ZN->Int->Cm->Prop
def NP(g:Gh)(M:Nat->ZN)(b:ZN)(s:Int):Prop:=∃Q,Co Q/\(∀i∈Q,¬Zj (M i) b)/\∀i∈Q,∀a y,Zj a b->¬g.V i a s y
def Safe(g:Gh)(M:Nat->ZN)(b:ZN)(s:Int)(x:Cm):Prop:=
 ∃Q,Co Q/\(∀i∈Q,¬Zj (M i) b)/\((∀i∈Q,∀a y,Zj a b->¬g.V i a s y)\/∃c j,Zj c b/\g.V j c s x/\∀i∈Q,∀a y,Zj a b->g.V i a s y->¬Zj c a)
theorem NP.safe{g:Gh}{s:Int}(h:NP g M b s)(x:Cm):Safe g M b s x:=by
 grind [NP,Safe]
structure GI(S:Cm->Prop)(g:Gh)(M:Nat->ZN):Prop where
 a:∀i b s x,g.V i b s x->g.P b s x
 one:∀b s x y,g.P b s x->g.P b s y->x=y
 Yi:∀i b s x,g.V i b s x->¬Zj (M i) b
 may:∀b s x,g.P b s x->Zv b
 safe:∀b s x,g.P b s x->Safe g M b s x
 Zn:∀b s x,g.P b s x->¬Zj (M b.n.toNat) b
 cmd:∀b s x,g.P b s x->x=Ag\/S x
def J9(g:Gh)(s:Int)(x:Cm):Prop:=∃Q b,Co Q/\∀i∈Q,g.V i b s x
def Iq{g:Gh}(G:GI S g M){Q:List Nat}{s:Int}{x:Cm}(f:Co Q)(m:∀i∈Q,g.V i b s x):∀n a y,yq a<=n->g.P a s y->Zj b a->y=x:=by
 have hb:g.P b s x:=by
  let⟨i,l,_⟩:=f.meet f;exact G.a _ _ _ _ (m i l)
 intro n
 induction n with
 | zero=>
  intro a y l d h;have:=cF (G.may _ _ _ hb) (G.may _ _ _ d) h;omega
 | succ n w=>
  intro a y l d h;let⟨R,q,_,c⟩:=G.safe _ _ _ d;let⟨i,p,o⟩:=f.meet q;rcases c with c|⟨v,j,c,u,t⟩
  .grind
  .have z:=t i o b x h (m i p);have r:=G.a _ _ _ _ u;by_cases e:Zj b v
   .have:=cF (G.may _ _ _ r) (G.may _ _ _ d) c
    grind
   grind [UW,GI.one]
def J9.one{g:Gh}(G:GI S g M){s:Int}{x y:Cm}(l:J9 g s x)(d:J9 g s y):x=y:=by
 let⟨Q,b,q,h⟩:=l;let⟨R,c,r,k⟩:=d;have hb:g.P b s x:=by
  let⟨i,a,_⟩:=q.meet q;exact G.a _ _ _ _ (h i a)
 have hc:g.P c s y:=by
  let⟨i,a,_⟩:=r.meet r;exact G.a _ _ _ _ (k i a)
 by_cases e:Zj b c
 .exact (Iq G q h _ c y (aq _) hc e).symm
 .by_cases f:Zj c b
  .exact Iq G r k _ b x (aq _) hb f
  grind [UW,GI.one]
def J9.ZQ{g:Gh}(G:GI S g M){s:Int}{x:Cm}(a:J9 g s x):∃b,g.P b s x:=by
 let⟨Q,b,q,h⟩:=a;let⟨i,c,_⟩:=q.meet q;exact⟨b,G.a _ _ _ _ (h i c)⟩
structure Ext(i:Nat)(g:Gh)(M:Nat->ZN)(g':Gh)(M':Nat->ZN):Prop where
 v:∀j b s x,g.V j b s x->g'.V j b s x
 p:∀b s x,g.P b s x->g'.P b s x
 m:∀j,¬Zj (M' j) (M j)
 fz:∀j b s x,g'.V j b s x->g.V j b s x\/¬Zj b (M j)
 oth:∀j,j≠i->M' j=M j/\∀b s x,g'.V j b s x->g.V j b s x
 Zn:∀b s x,g'.P b s x->g.P b s x\/b.n=i
def Ext.refl(i:Nat)(g:Gh)(M:Nat->ZN):Ext i g M g M:=⟨fun _ _ _ _ h=>h,fun _ _ _ h=>h,fun _=>Yv _,fun _ _ _ _ h=>.inl h,fun _ _=>⟨rfl,fun _ _ _ h=>h⟩,fun _ _ _ h=>.inl h⟩
structure PF(g:Gh)(M:Nat->ZN)(i:Nat)(b:ZN)(vs:List Vt):Prop where
 lt:i<5
 Yi:¬Zj (M i) b
 has:∀v∈vs,g.V i v.b v.Zx v.cm/\¬Zj b v.b
 all:∀b' s x,Zj b' b->g.V i b' s x->∃v∈vs,v.Zx=s/\¬Zj v.b b'
section
variable {i:Nat} {g g':Gh} {M M':Nat->ZN}
theorem Ext.frozen(E:Ext i g M g' M'){j:Nat}{a:ZN}{s:Int}{x:Cm}(h:¬Zj (M j) b)(hb:Zj a b)(c:g'.V j a s x):g.V j a s x:=by
 grind [Ext.fz,Xh]
def PF.ext(E:Ext i g M g' M'){j:Nat}{vs:List Vt}(h:PF g M j b vs):PF g' M' j b vs:=
 ⟨h.lt,Xh h.Yi (E.m j),fun v a=>⟨E.v _ _ _ _ (h.has v a).1,(h.has v a).2⟩,fun c s x hb a=>h.all c s x hb (E.frozen h.Yi hb a)⟩
def J9.ext(E:Ext i g M g' M'){s:Int}{x:Cm}(h:J9 g s x):J9 g' s x:=by
 let⟨Q,b,q,h⟩:=h;exact⟨Q,b,q,fun i hi=>E.v _ _ _ _ (h i hi)⟩
theorem NP.ext(E:Ext i g M g' M'){s:Int}(h:NP g M b s):NP g' M' b s:=by
 let⟨Q,q,a,d⟩:=h;exact⟨Q,q,fun i hi=>Xh (a i hi) (E.m i),fun i hi e y hb c=>d i hi e y hb (E.frozen (a i hi) hb c)⟩
theorem Safe.ext(E:Ext i g M g' M'){s:Int}{x:Cm}(h:Safe g M b s x):Safe g' M' b s x:=by
 let⟨Q,q,a,c⟩:=h;refine⟨Q,q,fun i hi=>Xh (a i hi) (E.m i),?_⟩
 grind [Ext.frozen,Ext.v]
end
def MN(M:Nat->ZN)(i:Nat)(b:ZN):Nat->ZN:=fun j=>if j=i then b else M j
def raised{i:Nat}{g:Gh}(G:GI S g M)(hb:¬Zj b (M i)):Ext i g M g (MN M i b)/\GI S g (MN M i b):=by
 have a:∀j,¬Zj (MN M i b j) (M j):=fun j=>by
  grind [MN,Yv]
 have E:Ext i g M g (MN M i b):=⟨fun _ _ _ _ h=>h,fun _ _ _ h=>h,a,fun _ _ _ _ h=>.inl h,fun j d=>⟨by unfold MN;grind,fun _ _ _ h=>h⟩,fun _ _ _ h=>.inl h⟩
 exact⟨E,G.a,G.one,fun j c s x h=>Xh (G.Yi j c s x h) (a j),G.may,fun c s x h=>(G.safe c s x h).ext E,fun c s x h=>Xh (G.Zn c s x h) (a _),G.cmd⟩
def LB(g:Gh)(i:Nat)(b:ZN)(s:Int)(x:Cm):Gh:=⟨fun j c t y=>g.V j c t y\/(j=i/\c=b/\t=s/\y=x),g.P⟩
def ZdB{i:Nat}{g:Gh}(G:GI S g M){s:Int}{x:Cm}(d:g.P b s x)(hb:¬Zj b (M i)):Ext i g M (LB g i b s x) (MN M i b)/\GI S (LB g i b s x) (MN M i b):=by
 have a:∀j,¬Zj (MN M i b j) (M j):=fun j=>by
  grind [MN,Yv]
 have E:Ext i g M (LB g i b s x) (MN M i b):=by
  refine⟨fun _ _ _ _ h=>.inl h,fun _ _ _ h=>h,a,fun j c t y h=>?_,fun j e=>⟨by unfold MN;grind,fun c t y h=>?_⟩,fun _ _ _ h=>.inl h⟩
  .grind [LB]
  .grind [LB]
 refine⟨E,fun j c t y h=>?_,G.one,fun j c t y h=>?_,G.may,fun c t y h=>(G.safe c t y h).ext E,fun c t y h=>Xh (G.Zn c t y h) (a _),G.cmd⟩
 .rcases h with h|⟨rfl,rfl,rfl,rfl⟩
  .exact G.a _ _ _ _ h
  .exact d
 grind [LB,MN,Xh,GI.Yi,Yv]
def M3(g:Gh)(b:ZN)(l:List (Int × Cm)):Gh:=⟨g.V,fun c t y=>g.P c t y\/(c=b/\YF l t=Y y)⟩
def ZdC{i:Nat}{g:Gh}(G:GI S g M){l:List (Int × Cm)}(a:b.n=i)(m:Zv b)(f:¬Zj (M i) b)(r:∀t y,g.P b t y->YF l t=Y y)(q:∀t y,YF l t=Y y->Safe g M b t y)(p:∀t y,YF l t=Y y->y=Ag\/S y):
  Ext i g M (M3 g b l) M/\GI S (M3 g b l) M:=by
 have E:Ext i g M (M3 g b l) M:=by
  refine⟨fun _ _ _ _ h=>h,fun _ _ _ h=>.inl h,fun _=>Yv _,fun _ _ _ _ h=>.inl h,fun j o=>⟨rfl,fun _ _ _ h=>h⟩,fun c t y h=>?_⟩;rcases h with h|⟨rfl,_⟩
  .exact .inl h
  .exact .inr a
 refine⟨E,fun j c t y h=>.inl (G.a _ _ _ _ h),fun c t y z e d=>?_,G.Yi,fun c t y h=>?_,fun c t y h=>?_,fun c t y h=>?_,fun c t y h=>?_⟩
 .grind [M3,GI.one]
 .grind [M3,GI.may]
 .grind [M3,Safe.ext,GI.safe]
 .grind [M3,GI.Zn]
 grind [M3,GI.cmd]
def AA{n:Nat}(h:n<4294967296):n/16777216%256*16777216+n/65536%256*65536+n/256%256*256+n%256=n:=uh
def i6{a:QT}(h:YX a.p a.l b=0):J7 a (QA b)=Y ⟨b,a.l⟩:=by
 have hb:=PP h;let⟨r,m⟩:=b;unfold Zv at hb;simp only at hb;have e:JE (QA ⟨r,m⟩) 1=r.toNat:=by
  have:JE (QA ⟨r,m⟩) 1=r.toNat/16777216%256*16777216+r.toNat/65536%256*65536+r.toNat/256%256*256+r.toNat%256:=by simp[JE,QA,ZI,X7]
  rw[this];exact AA uh
 have d:JE (QA ⟨r,m⟩) 5=m.toNat:=by
  have:JE (QA ⟨r,m⟩) 5=m.toNat/16777216%256*16777216+m.toNat/65536%256*65536+m.toNat/256%256*256+m.toNat%256:=by simp[JE,QA,ZI,X7]
  rw[this];exact AA uh
 have c:(⟨((JE (QA ⟨r,m⟩) 1:Nat):Int),((JE (QA ⟨r,m⟩) 5:Nat):Int)⟩:ZN)=⟨r,m⟩:=by
  rw[e,d,ZN.mk.injEq];omega
 unfold J7;rw[if_pos ⟨rfl,rfl⟩,c,if_pos h]
def ZdD{a:QT}{v:Vt}(h:Xw a.p a.l v=0):J7 a (WJ v)=Y ⟨v.b,Jq a.l v⟩:=by
 have A:=Hk h;let⟨s,⟨r,m⟩,k,c,q,nm,x⟩:=v;let⟨C,p,o⟩:=A;unfold Zv at p;simp only at C p o;obtain⟨k',c',l,n',d,rfl,rfl,rfl,rfl,rfl,R,Q,P,N,K⟩:=JR o;have f:∀(i:Nat) (n:Nat),JE (WJ ⟨s,⟨r,m⟩,k',c',l,n',d⟩) i=n/16777216%256*16777216+n/65536%256*65536+n/256%256*256+n%256->n<4294967296->JE (WJ ⟨s,⟨r,m⟩,k',c',l,n',d⟩) i=n:=fun i n e G=>by grind
 have F:=f 1 s.toNat (by simp[JE,WJ,ZI,X7]) (by omega);have E:=f 5 r.toNat (by simp[JE,WJ,ZI,X7]) (by omega);have D:=f 9 m.toNat (by simp[JE,WJ,ZI,X7]) (by omega);have z:=f 13 k' (by simp[JE,WJ,ZI,X7]) (by omega);have y:=f 17 c' (by simp[JE,WJ,ZI,X7]) (by omega);have w:=f 21 l (by simp[JE,WJ,ZI,X7]) (by omega);have u:=f 25 n' (by simp[JE,WJ,ZI,X7]) (by omega);have t:=f 29 d (by simp[JE,WJ,ZI,X7]) (by omega);have B:(WJ ⟨s,⟨r,m⟩,k',c',l,n',d⟩).length=33:=rfl;let⟨L,hL⟩:=ZO (WJ ⟨s,⟨r,m⟩,k',c',l,n',d⟩);have I:L.getD 0 0=2:=by rw[hL];rfl
 rw[<-hL]at F E D z y w u t B ⊢;have J:Uh (L.drop 13)=0:=by
  unfold Uh;rw[if_pos (by grind),Sh,Sh,Sh,Sh,Sh,z,y,w,u,t];exact o
 grind [sE,Sh,J7]
def AB{d:List Nat}{a c:QT}{k':Nat}(h:Xp d a k=Y (c,k')):k<k'/\k'<=(W d):=by
 unfold Xp at h
 grind [a6]
def ZdE{d e:List Nat}(h:k<(W d)):(d++e).getD k 0=d.getD k 0:=by
 grind
def ZhP{d e:List Nat}{n:Nat}(h:k+n<=(W d)):((d++e).drop k).take n=(d.drop k).take n:=by
 grind
def ZdF{d:List Nat}{a c:QT}{k':Nat}(h:Xp d a k=Y (c,k'))(e:List Nat):Xp (d++e) a k=Y (c,k'):=by
 grind [Xp,OS]
def ZdG{d:List Nat}{a l:QT}{k':Nat}(h:Xp d a k=Y (l,k')){j:Nat}(u:k'<=j):Xp (d.take j) a k=Y (l,k'):=by
 unfold Xp at h ⊢;split at h
 .rename_i q;rw[a6]at h;let⟨x,p,e⟩:=h;simp only[Prod.mk.injEq]at e;let⟨s,r⟩:=e;have f:d=d.take j++d.drop j:=(List.take_append_drop j d).symm;have t:(d.take j).length=min j (W d):=a5;have o:OS d k=OS (d.take j) k:=by
   unfold OS
   conv=>lhs;rw[f]
   rw[ZdE uh]
  have v:1<=OS d k:=by unfold OS;omega
  have c:∀a n,a+n<=j->a+n<=(W d)->(d.drop a).take n=((d.take j).drop a).take n:=fun a n y w=>by
   conv=>lhs;rw[f]
   exact ZhP uh
  have m:(Ro (((d.take j).drop k).take (OS d k))).take 4=((d.take j).drop (k+OS d k)).take 4:=by
   rw[<-c _ _ uh uh,<-c _ _ uh uh];exact q.2.2
  rw[<-o,if_pos ⟨uh,uh,m⟩,<-c _ _ uh uh,p,<-s,<-r,br]
 .cases h
def Rec.fits{l:List Nat}{a r:QT}{j:Nat}(h:Rec l a k r j):k<=(W l)->k<=j/\j<=(W l):=by
 induction h with
 | stop e=>grind
 | go e _ c=>
  intro h;have d:=AB e
  grind
def Rec.app{l e:List Nat}{a r r':QT}{j c:Nat}(h:Rec l a k r j)(d:Rec (l++e) r j r' c):Rec (l++e) a k r' c:=by
 induction h with
 | stop _=>exact d
 | go s _ f=>exact .go (ZdF s e) (f d)
def step_end(l:List Nat)(a:QT):Xp l a (W l)=aa:=by
 unfold Xp
 grind
def Rec.cut{l:List Nat}{a r:QT}{j:Nat}(h:Rec l a k r j):k<=(W l)->Rec (l.take j) a k r j:=by
 induction h with
 | stop e=>
  intro h;rename_i k;have:=step_end (l.take k) ‹QT›;rw[a5,bp h]at this;exact .stop this
 | go s m d=>
  intro h;have c:=AB s;have f:=m.fits c.2;exact .go (ZdG s f.1) (d c.2)
def Whole(d:List Nat)(a:QT):Prop:=Rec d Qj 0 a (W d)
def Whole.nil:Whole [] Qj:=.stop (step_end [] Qj)
def Whole.all{d:List Nat}{a:QT}(h:Whole d a):Sj d=(a,(W d)):=Mu h
def ZdH(d:List Nat){a e:QT}{f:List Nat}(hb:J7 a f=Y e):Xp (d++Xm f) a (W d)=Y (e,(d++Xm f).length):=by
 have o:=VN f;have c:Xm f=(W f) :: (f++(Ro (Ia f)).take 4):=rfl;have p:OS (d++Xm f) (W d)=1+(W f):=by
  unfold OS;rw[List.getD_eq_getElem?_getD,List.getElem?_append_right (aq _),Nat.sub_self,c];rfl
 have m:((d++Xm f).drop (W d)).take (1+(W f))=Ia f:=by
  rw[bc];unfold Xm;rw[aV (by rw[S9];omega),aw (by rw[S9];omega)]
 have l:((d++Xm f).drop ((W d)+(1+(W f)))).take 4=(Ro (Ia f)).take 4:=by
  rw[<-bw,bc];unfold Xm;rw[List.drop_append_of_le_length (by grind),List.drop_of_length_le (by grind),List.nil_append,List.take_take];rfl
 have h:((d++Xm f).drop ((W d)+1)).take (1+(W f)-1)=f:=by
  rw[<-bw,bc,c,List.drop_succ_cons,List.drop_zero,Nat.add_sub_cancel_left,aV (aq _),aw (aq _)]
 unfold Xp;rw[p,if_pos ⟨by grind,by grind,by rw[m,l]⟩,h,hb];simp only[br,aI,o]
 grind
def yu(d f:List Nat)(a:QT){m:Nat}(e:m<(Xm f).length):Xp (d++(Xm f).take m) a (W d)=aa:=by
 have h:=VN f;have l:Xm f=(W f) :: (f++(Ro (Ia f)).take 4):=rfl;have c:((Xm f).take m).length=m:=aac;unfold Xp;rw[if_neg]
 grind [OS]
theorem Whole.add{d f:List Nat}{a c:QT}(h:Whole d a)(hb:J7 a f=Y c):Whole (d++Xm f) c:=
 Rec.app h (.go (ZdH d hb) (.stop (step_end _ _)))
def Whole.ZAG{d f:List Nat}{a:QT}(h:Whole d a){m:Nat}(c:m<(Xm f).length):Rec (d++(Xm f).take m) Qj 0 a (W d):=
 Rec.app h (.stop (yu d f a c))
def YM:OT->QT
 | .QB a _ _ _=>a
 | .Us a _ _=>a
 | .Zn a _ _=>a
structure TR(n:Nd):Prop where
 idle:n.up=true->n.Zo=aa->Whole n.data n.Zn/\n.XI=(W n.data)
 busy:n.up=true->∀p,n.Zo=Y p->∃d f,n.data=d++Xm f/\n.XI=(W d)/\Whole d n.Zn/\J7 n.Zn f=Y (YM p)
 down:n.up=false->n.Zo=aa/\n.XI=(W n.data)/\∃a j,Rec n.data Qj 0 a j
 len:(W n.data)<=100000
def YY(n:Nd):QT:=if n.up=true then n.Zn else (Sj n.data).1
def ZdI(i:Nat):TR (ZZ i true [] 0 Qj):=by
 refine⟨fun _ _=>⟨Whole.nil,rfl⟩,fun _ p a=>(by cases a),fun h=>(by cases h),by simp[ZZ]⟩
def Dv{i:Nat}{n:Nd}(h:TR n)(q:n.up=true){Zh:Int}(v:0<=Zh):
  TR (Y4 i n Zh)/\(Y4 i n Zh).up=false/\(YY (Y4 i n Zh)=n.Zn\/∃p,n.Zo=Y p/\YY (Y4 i n Zh)=YM p):=by
 have key:∀(d:List Nat) (z:Int) (a:QT) (j:Nat),(W d)<=100000->z=(W d)->Rec d Qj 0 a j->TR (ZZ i false d z Qj)/\(ZZ i false d z Qj).up=false/\YY (ZZ i false d z Qj)=a:=fun d z a j l o c=>by
  refine⟨⟨fun e=>(by cases e),fun e=>(by cases e),fun _=>⟨rfl,o,a,j,c⟩,l⟩,rfl,?_⟩;unfold YY;rw[if_neg (by simp[ZZ])];show (Sj d).1=a;rw[Mu c]
 cases t:n.Zo with
 | none=>
  grind [Whole,Y4,TR.idle,TR.len,Tw,Xo,aw]
 | some p=>
  let⟨d,f,l,o,c,x⟩:=h.busy q p t;have u:=h.len;have w:(W n.data)=(W d)+(Xm f).length:=by rw[l,aI]
  have y:((W d):Int)<=Tw n.data n.XI Zh/\Tw n.data n.XI Zh<=(W n.data):=by unfold Tw;rw[o];split<;>omega
  obtain⟨C,hC⟩:∃C:Nat,Tw n.data n.XI Zh=C:=⟨(Tw n.data n.XI Zh).toNat,uh⟩
  have e:Y4 i n Zh=ZZ i false (n.data.take C) C Qj:=by
   unfold Y4;rw[if_pos q,if_pos ⟨⟨u,uh,uh⟩,v⟩,hC];rfl
  have s:(n.data.take C).length=C:=aac;rw[e];by_cases hw:C=(W n.data)
  .have r:n.data.take C=n.data:=aw uh;rw[r];have:=c.add x
   grind [Whole]
  .have r:n.data.take C=d++(Xm f).take (C-(W d)):=by
    rw[l,List.take_append,aw uh]
   have:=c.ZAG (f:=f) (m:=C-(W d)) uh
   grind
def Dw{i:Nat}{n:Nd}(h:TR n)(o:n.up=false):
  TR (started i n)/\(started i n).up=true/\(started i n).Zn=YY n:=by
 let⟨w,v,a,j,c⟩:=h.down o;have r:=h.len;have u:=c.fits (aL _);have f:=Mu c;have d:=c.cut (aL _);have t:(n.data.take j).length=j:=aac;have ok:Xo n.data n.XI:=⟨r,uh,uh⟩
 have m:Hc n.data n.XI=n.data.take j:=by unfold Hc;rw[if_pos ok,f]
 have l:nL n.data n.XI=j:=by
  unfold nL;rw[if_pos ok,f];simp only;split<;>omega
 have ok2:Xo (n.data.take j) (j:Int):=⟨uh,uh,uh⟩
 have hw:Whole (n.data.take j) a:=by unfold Whole;rw[t];exact d
 have s:(if Xo (Hc n.data n.XI) (nL n.data n.XI) then (Sj (Hc n.data n.XI)).1 else Qj)=a:=by
  rw[m,l,if_pos ok2,hw.all]
 have e:started i n=ZZ i true (n.data.take j) j a:=by
  unfold started;rw[if_neg zK,s,m,l]
 rw[e];refine⟨⟨fun _ _=>⟨hw,by show (j:Int)=((n.data.take j).length:Nat);omega⟩,fun _ p q=>(by cases q),fun h=>(by cases h),by show (n.data.take j).length<=100000;omega⟩,rfl,?_⟩
 grind [ZZ,YY]
def ZhQ{β:Type}:∀{l:List (Int × β)} {k:Int},k∈l.map (·.1)->∃v,YF l k=Y v:=by
 intro l k h
 cases e:YF l k with
 | some v=>grind
 | none=>
  obtain⟨x,a,rfl⟩:=aH.1 h;exact (Zbj e x a rfl).elim
def ZhR{β:Type}{l:List (Int × β)}{k:Int}{v:β}(h:YF l k=Y v):k∈l.map (·.1):=aH.2 ⟨(k,v),SP h,rfl⟩
def TC.maj{β:Type}{l:List (Int × β)}(h:TC 5 l)(c:5<2*(W l)):Co (l.map fun x=>x.1.toNat):=by
 refine⟨?_,fun i hi=>?_,zK⟩
 .have:(l.map fun x=>x.1.toNat)=(l.map (·.1)).map Int.toNat:=by rw[List.map_map];rfl
  rw[this];refine List.pairwise_map.2 ?_;have d:=h.2;have e:=h.1
  grind [List.Pairwise.imp_of_mem]
 .obtain⟨x,a,rfl⟩:=aH.1 hi;have:=h.2 x.1 (aH.2 ⟨x,a,rfl⟩);omega
def TC.back{β:Type}{l:List (Int × β)}(h:TC 5 l){i:Nat}(hi:i∈l.map fun x=>x.1.toNat):∃v,YF l (i:Int)=Y v:=by
 obtain⟨x,a,rfl⟩:=aH.1 hi;have:=h.2 x.1 (aH.2 ⟨x,a,rfl⟩);have e:((x.1.toNat:Nat):Int)=x.1:=uh;rw[e];exact ZhQ (aH.2 ⟨x,a,rfl⟩)
structure AR(g:Gh)(i:Nat)(a:QT):Prop where
 has:∀v∈a.l,g.V i v.b v.Zx v.cm
 all:∀b s x,g.V i b s x->∃v∈a.l,v.Zx=s/\¬Zj v.b b
theorem AR.pf{g:Gh}{i:Nat}{a:QT}(G:GI S g M)(h:AR g i a)(hi:i<5)(d:M i=a.p):PF g M i a.p a.l:=
 ⟨hi,by rw[d];exact Yv _,fun v c=>⟨h.has v c,by rw[<-d];exact G.Yi _ _ _ _ (h.has v c)⟩,fun e s x _ c=>h.all e s x c⟩
structure RR(g:Gh)(M:Nat->ZN)(i:Nat)(n:Nd)(r:XR):Prop where
 ZM:r.b.n=i
 may:Zv r.b
 c:∀j vs,YF r.c j=Y vs->PF g M j.toNat r.b vs
 pn:r.a=false->∀s x,¬g.P r.b s x
 pr:∀s x,g.P r.b s x->YF r.ZQ s=Y x
 safe:∀s x,YF r.ZQ s=Y x->g.P r.b s x
 free:r.a=true->∀s:Int,(n.ZF.length:Int)<=s->YF r.ZQ s=aa->YF n.Zi s=aa->NP g M r.b s
 Xc:∀s K j,YF r.Xc s=Y K->YF K j=Y ()->∃x,g.V j.toNat r.b s x
def PR(g:Gh)(n:Nd):OT->Prop
 | .QB a to b vs=>a=⟨b,n.Zn.l⟩/\vs=n.Zn.l/\YX n.Zn.p n.Zn.l b=0
 | .Us a to v=>a=⟨v.b,Jq n.Zn.l v⟩/\Xw n.Zn.p n.Zn.l v=0/\g.P v.b v.Zx v.cm
 | .Zn a vs cur=>∃b,a=⟨b,n.Zn.l⟩/\vs=n.Zn.l/\YX n.Zn.p n.Zn.l b=0/\(cur=true->∃r,n.Zc=Y r/\r.b=b)
structure LR(S:Cm->Prop)(g:Gh)(M:Nat->ZN)(l:Yt):Prop where
 QB:l.a=1->PF g M l.c.toNat l.b l.vs
 ask:l.a=2->g.P l.v.b l.v.Zx l.v.cm
 Us:l.a=3->g.V l.c.toNat l.v.b l.v.Zx l.v.cm
 fwd:l.a=4->S l.v.cm
 cho:l.a=6->J9 g l.v.Zx l.v.cm
theorem LR.plain{g:Gh}{l:Yt}(h:l.a=0\/l.a=5\/l.a=7):LR S g M l:=
 ⟨fun e=>by omega,fun e=>by omega,fun e=>by omega,fun e=>by omega,fun e=>by omega⟩
structure NR(S:Cm->Prop)(g:Gh)(M:Nat->ZN)(i:Nat)(n:Nd):Prop where
 acc:AR g i (YY n)
 m:M i=(YY n).p
 tape:TR n
 Zo:∀p,n.Zo=Y p->PR g n p
 Zi:∀s x,YF n.Zi s=Y x->J9 g s x
 ZF:∀(k:Nat) x,n.ZF[k]? = Y x->J9 g (k:Int) x
 b:∀x∈n.ZD,S x
 Zc:∀r,n.Zc=Y r->RR g M i n r
theorem Yd{n:Nd}(h:n.up=true):YY n=n.Zn:=by unfold YY;rw[if_pos h]
section
variable {i j:Nat} {g g':Gh} {M M':Nat->ZN} {S:Cm->Prop}
theorem LR.ext(E:Ext i g M g' M'){l:Yt}(h:LR S g M l):LR S g' M' l:=
 ⟨fun e=>(h.QB e).ext E,fun e=>E.p _ _ _ (h.ask e),fun e=>E.v _ _ _ _ (h.Us e),h.fwd,fun e=>(h.cho e).ext E⟩
def NR.ext(E:Ext i g M g' M'){n:Nd}(u:j≠i)(h:NR S g M j n):NR S g' M' j n:=by
 have l:=E.oth j u;refine⟨⟨fun v c=>E.v _ _ _ _ (h.acc.has v c),fun b s x c=>h.acc.all b s x (l.2 _ _ _ c)⟩,by rw[l.1];exact h.m,h.tape,fun p t=>?_,fun s x e=>(h.Zi s x e).ext E,fun k x e=>(h.ZF k x e).ext E,h.b,fun r hr=>?_⟩
 .have:=h.Zo p t
  cases p with
  | QB a to b vs=>exact this
  | Us a to v=>exact⟨this.1,this.2.1,E.p _ _ _ this.2.2⟩
  | Zn a vs cur=>exact this
 .have R:=h.Zc r hr;have m:∀s x,g'.P r.b s x->g.P r.b s x:=fun s x e=>by
   rcases E.Zn _ _ _ e with e|e
   .exact e
   .rw[R.ZM]at e;omega
  exact⟨R.ZM,R.may,fun k vs e=>(R.c k vs e).ext E,fun e s x q=>R.pn e s x (m s x q),fun s x q=>R.pr s x (m s x q),fun s x q=>E.p _ _ _ (R.safe s x q),fun e s f d w=>(R.free e s f d w).ext E,fun s K k f d=>by
   let⟨x,o⟩:=R.Xc s K k f d;exact⟨x,E.v _ _ _ _ o⟩⟩
end
structure HR(S:Cm->Prop)(g:Gh)(M:Nat->ZN)(i:Nat)(o:Out):Prop where
 n:NR S g M i o.n
 up:o.n.up=true
 ls:∀l∈o.ls,LR S g M l
section
variable {S:Cm->Prop} {g:Gh} {M:Nat->ZN} {i:Nat} {n:Nd}
theorem HR.same(N:NR S g M i n)(a:n.up=true):HR S g M i ⟨n,[],[]⟩:=⟨N,a,fun l c=>by cases c⟩
def HR.one(N:NR S g M i n)(a:n.up=true){l:Yt}(d:LR S g M l):HR S g M i ⟨n,[l],[]⟩:=⟨N,a,fun x c=>by
 grind⟩
theorem QC{p:ZN}{l:List Vt}(h:YX p l b=0):¬Zj b p:=by
 unfold YX at h
 grind
theorem Q7{p:ZN}{l:List Vt}{v:Vt}(h:Xw p l v=0):¬Zj v.b p:=by
 unfold Xw at h
 grind
def NR.wait(N:NR S g M i n)(a:n.up=true)(h:n.Zo=aa){p:OT}{f:List Nat}(hb:J7 n.Zn f=Y (YM p))(l:(n.data++Xm f).length<=100000)(hr:PR g n p):NR S g M i { n with data:=n.data++Xm f,Zo:=Y p }:=by
 let⟨o,m⟩:=N.tape.idle a h;have d:YY { n with data:=n.data++Xm f,Zo:=Y p } = YY n:=by rw[Yd a,Yd (n:={ n with data:=n.data++Xm f,Zo:=Y p }) a]
 refine⟨by rw[d];exact N.acc,by rw[d];exact N.m,⟨fun _ e=>(by cases e),fun _ q c=>?_,fun e=>?_,l⟩,fun q c=>?_,N.Zi,N.ZF,N.b,fun r hr=>?_⟩
 .grind
 .grind
 .cases c
  cases p<;>exact hr
 .have R:=N.Zc r hr;exact⟨R.ZM,R.may,R.c,R.pn,R.pr,R.safe,R.free,R.Xc⟩
def oX(hi:i<5)(G:GI S g M)(N:NR S g M i n)(a:n.up=true)(d:n.Zo=aa)(u:n.me=i){l:Yt}:HR S g M i (Y3 n l):=by
 have o:=Yd a;have s:=N.acc;have m:=N.m;rw[o]at s m;unfold Y3;split
 .exact .one N a (.plain (.inr (.inr rfl)))
 .rename_i r;split
  .rename_i t;refine .one N a ⟨fun _=>?_,fun e=>(by cases e),fun e=>(by cases e),fun e=>(by cases e),fun e=>(by cases e)⟩
   grind [AR.pf]
  .split
   .exact .same N a
   .rename_i q;have c:YX n.Zn.p n.Zn.l l.b=0:=by simpa using r
    have p:JS n.data n.XI l.b=0:=by simpa using q
    refine⟨N.wait a d (f:=QA l.b) (i6 c) ?_ ⟨rfl,rfl,c⟩,a,fun l h=>by cases h⟩;rw[aI,Ov];exact In p
def ZhS(hi:i<5)(G:GI S g M)(N:NR S g M i n)(a:n.up=true)(d:n.Zo=aa)(t:n.me=i){l:Yt}(L:g.P l.v.b l.v.Zx l.v.cm):HR S g M i (asked n l):=by
 have m:=Yd a;have r:=N.acc;rw[m]at r;unfold asked;split
 .exact .one N a (.plain (.inr (.inr rfl)))
 .rename_i q;split
  .rename_i s;refine .one N a ⟨fun e=>(by cases e),fun e=>(by cases e),fun _=>?_,fun e=>(by cases e),fun e=>(by cases e)⟩
   grind [bg,AR.has]
  .split
   .exact .same N a
   .rename_i p;have c:Xw n.Zn.p n.Zn.l l.v=0:=by simpa using q
    have o:QS n.data n.XI l.v=0:=by simpa using p
    refine⟨N.wait a d (f:=WJ l.v) (ZdD c) ?_ ⟨rfl,c,L⟩,a,fun l h=>by cases h⟩;rw[aI,cj];exact iS o
theorem NR.more(N:NR S g M i n)(w:n.Zo=aa){m:Nd}(z:m.up=n.up)(a:m.data=n.data)(d:m.XI=n.XI)(c:m.Zn=n.Zn)(C:m.Zc=n.Zc)(y:m.Zo=n.Zo)(v:∀s x,YF m.Zi s=Y x->J9 g s x)(u:∀s,YF m.Zi s=aa->YF n.Zi s=aa)(t:∀(k:Nat) x,m.ZF[k]? = Y x->J9 g (k:Int) x)(B:n.ZF.length<=m.ZF.length)(o:∀x∈m.ZD,S x):NR S g M i m:=by
 have f:YY m=YY n:=by unfold YY;rw[z,a,c]
 have T:=N.tape;refine⟨by rw[f];exact N.acc,by rw[f];exact N.m,⟨fun E D=>?_,fun _ p e=>?_,fun e=>?_,by rw[a];exact T.len⟩,fun p e=>?_,v,t,o,fun r e=>?_⟩
 .rw[a,d,c];exact T.idle zK w
 .grind
 .rw[a,d,y];exact T.down zK
 .grind
 .have R:=N.Zc r zK;exact⟨R.ZM,R.may,R.c,R.pn,R.pr,R.safe,fun q s A l h=>R.free q s uh l (u s h),R.Xc⟩
theorem ZdJ(N:NR S g M i n)(c:n.Zo=aa){x:Cm}(a:YF n.Zi (n.ZF.length:Int)=Y x):NR S g M i (XF n x):=by
 grind [NR.more,XF,NR.Zi,NR.ZF,NR.b]
def yv:∀(k:Nat) (n:Nd),NR S g M i n->n.Zo=aa->n.up=true->NR S g M i (YA k n).1/\(YA k n).1.Zo=aa/\(YA k n).1.up=true:=by
 intro k
 induction k with
 | zero=>intro n N c a;exact⟨N,c,a⟩
 | succ k d=>
  grind [XF,YA.eq_def,ZdJ]
theorem tI(N:NR S g M i n)(a:n.Zo=aa)(c:n.up=true){s:Int}{x:Cm}(hc:J9 g s x):HR S g M i (Jj n s x):=by
 have m:NR S g M i (X6 n s x):=by
  refine N.more a rfl rfl rfl rfl rfl rfl (fun t y e=>?_) (fun t e=>?_) N.ZF (aq _) N.b
  .grind [NR.Zi,XQ,X6]
  .have e:YF (ins n.Zi s x) t=aa:=e
   grind [XQ]
 let⟨h,_,f⟩:=yv ((X6 n s x).Zi.length+1) _ m a c;exact⟨h,f,fun l d=>by cases d⟩
def NR.ZqX(N:NR S g M i n)(a:n.Zo=aa){r:XR}(R:RR g M i n r):NR S g M i { n with Zc:=Y r }:=
 ⟨N.acc,N.m,⟨N.tape.idle,N.tape.busy,N.tape.down,N.tape.len⟩,fun p e=>zK,N.Zi,N.ZF,N.b,fun r' e=>by
  obtain rfl:=aag e;exact⟨R.ZM,R.may,R.c,R.pn,R.pr,R.safe,R.free,R.Xc⟩⟩
def oY(G:GI S g M)(N:NR S g M i n)(d:n.Zo=aa)(a:n.up=true){C:List Cm}(D:JZ C i n){l:Yt}(LI:Qt C l)(L:LR S g M l)(F:l.a=1\/l.a=3):HR S g M i (YI n l):=by
 unfold YI;split
 .exact .same N a
 .rename_i r hr;have R:=N.Zc r hr;have B:=D.Zc r hr;split
  .rename_i w;split
   .rename_i f;refine .same ?_ a;refine N.ZqX d ⟨R.ZM,R.may,fun j vs e=>?_,R.pn,R.pr,R.safe,R.free,R.Xc⟩
    grind [RR.c,XQ,LR.QB]
   .exact .same N a
  .rename_i w;have v:l.a=3:=uh;split
   .exact .same N a
   .rename_i f;have z:l.v.b=r.b:=aF fun q=>f q;have m:=L.Us v;rw[z]at m;have E:∀j,YF (UB r l) j=Y ()->∃x,g.V j.toNat r.b l.v.Zx x:=fun j e=>by
     unfold UB at e;rw[XQ]at e;split at e
     .grind
     .cases q:YF r.Xc l.v.Zx with
      | none=>rw[q]at e;cases e
      | some K=>rw[q]at e;exact R.Xc _ K j q e
    have o:NR S g M i (Vc n r l):=by
     refine N.ZqX d ⟨R.ZM,R.may,R.c,R.pn,R.pr,R.safe,R.free,fun s K j c A=>?_⟩;have c:YF (ins r.Xc l.v.Zx (UB r l)) s=Y K:=c;rw[XQ]at c;split at c
     .grind
     .exact R.Xc s K j c A
    split
    .rename_i t;refine tI o d a ?_;have p:TC 5 (UB r l):=by
      unfold UB;refine TC.ins ?_ LI.c ()
      cases q:YF r.Xc l.v.Zx with
      | none=>exact TC.nil 5
      | some K=>exact B.f _ (SP q)
     refine⟨_,r.b,p.maj t,fun j y=>?_⟩;let⟨u,a⟩:=p.back y;let⟨x,h⟩:=E j a;rw[bg]at h;have:=G.one _ _ _ _ (G.a _ _ _ _ h) (G.a _ _ _ _ m)
     grind
    .exact .same o a
theorem tJ(N:NR S g M i n)(a:n.Zo=aa)(l:Yt):NR S g M i (XL n l)/\(XL n l).up=n.up:=by
 grind [XL,NR.more,NR.Zi,NR.ZF,NR.b]
theorem Zjq(N:NR S g M i n){x:Cm}(c:S x):NR S g M i (add n x)/\(add n x).up=n.up/\(add n x).Zo=n.Zo:=by
 unfold add;split
 .grind
 .refine⟨⟨N.acc,N.m,⟨N.tape.idle,N.tape.busy,N.tape.down,N.tape.len⟩,fun p e=>?_,N.Zi,N.ZF,fun y a=>?_,fun r e=>?_⟩,rfl,rfl⟩
  .have:=N.Zo p e
   cases p<;>exact this
  .grind [NR.b]
  .have R:=N.Zc r e;exact⟨R.ZM,R.may,R.c,R.pn,R.pr,R.safe,R.free,R.Xc⟩
def i7(hi:i<5)(G:GI S g M)(N:NR S g M i n)(c:n.up=true)(a:n.Zo=aa){C:List Cm}(f:JZ C i n){l:Yt}(LI:Qt C l)(L:LR S g M l):HR S g M i (Zy n l):=by
 have h:=f.me;unfold Zy;split
 .exact oX hi G N c a h
 split
 .rename_i k;exact oY G N a c f LI L k
 split
 .rename_i k;exact ZhS hi G N c a h (L.ask k)
 split
 .grind [Zjq,LR.fwd,HR.same]
 split
 .unfold Q3;let⟨d,o⟩:=tJ N a l;split
  .rename_i x m;refine .one d zK ⟨fun e=>(by cases e),fun e=>(by cases e),fun e=>(by cases e),fun e=>(by cases e),fun _=>?_⟩;exact N.Zi _ _ m
  .exact .same d zK
 grind [tJ,HR.same,tI,LR.cho]
theorem NR.box(N:NR S g M i n)(k:List Yt):NR S g M i { n with Zd:=k }:=
 ⟨N.acc,N.m,⟨N.tape.idle,N.tape.busy,N.tape.down,N.tape.len⟩,fun p e=>(by have:=N.Zo p e;cases p<;>exact this),N.Zi,N.ZF,N.b,fun r e=>by
  have R:=N.Zc r e;exact⟨R.ZM,R.may,R.c,R.pn,R.pr,R.safe,R.free,R.Xc⟩⟩
end
end Go.Proofs.YtkhkmpfenaipaaaGreatDoor
