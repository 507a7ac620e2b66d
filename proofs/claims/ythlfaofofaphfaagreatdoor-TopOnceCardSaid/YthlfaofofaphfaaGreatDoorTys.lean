/- Part Tys. -/
import Derived.Test.YthlfaofofaphfaaGreatDoorTpt
open Go.Proofs.Tryz renaming prog→p
open List renaming length→r
open Nat renaming zero_le→l
open Option renaming some→a,none→d
namespace Go.Proofs.YthlfaofofaphfaaGreatDoor
open Go Go.V
set_option linter.unusedSimpArgs false
set_option linter.unusedVariables false
set_option maxRecDepth 100000
theorem Ze6(k c s n v:Int):(tZ k c s n v).err=0/\1<=(tZ k c s n v).k:=by
 have r1:=Y2 k (m:=5) pA;have r2:=Y2 c (m:=4) pA;have r3:=Y2 s (m:=6) pA;have r4:=Y2 n (m:=4) pA;have r5:=Y2 v (m:=1000) pA;have r6:0<=(SA k 5).tdiv 2/\(SA k 5).tdiv 2<=2:=by rw[Int.tdiv_eq_ediv_of_nonneg r1.1];omega
 unfold JZ.err tZ YC;simp only;generalize (SA k 5).tdiv 2=J at *;refine⟨?_,pA⟩;rw[if_neg pA,if_neg pA];by_cases q:1+J=1
 .rw[if_pos q,if_neg pA,if_neg pA]
 .rw[if_neg q,if_neg pA,if_neg pA]
def Zi2(x:Int):List Value:=[.int .i64 x]
def PD(ts:List Int):List Nat:=ts.map fun x=>(SA x 5).toNat
theorem CV(ts:List Int):∀n∈PD ts,n<5:=fun n hn=>by
 obtain⟨x,_,rfl⟩:=List.mem_map.1 hn;have:=Y2 x (m:=5) pA;omega
set_option maxHeartbeats 4000000 in
theorem Zb3(T:World)(h:Hp)(k c s n v:Int)(u:Value)(ts:List Int)(ld:Int)(wk:i64 k)(wc:i64 c)(ws:i64 s)(wn:i64 n)(wv:i64 v)(hu:Ts Zi2 1 h u ts)(hts:∀x∈ts,i64 x)(hl:i64 ld)(tb:dp Nx h):
  Zd p T 3 #[.agg (Kh k c s n v).toArray,u,.int .i64 ld] h fun v' h'=>v'=.bool true/\Zj h.size h h':=by
 have tk:Tk h:=tb.tk;have pa:=Y2 ld (m:=5) pA;obtain⟨pu,cu,rfl,hus⟩:=hu.open (n:=1) (fun _=>rfl) aaa;refine Zd.XS [_,_,_] Tryz.func3 ?_;obtain⟨h0,Qe⟩:=ZL (h.push (.cells (Kh k c s n v).toArray 23):Hp);have e0:=Qe.symm;have b0:Zj h.size h h0:=by rw[Qe];exact (Zj.refl _ _).add _
 have y0:h0[h.size]? = a (.cells (Kh k c s n v).toArray 23):=by rw[Qe];exact Zc
 have r0:rd h0 ⟨h.size,0,d⟩ 5=a (Kh k c s n v):=Zy y0 rfl;obtain⟨Wc,hWc⟩:=ZL (Kh k c s n v);have ck:=Hm T h0 k c s n v wk wc ws wn wv;rw[<-hWc]at e0 r0 ck ⊢;simp -implicitDefEqProofs only[go_sem,e0,r0];refine ck.use ?_;rintro _ h1 ⟨rfl,b1⟩;obtain⟨X,hX⟩:=ZL (tZ k c s n v);have hXm:=Ze6 k c s n v;rw[<-hX]at hXm ⊢;obtain⟨hXe,hX1⟩:=hXm;obtain⟨h2,Vq⟩:=ZL (h1.push (.cells X.C.toArray 25):Hp);have e2:=Vq.symm;have b2:Zj h1.size h1 h2:=by rw[Vq];exact (Zj.refl _ _).add _
 have y2:h2[h1.size]? = a (.cells X.C.toArray 25):=by rw[Vq];exact Zc
 have B1:Zj h.size h h1:=b0.trans (b1.mono b0.size);have B2:Zj h.size h h2:=B1.trans (b2.mono B1.size);have hXl:X.C.length=5:=rfl;have hXo:X.C.all YE=true:=rfl;have hXp:Xd [Value.int .i64 0,.int .i64 0,.int .i64 0,.int .i64 0,.int .i64 0] 0 X.C=X.C:=rfl;simp -implicitDefEqProofs only[go_sem,e2,hXl,hXo,hXp];have hXv:=W0 (i:=0) hXe hX1 pA (now:=0) pA pA;refine VS.Yk (fun F g=>F 1=.slice pu ts.length cu/\F 2=.int .i64 ld/\F 7=.pointer (a ⟨h1.size,0,d⟩)/\∃(i:Nat) (o:Ow),i<=ts.length/\i<=4/\F 10=.int .i64 i/\F 9=.int .i64 i/\Jm h2 o g (F 8) (Xa X (PD ts) i))
  (fun F _=>ts.length-(vi (F 10)).toNat) rfl ⟨rfl,rfl,rfl,0,Nx,l _,pA,rfl,rfl,Jm.nil h2⟩ ?_
 rintro F2 g2 ⟨f1,f2,f7,i,o2,hi,hi4,f10,f9,A2⟩;obtain⟨bA,_,_,_,_,_⟩:=A2.done;have y2g:=bA.get (Za y2) y2;have B2g:Zj h.size h g2:=B2.trans (bA.mono B2.size);obtain⟨p8,c8,f8,_⟩:=A2.ZP;by_cases ZT:i<ts.length/\i<4
 .obtain⟨ZT,i7⟩:=ZT;have Z7:(i:Int)<ts.length:=pA;have IU:(i:Int)<4:=pA;obtain⟨bs,os,rfl,mJ,Kc⟩:=hus (by intro e;rw[e]at ZT;simp at ZT);have rX:rd g2 ⟨h1.size,0,d⟩ 5=a X.C:=Zy y2g rfl;have rc:hc g2 ⟨h1.size,1,d⟩=a (.int .i64 X.c):=Zn y2g;have tk2:=tk.Qj B2g;obtain⟨vm,vo,hp3⟩:=W0 (i:=i) hXe hX1 pA (now:=0) pA pA;have pk:=Af T g2 i X.c 7 60 X.k X.c X.s X.n X.v tk2;obtain⟨D,hD⟩:=ZL (S6 i X.c 7 60 X);have AV:(if QD i X.c 7 60 X.k X.c X.s X.n X.v=0 then Ic i X.c 7 60 X.k X.c X.s X.n X.v else [])=D:=by rw[hD];rfl
  unfold Zae at pk;rw[AV,vm]at pk;simp -implicitDefEqProofs only[go_sem,f1,f7,f10,Z7,IU,rX,rc];refine pk.use ?_;rintro _ g3 ⟨⟨wvv,rfl,ow⟩,b3⟩;obtain⟨p3,c3,rfl,hc3⟩:=ow.bs.open;have A3:=A2.Zo b3;rw[f8]at A3;have hDl:D.length<=2000:=by rw[hD];exact fH _ _ _ _
  obtain⟨z,hz⟩:=ZL (ts[i]);have hzi:i64 z:=hts z (by rw[hz];exact List.getElem_mem ZT);have pz:=Y2 z (m:=5) pA;have rz:hc g3 ⟨bs,os+i,d⟩=a (.int .i64 z):=by
   have:=(Kc i ZT).Yz (B2g.trans (b3.mono B2g.size)) mJ;have:=this.hc (i:=0) rfl;rw[hz]
   simpa using this
  simp -implicitDefEqProofs only[go_sem,f1,f8,f10,Z7,rz];refine (WU T g3 z 5 hzi pA pA).pure ?_;simp -implicitDefEqProofs only[go_sem];obtain⟨m,hm⟩:∃m:Nat,SA z 5=m:=⟨(SA z 5).toNat,pA⟩
  have im:Pv o2 g3 (.slice p3 D.length c3) D:=Il ow (fun b hb=>A2.1.Yn b hb);have hns:(PD ts).getD i 0=m:=by
   unfold PD;rw[List.getD_eq_getElem?_getD,List.getElem?_map,List.getElem?_eq_getElem ZT,<-hz];show (SA z 5).toNat=m;omega
  rw[hm];refine A3.PT (by rw[RS];omega) ⟨1,m,0,0,D⟩ p3 c3 im ?_;intro v4 o4 g4 A4 _;simp -implicitDefEqProofs only[go_sem,f9,f10];unfold XN;refine⟨⟨f1,f2,f7,i+1,o4,ZT,pA,rfl,rfl,?_⟩,?_⟩
  .have e:Xa X (PD ts) (i+1)=Xa X (PD ts) i++[⟨1,m,0,0,D⟩]:=by
    rw[Xa,hns,hD];rfl
   rw[e];exact A4
  .simp only[vi,Zr,↓reduceIte,f10];omega
 have ZCt:¬((i:Int)<ts.length/\(i:Int)<4):=fun q=>ZT ⟨pA,pA⟩;obtain⟨A,hA⟩:=ZL (Xa X (PD ts) i);obtain⟨_,_,ys,hry,t2,i2⟩:=A2.done;have nl:(PD ts).length=ts.length:=by unfold PD;simp
 have Ae:=CS (x:=X) (CV ts) (k:=i) pA;have yl:ys.length=i:=by
  have:=congrArg r hry;rw[RS]at this;rw[<-this];unfold Xh;simp
 obtain⟨L,hL⟩:∃L:Nat,SA ld 5=L:=⟨(SA ld 5).toNat,pA⟩
 have L5:L<5:=pA;obtain⟨lg1,lg2,lg3⟩:=Zb2 (x:=X) hXe hX1 (CV ts) (k:=i) pA hi4 L5;rw[RS]at f8;rw[f8]at t2;have ck:∀g:Hp,Zd p T 7 #[.int .i64 ld,.int .i64 5] g fun v' h'=>v'=.int .i64 (SA ld 5)/\h'=g:=fun g=>WU T g ld 5 hl pA pA;have dI:¬(i:Int)<ts.length\/((i:Int)<ts.length/\¬(i:Int)<4):=pA;rcases dI with yU|⟨yU,zf⟩
 all_goals first
  | (simp -implicitDefEqProofs only[go_sem,f1,f2,f8,f10,yU,zf])
  | (simp -implicitDefEqProofs only[go_sem,f1,f2,f8,f10,yU])
 all_goals
  refine (ck g2).pure ?_;rw[hL];simp -implicitDefEqProofs only[go_sem];refine (Hv T g2 _ ys L L5 t2 i2 pA).use ?_;rintro v4 g4 ⟨b4,_,zs,hrz,t4,i4⟩;rw[hry,<-hA]at hrz;rw[<-hA]at lg1 lg2 lg3 Ae;have Al:A.length<=4:=by rw[hA,RS];exact hi4
  have Ze:=SE Ae L5;have Zl:(Yr A L).length<=30000:=by have:=SF (n:=L) (b:=4) Al;omega
  have zl:zs.length<=30000:=by
   have:=congrArg r hrz;unfold Xh at this;rw[List.length_map]at this;omega
  have B4:Zj h.size h g4:=B2g.trans (b4.mono B2g.size);have tb4:=tb.Zf (ZX (MM h) B4);refine (Zbb T g4 v4 zs t4 i4 tb4 pA (by rw[hrz];exact Hq Ze pA)).use ?_;rw[hrz];rintro _ g5 ⟨⟨lv,tv,vs,rfl,rf⟩,b5⟩;have B5:Zj h.size h g5:=B4.trans (b5.mono B4.size);have hup:((Xo (Yr A L)).Zb 0).up=true:=CE _ _ 0 pA;have hlen:(gn (Xo (Yr A L))).length<=40:=by
   rcases Ko (Xo (Yr A L)) with q|⟨j,hj,q⟩
   .rw[q];exact l _
   .rw[q];exact oN Ze pA j hj
  obtain⟨W,hW⟩:=ZL (Xo (Yr A L));rw[<-hW]at rf hup hlen lg1 lg2 lg3 ⊢;obtain⟨ro,⟨pl,ol,cl,rfl⟩,pt,ct,rfl⟩:=rf.at.ok;obtain⟨R,hR⟩:=ZL (gm W (.slice (a ⟨pl,ol,d⟩) 5 cl) (.slice pt W.ZE.length ct));rw[<-hR]at ro ⊢;have t9:=ro.len;have nR:=ro.one;have hRp:=ro.put;have ua:=ro.le;have et:=ro.take;obtain⟨g6,NN⟩:=ZL (g5.push (.cells R.toArray 42):Hp);have e6:=NN.symm;have b6:Zj g5.size g5 g6:=by rw[NN];exact (Zj.refl _ _).add _
  have y6:g6[g5.size]? = a (.cells R.toArray 42):=by rw[NN];exact Zc
  have r6:rd g6 ⟨g5.size,0,d⟩ 13=a R:=Zy y6 t9;have B6:Zj h.size h g6:=B5.trans (b6.mono B5.size);have cl6:=Ep T g6 W _ _ vs (rf.Yz b6).at;rw[<-hR]at cl6;simp -implicitDefEqProofs only[go_sem,t9,nR,hRp,ua,e6,r6,et];refine cl6.use ?_;rintro v7 g7 ⟨t7,b7⟩;have B7:Zj h.size h g7:=B6.trans (b7.mono B6.size);obtain⟨Lg,hLg⟩:=ZL (gn W);rw[<-hLg]at t7 hlen lg1 lg2 lg3;have ue:∀y∈Lg,y.err=0:=fun y hy=>by rcases lg1 y hy with rfl|rfl;exact hXe;rfl
  obtain⟨C1,C2,C3⟩:=EC ue;obtain⟨p7,c7,rfl,_⟩:=Qp t7;have ch:=FG T g7 _ Lg t7 (tk.Qj B7);rw[if_neg pA,if_neg pA,C1]at ch;simp -implicitDefEqProofs only[go_sem];refine ch.use ?_;rintro _ g8 ⟨⟨wv1,E,D,rfl,hED,oe⟩,b8⟩;simp only[Prod.mk.injEq]at hED;obtain⟨rfl,rfl⟩:=hED;have cZ:(JJ Lg).length=40:=Ys C2;have Te:=Tv C2;have BN:(JJ Lg).take 40=JJ Lg:=Xt cZ;have hDS:=EE hXe hX1 lg1;obtain⟨D,hD⟩:=ZL (JJ Lg);rw[<-hD]at C2 cZ Te BN hDS ⊢;obtain⟨p8',c8',hwv⟩:=oe.open;subst hwv;obtain⟨g9,hg9⟩:=ZL (g8.push (.cells D.toArray 55):Hp);have e9:=hg9.symm;have b9:Zj g8.size g8 g9:=by rw[hg9];exact (Zj.refl _ _).add _
  have y9:g9[g8.size]? = a (.cells D.toArray 55):=by rw[hg9];exact Zc
  have b29:Zj g2.size g2 g9:=b4.trans ((b5.trans ((b6.trans ((b7.trans ((b8.trans (b9.mono b8.size)).mono b7.size)).mono b6.size)).mono b5.size)).mono b4.size);have B9:Zj h.size h g9:=B2g.trans (b29.mono B2g.size);have x9:=b29.get (Za y2g) y2g;have rX9:rd g9 ⟨h1.size,0,d⟩ 5=a X.C:=Zy x9 rfl;have hs:=xY C2;have C4:Xe [a .i64,a .i64,a .i64,a .i64,a .i64,a .i64,a .i64,a .i64,a .i64,a .i64,a .i64,a .i64,a .i64,a .i64,a .i64,a .i64,a .i64,a .i64,a .i64,a .i64,a .i64,a .i64,a .i64,a .i64,a .i64,a .i64,a .i64,a .i64,a .i64,a .i64,a .i64,a .i64,d,d,d,d,d,d,d,d] D=true:=C2
  -- the chain of ZnQ is wanted
  have rest:∀(ga:Hp) (wa:Value) (want:List Cm),Zj g9.size g9 ga->Ts jM 5 ga wa want->want.length<=1->VF want=0->JJ want=D->Zd p T 11 #[wa] ga fun v' h'=>(∃w,v'=.tuple [w,.agg D.toArray,.int .i64 0].toArray)/\Zj ga.size ga h':=fun ga wa want ba ta hw he hc=>by
   have q:=FG T ga wa want ta (tk.Qj (B9.trans (ba.mono B9.size)));rw[if_neg pA,if_neg pA,he,hc]at q;refine q.mono fun v' h' ⟨⟨w,E,D',e1,e2,_⟩,b⟩=>⟨⟨w,?_⟩,b⟩
   simp only[Prod.mk.injEq]at e2;rw[e1,e2.1,e2.2]
  have fin:∀ga:Hp,Zj g9.size g9 ga->(hc ga ⟨g5.size,1,d⟩=a (.bool true)/\rd ga ⟨g8.size,0,d⟩ 40=a D/\rd ga ⟨h1.size,0,d⟩ 5=a X.C/\Ts JZ.C 5 ga (.slice p7 Lg.length c7) Lg):=fun ga ba=>by
   have y6a:=(b7.trans ((b8.trans ((b9.trans (ba.mono b9.size)).mono b8.size)).mono b7.size)).get (Za y6) y6;refine⟨?_,Zy (ba.get (Za y9) y9) cZ,Zy (ba.get (Za x9) x9) rfl,t7.Yz (b8.trans ((b9.trans (ba.mono b9.size)).mono b8.size))⟩;rw[Zn y6a,hR];show a (Value.bool (W.Zb 0).up)=_;rw[hup]
  by_cases ci:i=0
  .have ci':¬(i:Int)>0:=pA;have hnx:=lg3 ci;rw[if_neg hnx]at hDS;simp -implicitDefEqProofs only[go_sem,cZ,Te,ZW,BN,e9,f9,ci'];obtain⟨ga,hga⟩:=ZL (g9);obtain⟨wa,hwa⟩:=ZL (Value.slice d 0 0);obtain⟨want,OY⟩:∃want:List Cm,want=[]:=⟨_,rfl⟩
   have ba:Zj g9.size g9 ga:=by rw[hga];exact Zj.refl _ _
   have ta:Ts jM 5 ga wa want:=by rw[hwa,OY];exact⟨(UO.nil 0 0 5 ga).sl⟩
   have BH:want.length<=1:=by rw[OY];exact l _
   have hw2:VF want=0:=by rw[OY];rfl
   have hw3:JJ want=D:=by rw[OY,hDS];rfl
   rw[<-hga,<-hwa];clear hga hwa OY;refine (rest ga wa want ba ta BH hw2 hw3).use ?_;rintro _ gb ⟨⟨w2,rfl⟩,bb⟩;obtain⟨gc,hgc⟩:=ZL (gb.push (.cells D.toArray 55):Hp);have ec:=hgc.symm;have bc:Zj gb.size gb gc:=by rw[hgc];exact (Zj.refl _ _).add _
   have yc:gc[gb.size]? = a (.cells D.toArray 55):=by rw[hgc];exact Zc
   have rc2:rd gc ⟨gb.size,0,d⟩ 40=a D:=Zy yc cZ;have bac:Zj g9.size g9 gc:=ba.trans ((bb.trans (bc.mono bb.size)).mono ba.size);obtain⟨u1,u2,u3,u4⟩:=fin gc bac;have IK:=AH T gc _ Lg X u4 pA;rw[decide_eq_false hnx]at IK;simp -implicitDefEqProofs only[go_sem,cZ,Te,ZW,BN,ec,f7,f9,ci',u1,u2,u3,rc2,hs,C4];refine IK.use ?_;rintro _ gd ⟨rfl,bd⟩;simp -implicitDefEqProofs only[go_sem,f9,ci'];exact B9.trans ((bac.trans (bd.mono bac.size)).mono B9.size)
  .have ci':(i:Int)>0:=pA;have fY:=lg2 pA;rw[if_pos fY]at hDS;simp -implicitDefEqProofs only[go_sem,cZ,Te,ZW,BN,e9,f9,f7,ci',rX9];have Q0:U8 Nx (.ZA 100) (g9.push (.cells X.C.toArray 25)) (.slice d 0 0) []:=XB.nil _ _ _ _ _;refine Nr (x:=X) Q0 (MM _) Zc IQ ?_;rintro pq cq oq ga Qa ka;rw[List.nil_append]at Qa;obtain⟨wa,hwa⟩:=ZL (Value.slice pq (([]:List Cm).length+1) cq);obtain⟨want,OY⟩:∃want:List Cm,want=[X]:=⟨_,rfl⟩
   have Zgl:Zj g9.size g9 (g9.push (.cells X.C.toArray 25)):=(Zj.refl _ _).add _;have ba:Zj g9.size g9 ga:=Zgl.trans ((At ka).mono Zgl.size);have ta:Ts jM 5 ga wa want:=by rw[hwa,OY];exact⟨Qa.sl⟩
   have BH:want.length<=1:=by rw[OY];exact Nat.le_refl _
   have hw0:∀y∈want,y=X\/y=Oa:=fun y hy=>by rw[OY]at hy;exact .inl (List.mem_singleton.1 hy)
   have hw2:VF want=0:=SC fun y hy=>by rcases hw0 y hy with rfl|rfl;exact hXe;rfl
   have hw3:JJ want=D:=by rw[EE hXe hX1 hw0,if_pos (by rw[OY];simp),hDS]
   rw[<-hwa];clear hwa OY;simp -implicitDefEqProofs only[go_sem];refine (rest ga wa want ba ta BH hw2 hw3).use ?_;rintro _ gb ⟨⟨w2,rfl⟩,bb⟩;obtain⟨gc,hgc⟩:=ZL (gb.push (.cells D.toArray 55):Hp);have ec:=hgc.symm;have bc:Zj gb.size gb gc:=by rw[hgc];exact (Zj.refl _ _).add _
   have yc:gc[gb.size]? = a (.cells D.toArray 55):=by rw[hgc];exact Zc
   have rc2:rd gc ⟨gb.size,0,d⟩ 40=a D:=Zy yc cZ;have bac:Zj g9.size g9 gc:=ba.trans ((bb.trans (bc.mono bb.size)).mono ba.size);obtain⟨u1,u2,u3,u4⟩:=fin gc bac;have IK:=AH T gc _ Lg X u4 pA;rw[decide_eq_true fY]at IK;simp -implicitDefEqProofs only[go_sem,cZ,Te,ZW,BN,ec,f7,f9,ci',u1,u2,u3,rc2,hs,C4];refine IK.use ?_;rintro _ gd ⟨rfl,bd⟩;simp -implicitDefEqProofs only[go_sem,f9,ci'];exact B9.trans ((bac.trans (bd.mono bac.size)).mono B9.size)
end Go.Proofs.YthlfaofofaphfaaGreatDoor
