/- Part Mif. -/
import Derived.Test.YtkhkmpfenaipaaaGreatDoorMoz
open Go.Value renaming slice→Q,int→U,pointer→ak,bool→aC
open Go.IntKind renaming i64→O
open Go.Obj renaming cells→an
open Go.Proofs.Tryz renaming prog→a0
open List renaming length→aa,toArray→aI,length_append→aL,append_nil→aS,eraseIdx_eq_take_drop_succ→aX,append_assoc→a5,mem_flatMap→a6,length_map→a8,mem_range→a9,filter_sublist→ba,pairwise_cons→bc,nil_append→bd,mem_append→bf,mem_filter→bg,map→bh
open Nat renaming le_refl→aq,add_sub_cancel_left→aV
open Option renaming map_eq_some_iff→aW,some→ae,none→al
open Array renaming setIfInBounds→ao,size_push→aF
open Go renaming Value→aH,World→a7
namespace Go.Proofs.YtkhkmpfenaipaaaGreatDoor
set_option maxHeartbeats 4000000
open Go Go.V
set_option linter.all false
set_option maxRecDepth 100000
variable{C:List Cm}{h:Hp}{i wb:Nat}{n:Nd}{o:Ow}
theorem VU.fn{nb:Nat}{a:Option RA}{v:aH}{p:Option OT}(s:VU o h wb i nb a v p):(p=al/\v=.nilFunc)\/(p.isSome=true/\∃f l,v=.func (.func f) #[] l):=by
 match p,s with
 | none,s=>exact .inl ⟨rfl,s⟩
 | some (.QB _ _ _ _),⟨_,_,_,_,e,_⟩=>exact .inr ⟨rfl,_,_,e⟩
 | some (.Us _ _ _),⟨_,_,_,_,e,_⟩=>exact .inr ⟨rfl,_,_,e⟩
 | some (.Zn _ _ _),⟨_,_,_,_,_,_,e,_⟩=>exact .inr ⟨rfl,_,_,e⟩
theorem xR(n:Nd)(r:XR):(Jc n r).n.YO=n.YO/\(Jc n r).n.ZF=n.ZF/\(Jc n r).n.me=n.me/\(Jc n r).n.Yy=n.Yy/\(Jc n r).n.Zn=n.Zn/\(Jc n r).ts=[]:=by
 grind [Jc]
theorem nX(n:Nd)(r:XR):(Te n r).length<=5:=by
 have:=Sk (fun (m:Nat)=>if YF r.c (m:Int)=al then [(⟨0,n.me,m,r.b,Ps,[]⟩:Yt)] else []) 1 5 (fun m=>by split<;>simp);exact this
theorem xS(n:Nd)(r:XR):(US n r).length<=200:=by
 have b:∀s x m,(SC n r s x m).length<=1:=fun s x m=>by unfold SC;grind
 have a:∀s,(Wc n r s).length<=5:=fun s=>by
  unfold Wc;split
  .split
   .exact Sk _ 1 5 (b s _)
   .simp
  .simp
 exact Sk _ 5 40 a
theorem Zhl(n:Nd)(r:XR):(Jc n r).ls.length<=200:=by
 grind [Jc,xS,nX]
theorem nY(n:Nd):(Zt n).YO=n.YO/\(Zt n).ZF=n.ZF/\(Zt n).me=n.me/\(Zt n).Yy=n.Yy/\(Zt n).Zn=n.Zn/\(Zt n).ZD=n.ZD/\(Zt n).Zo=n.Zo/\(Zt n).data=n.data/\(Zt n).XI=n.XI:=by
 grind [Zt]
theorem iK(n:Nd):(Zt n).Zc=al\/(Zt n).Zc=n.Zc:=by
 grind [Zt]
theorem Lz(n:Nd):(Yj n).n.YO=n.YO/\(Yj n).n.ZF=n.ZF/\(Yj n).n.me=n.me/\(Yj n).n.Yy=n.Yy/\(Yj n).n.Zn=n.Zn/\(Yj n).ts=[]:=by
 grind [Yj,xR]
theorem iL(n:Nd):(Yj n).ls.length<=200+n.ZD.length:=by
 grind [Yj,WT,Zhl]
theorem Zhm(T:a7)(h:Hp)(o:Ow)(wb i nb:Nat)(Y6:Nat->Nat)(a:NA)(n:Nd)(XY:WA)(fl:List Yt)(YP:Nat->Int)(ZH:List PC)(d:V3 o h)(N:Yg o h wb i nb a n)(W:Z0 o h wb Y6 XY fl YP ZH)(tb:j1 o h)(ax:n.Zo=al)(Xq:(aa fl)<=800000000000)(bW:n.Zn.l.length<=1000000)(c9:(aa n.data)<=1000000)(hr:∀r,n.Zc=ae r->(∀x∈r.c,x.2.length<=1000000)/\(∀x∈r.c,∀v∈x.2,v.Zx<=1000000)/\r.c.length<=1000000000000)(hl:n.ZF.length<=100000000000)(hq:n.ZD.length<=10000000000)(ht:0<=n.YO/\n.YO<5):
  Zg a0 T 76 #[ZC wb,ZC nb] h fun v' h'=>∃M a' JY,Kp (J8 i) o h M h'/\Yg M h' wb i nb a' (YH n).n/\Z0 M h' wb Y6 JY (fl++(YH n).ls) YP ZH:=by
 refine Zg.Fr (args:=#[_,_]) Tryz.func76 rfl rfl rfl ?_;let⟨bE,bn,a4,ck,xV,bY,bo,bA,cd⟩:=nY n;refine VS.seq (VS.mono (N:=fun p g'=>p 0=ak (ae ⟨wb,0,al⟩)/\p 1=ak (ae ⟨nb,0,al⟩)/\∃a1,Kp (J8 i) o h o g'/\Yg o g' wb i nb a1 (Zt n)/\Z0 o g' wb Y6 XY fl YP ZH) ?_ ?_ (fun _ _ _ h=>h) (fun _ _ h=>h))
 .refine QX _ _ _ _ _ _ rfl ?_;unfold ZC;have P:=ZU N.Yb.2 N.pt.store.len;have G:=Zb N.Yb.2;have Pr:=P.Zc;have Po:=P.iu
  cases Y:a.Zc with
  | none=>
   rw[Y]at Pr;have E:n.Zc=al:=by
    have:=N.pt.Zc;rw[Y]at this
    cases Z:n.Zc with
    | none=>rfl
    | some r=>rw[Z]at this;exact this.elim
   have es:Zt n=n:=by unfold Zt;rw[E]
   rw[es];unfold Lw at Pr;simp only[go_sem,Pr];refine VS.mono (N:=fun p g'=>Zm h.size h g'/\p 0=ak (ae ⟨wb,0,al⟩)/\p 1=ak (ae ⟨nb,0,al⟩)/\p 26=aC false) ?_ ?_ (fun _ _ _ h=>h) (fun _ _ h=>h)
   .refine VS.z (h.size) [12] (.p 0 (.p 1 (.p 2 (.p 3 (.p 4 (.p 5 (.p 6 (.q 7 (.p 8 (.p 9 (.p 10 (.q 11 (.w 12 (.p 13 .nil)))))))))))))) mixed (by kernel_rfl) ?_;simp only[go_sem,Pr,Po,G]
    try exact Zm.refl _ _
   rintro F1 g1 ⟨b1,k,f1,f26⟩;have u:=Z9 d b1;simp only[go_sem,f26];exact⟨k,f1,a,Ya u,N.Zt u,W.Zt u⟩
  | some ra=>
   obtain⟨r,E⟩:∃r,n.Zc=ae r:=by
    have:=N.pt.Zc;rw[Y]at this
    cases Z:n.Zc with
    | none=>rw[Z]at this;exact this.elim
    | some r=>exact⟨r,rfl⟩
   rw[Y]at Pr;unfold Lw ZC at Pr;have R:X1 o i h ra r:=by have:=N.pt.Zc;rw[Y,E]at this;exact this
   let⟨q0,_,_,_,_⟩:=R.rr;have j2:=Zb R.Yb.2;simp only[go_sem,Pr];refine VS.mono (N:=fun p g'=>Zm h.size h g'/\p 0=ak (ae ⟨wb,0,al⟩)/\p 1=ak (ae ⟨nb,0,al⟩)/\p 26=aC (decide (Zj r.b n.Zn.p))) ?_ ?_ (fun _ _ _ h=>h) (fun _ _ h=>h)
   .refine VS.z (h.size) [12] (.p 0 (.p 1 (.p 2 (.p 3 (.p 4 (.p 5 (.p 6 (.q 7 (.p 8 (.p 9 (.p 10 (.q 11 (.w 12 (.p 13 .nil)))))))))))))) mixed (by kernel_rfl) ?_;simp only[go_sem,Pr,Po,q0,G,j2];refine (Ij T h n.Zn.p r.b).use ?_;rintro _ g ⟨rfl,b⟩;simp only[go_sem,b]
   rintro F1 g1 ⟨b1,k,f1,f26⟩;have u:=Z9 d b1;have L:=N.Zt u;have W1:=W.Zt u;by_cases c:Zj r.b n.Zn.p
   .have es:Zt n = { n with Zc:=al }:=by unfold Zt;rw[E];simp only;rw[if_pos c]
    rw[es];have c4:a.Zo=.nilFunc:=by
     have:=N.pt.Zo;rw[ax]at this;exact this
    have pn:VU o g1 wb i nb al a.Zo n.Zo:=by rw[ax];exact c4
    let⟨I,w2,N2,k2⟩:=Yx.write (a:={ a with Zc:=al }) (n:={ n with Zc:=al }) { L.pt with Zc:=trivial,Zo:=pn } u.YG L.Yb ((X4 L.Yb.2 L.pt.store.len).Zc al);have UE:=Zb L.Yb.2;unfold Lw at w2;simp only[go_sem,k,f1,f26,c,w2,UE];exact⟨_,(Ya u).trans (k2.mono fun t q=>.inr (.inr (.inr (by rw[q];rfl)))),N2,W1.Zh k2 (by rintro t rfl;simp[Tg.of])⟩
   .have es:Zt n=n:=by unfold Zt;rw[E];simp only;rw[if_neg c]
    rw[es];simp only[go_sem,f26,c];exact⟨k,f1,a,Ya u,L,W1⟩
 rintro F1 g1 ⟨k,f1,a1,K1,L,W1⟩;let⟨s,hs⟩:=ZO (Zt n);rw[<-hs]at L bE bn a4 ck xV bY bo bA cd;have bR:s.Zc=al\/s.Zc=n.Zc:=by rw[hs];exact iK n
 let⟨bw,bt,ca,cg,cc,cR⟩:=Lz s;have br:=iL s;unfold YH;rw[<-hs];clear hs;refine VS.seq (VS.mono (N:=fun p g'=>p 0=ak (ae ⟨wb,0,al⟩)/\p 1=ak (ae ⟨nb,0,al⟩)/\∃u a1,p 5=ak (ae ⟨u,0,al⟩)/\Yo o g' u (an [U O n.Zn.p.r,U O n.Zn.p.n].toArray 97)/\Kp (J8 i) o h o g'/\Yg o g' wb i nb a1 s/\Z0 o g' wb Y6 XY fl YP ZH) ?_ ?_ (fun _ _ _ h=>h) (fun _ _ h=>h))
 .refine QX _ _ _ _ _ _ rfl ?_;have P1:=ZU L.Yb.2 L.pt.store.len;have bN:=P1.iu;rw[xV]at bN;have G:=Zb L.Yb.2;let⟨I,VJ⟩:=ZO (g1.push (an [U O n.Zn.p.r,U O n.Zn.p.n].toArray 97):Hp);have k2:Kp WL o g1 o I:=by rw[VJ];exact YK K1.YG _
  have x5:Yo o I g1.size (an [U O n.Zn.p.r,U O n.Zn.p.n].toArray 97):=⟨K1.YG _ (aq _),by rw[VJ];exact Zf⟩
  have e2:=VJ.symm;simp only[go_sem,k,f1,bN,G,e2];exact⟨_,a1,rfl,x5,K1.trans (Ya k2),L.Zt k2,W1.Zt k2⟩
 clear k f1 K1 L W1;rintro F2 I ⟨k,f1,u,a2,X,x5,K2,N2,W2⟩;have md:=tb.Zh K2;refine VS.seq (VS.mono (N:=fun p g'=>p 0=ak (ae ⟨wb,0,al⟩)/\p 1=ak (ae ⟨nb,0,al⟩)/\(Yj s).n.Zo=al/\∃M a1 JY,Kp (J8 i) o h M g'/\Yg M g' wb i nb a1 (Yj s).n/\Z0 M g' wb Y6 JY (fl++(Yj s).ls) YP ZH) ?_ ?_ (fun _ _ _ h=>h) (fun _ _ h=>h))
 .refine QX _ _ _ _ _ _ rfl ?_;have P2:=ZU N2.Yb.2 N2.pt.store.len;have D:=P2.Zc;have xW:=P2.me;have G:=Zb N2.Yb.2;have l5:=Zb x5.2
  cases Y:a2.Zc with
  | some ra=>
   obtain⟨r,E⟩:∃r,s.Zc=ae r:=by
    have:=N2.pt.Zc;rw[Y]at this
    cases Z:s.Zc with
    | none=>rw[Z]at this;exact this.elim
    | some r=>exact⟨r,rfl⟩
   have c5:n.Zc=ae r:=by
    rcases bR with e|e
    .rw[e]at E;cases E
    .rw[<-e,E]
   have e1:Yj s=Jc s r:=by unfold Yj;rw[E]
   have ea:a2 = { a2 with Zc:=ae ra }:=by rw[<-Y]
   have es:s = { s with Zc:=ae r }:=by rw[<-E]
   let⟨LX,c3,c0⟩:=hr r c5;rw[Y]at D;unfold Lw ZC at D;have cr:=Zhi T I o wb i nb Y6 a2 s ra r XY fl YP ZH K2.YG (by rw[<-ea,<-es];exact N2) W2 md (by omega) (by rw[xV];exact bW) (by rw[bA];exact c9) LX c3 c0 (by rw[bn];omega) (by rw[bY];omega);rw[<-es,<-e1]at cr;unfold ZC at cr;simp only[go_sem,k,f1,D];refine cr.use ?_;rintro v' g3 ⟨w,a3,J,k3,y,W3⟩;have P3:=(ZU y.Yb.2 y.pt.store.len).Zo;rcases y.pt.Zo.fn with⟨B,V⟩|⟨B,f,l,V⟩
   .rw[V]at P3;simp only[go_sem,k,f1,P3];exact⟨B,w,a3,J,K2.trans k3,y,W3⟩
   .rw[V]at P3;simp only[go_sem,k,f1,P3];rw[if_pos B];exact⟨w,a3,J,K2.trans k3,y,W3⟩
  | none=>
   have E:s.Zc=al:=by
    have:=N2.pt.Zc;rw[Y]at this
    cases Z:s.Zc with
    | none=>rfl
    | some r=>rw[Z]at this;exact this.elim
   rw[Y]at D;unfold Lw at D;have b4:hc I ⟨u,0,al⟩=ae (U O n.Zn.p.r):=Zr x5.2;have b2:hc I ⟨u,1,al⟩=ae (U O n.Zn.p.n):=Zr x5.2;rw[a4]at xW;by_cases c:0<n.Zn.p.r/\n.Zn.p.n≠n.me
   case neg=>
    have e1:Yj s=⟨s,[],[]⟩:=by unfold Yj;rw[E];simp only;rw[xV,a4,if_neg c]
    rw[e1];have PK:s.Zo=al:=by rw[bo];exact ax
    simp only[go_sem,k,f1,D];refine VS.mono (N:=fun p g'=>Zm I.size I g'/\p 0=ak (ae ⟨wb,0,al⟩)/\p 1=ak (ae ⟨nb,0,al⟩)/\p 53=aC false) ?_ ?_ (fun _ _ _ h=>h) (fun _ _ h=>h)
    .refine VS.z (I.size) [] (.p 0 (.q 1 (.p 2 (.p 3 (.p 4 (.q 5 (.p 6 (.p 7 (.p 8 (.q 9 (.p 10 (.p 11 (.p 12 .nil))))))))))))) mixed (by kernel_rfl) ?_;by_cases B:0<n.Zn.p.r
     .have V:n.Zn.p.n=n.me:=by
       rcases Decidable.em (n.Zn.p.n=n.me) with e|e
       .exact e
       .exact (c ⟨B,e⟩).elim
      simp only[go_sem,k,f1,X,b4,b2,xW,l5,G,B,V]
      try exact Zm.refl _ _
     .simp only[go_sem,k,f1,X,b4,b2,xW,l5,G,B]
      try exact Zm.refl _ _
    rintro F3 g3 ⟨b3,k,f1,f53⟩;have Sx:=Z9 K2.YG b3;simp only[go_sem,f53];exact⟨k,f1,PK,o,a2,XY,K2.trans (Ya Sx),N2.Zt Sx,by rw[aS];exact W2.Zt Sx⟩
   have e1:Yj s=⟨s,WT s,[]⟩:=by unfold Yj;rw[E];simp only;rw[xV,a4,if_pos c]
   rw[e1];have PK:s.Zo=al:=by rw[bo];exact ax
   let⟨B,V⟩:=c;simp only[go_sem,k,f1,D];refine VS.mono (N:=fun p g'=>Zm I.size I g'/\p 0=ak (ae ⟨wb,0,al⟩)/\p 1=ak (ae ⟨nb,0,al⟩)/\p 5=ak (ae ⟨u,0,al⟩)/\p 53=aC true) ?_ ?_ (fun _ _ _ h=>h) (fun _ _ h=>h)
   .refine VS.z (I.size) [] (.p 0 (.q 1 (.p 2 (.p 3 (.p 4 (.q 5 (.p 6 (.p 7 (.p 8 (.q 9 (.p 10 (.p 11 (.p 12 .nil))))))))))))) mixed (by kernel_rfl) ?_;simp only[go_sem,k,f1,X,b4,b2,xW,l5,G,B,V]
    try exact Zm.refl _ _
   clear k f1 X;rintro F3 g3 ⟨b3,k,f1,X,f53⟩;have Sx:=Z9 K2.YG b3;have y:=N2.Zt Sx;have W3:=W2.Zt Sx;have K3:=K2.trans (Ya (S:=J8 i) Sx);have y5:=x5.Zh Sx;let⟨pq,cq,aw,_⟩:=Xk.ZR y.pt.ZD;have aw:a2.ZD=Q pq s.ZD.length cq:=aw;have bq:=(ZU y.Yb.2 y.pt.store.len).ZD;rw[aw]at bq;simp only[go_sem,k,f1,f53,bq];have cN:s.ZD.length<=10000000000:=by rw[bY];exact hq
   refine VS.YC (fun F g=>F 0=ak (ae ⟨wb,0,al⟩)/\F 1=ak (ae ⟨nb,0,al⟩)/\F 5=ak (ae ⟨u,0,al⟩)/\F 69=Q pq s.ZD.length cq/\F 70=U O s.ZD.length/\∃(j:Nat) (M:Ow) (JY:WA),j<=s.ZD.length/\F 71=U O j/\Kp (J8 i) o h M g/\Yg M g wb i nb a2 s/\Z0 M g wb Y6 JY (fl++(WT s).take j) YP ZH/\Yo M g u (an [U O n.Zn.p.r,U O n.Zn.p.n].toArray 97))
    (fun F _=>s.ZD.length-(vi (F 71)).toNat) rfl ⟨k,f1,X,rfl,rfl,0,o,XY,by omega,rfl,K3,y,by simpa using W3,y5⟩ ?_
   clear k f1 X f53 bq y W3 K3 y5 Sx b3 x5 K2 N2 W2;rintro F4 A ⟨k,f1,X,f69,f70,j,o4,sZ,hj,f71,K4,K,W4,y5⟩;have wU:(WT s).length=s.ZD.length:=by unfold WT;simp
   by_cases Ye:j<s.ZD.length
   .have Yh:(j:Int)<s.ZD.length:=by omega
    let⟨pz,cz,jY,vX⟩:=UD K.pt.ZD.ts;let⟨bb,oo,bS,Sb,Ik⟩:=vX (by intro e;have:s.ZD=[]:=e;rw[this]at Ye;simp at Ye);have jY:a2.ZD=Q pz s.ZD.length cz:=jY;rw[aw]at jY;simp only[Value.slice.injEq]at jY;obtain⟨rfl,_,rfl⟩:=jY;subst bS;have re:rd A ⟨bb,oo+j*5,al⟩ 5=ae (s.ZD[j]).C:=Ik j Ye;let⟨x,Z⟩:=ZO (s.ZD[j]);rw[<-Z]at re;have Jy:(WT s).take (j+1)=(WT s).take j++[⟨4,s.me,n.Zn.p.n,Y2,Qb 0 Y2 x,[]⟩]:=by
     rw[Xg _ j (by rw[wU];exact Ye)]
     congr 2
     unfold WT;rw[List.getElem_map,<-Z,xV]
    let⟨z,b9⟩:=ZO (A.push (an (aI x.C) 43):Hp);have k5:Kp WL o4 A o4 z:=by rw[b9];exact YK K4.YG _
    have x7:Yo o4 z A.size (an (aI x.C) 43):=⟨K4.YG _ (aq _),by rw[b9];exact Zf⟩
    have e5:=b9.symm;have N5:=K.Zt k5;have W5:=W4.Zt k5;have z5:=y5.Zh k5;have s5:hc z ⟨u,1,al⟩=ae (U O n.Zn.p.n):=Zr z5.2;have sx:rd z ⟨A.size,0,al⟩ 5=ae [U O x.k,U O x.c,U O x.s,U O x.n,U O x.v]:=ZB x7.2 rfl;have re:rd A ⟨bb,oo+j*5,al⟩ 5=ae [U O x.k,U O x.c,U O x.s,U O x.n,U O x.v]:=re;have e5:A.push (an [U O x.k,U O x.c,U O x.s,U O x.n,U O x.v].toArray 43)=z:=e5;have P5:=ZU N5.Yb.2 N5.pt.store.len;have Ly:=Zb N5.Yb.2;simp only[go_sem,k,f1,X,f69,f70,f71,Yh,re,e5,s5,sx];have rl:(fl++(WT s).take j).length<=1000000000000:=by
     rw[aL,List.length_take];omega
    refine (TB T z o4 wb nb Y6 s.me sZ _ YP ZH n.Zn.p.n ⟨4,0,0,Y2,Qb 0 Y2 x,[]⟩ (Q al 0 0) k5.YG W5 P5.me Ly (Im.nil _ _ _ _) rl).use ?_;rintro v' g6 ⟨o6,cu,k6,_,W6⟩;simp only[go_sem,f71];unfold Xz;refine⟨⟨k,f1,X,f69,f70,j+1,o6,cu,Ye,rfl,(K4.trans (Ya k5)).trans (k6.mono fun t q=>by rcases q with rfl|rfl<;>simp[J8]),N5.Zh k6 (by rintro t (rfl|rfl)<;>simp[Tg.of]),by rw[Jy,<-a5];exact W6,z5.Zh k6⟩,?_⟩;simp only[vi,Zu,↓reduceIte,f71];omega
   .have XX:¬(j:Int)<s.ZD.length:=by omega
    obtain rfl:j=s.ZD.length:=by omega
    rw[List.take_of_length_le (by rw[wU];exact aq _)]at W4;simp only[go_sem,f70,f71,XX];exact⟨k,f1,PK,o4,a2,sZ,K4,K,W4⟩
 clear k f1 X x5 K2 N2 W2 md;rintro F3 g3 ⟨k,f1,PK,w,a3,J,K3,y,W3⟩;rw[if_neg (by rw[PK];simp)];let⟨m,hm⟩:=ZO ((Yj s).n);let⟨ls,b8⟩:=ZO ((Yj s).ls);rw[<-hm]at bw bt ca cg cc y PK;rw[<-b8]at W3 br;rw[<-hm,<-b8];clear hm b8;have cO:0<=m.YO/\m.YO<5:=by rw[bw,bE];exact ht
 have c7:m.ZF.length<=100000000000:=by rw[bt,bn];exact hl
 have cP:(aa ls)<=10000000200:=by rw[bY]at br;omega
 refine VS.seq (VS.mono (N:=fun p g'=>p 0=ak (ae ⟨wb,0,al⟩)/\p 1=ak (ae ⟨nb,0,al⟩)/\Kp (J8 i) o h w g'/\Yg w g' wb i nb a3 (JT m)/\Z0 w g' wb Y6 J (fl++ls) YP ZH) ?_ ?_ (fun _ _ _ h=>h) (fun _ _ h=>h))
 .refine QX _ _ _ _ _ _ rfl ?_;have P3:=ZU y.Yb.2 y.pt.store.len;have cB:=P3.YO;have G:=Zb y.Yb.2;have et:(m.YO+1).tmod 5=(m.YO+1)%5:=Int.tmod_eq_emod_of_nonneg (by omega);let⟨A,w4,K,k4⟩:=Yx.write (a:=a3) (n:=JT m) { y.pt with } K3.YG y.Yb ((X4 y.Yb.2 y.pt.store.len).YO ((m.YO+1)%5));simp only[go_sem,k,f1,cB,et,w4,G];exact⟨K3.trans (k4.mono fun t q=>.inr (.inr (.inr (by rw[q];rfl)))),K,W3.Zh k4 (by rintro t rfl;simp[Tg.of])⟩
 clear k f1 K3 y W3;rintro F4 A ⟨k,f1,K4,K,W4⟩;let⟨q,b6⟩:=ZO (JT m);have ql:q.ZF=m.ZF:=by rw[b6];rfl
 rw[<-b6]at K ⊢;clear b6;have P4:=ZU K.Yb.2 K.pt.store.len;have bp:=P4.YO;have bl:=P4.me;have cS:=P4.iu;have b0:=P4.ZF;let⟨pl,cl,FZ,_⟩:=Xk.ZR K.pt.ZF;have FZ:a3.ZF=Q pl q.ZF.length cl:=FZ;rw[FZ]at b0;have G:=Zb K.Yb.2;rw[<-ql]at c7;refine QX _ _ _ _ _ _ rfl ?_;simp only[go_sem];by_cases c:q.YO≠q.me/\q.ZF.length<40
 case neg=>
  have e1:Wi q=[]:=by unfold Wi;rw[if_neg c]
  rw[e1,aS];refine VS.mono (N:=fun p g'=>Zm A.size A g'/\p 109=aC false) ?_ ?_ (fun _ _ _ h=>h) (fun _ _ h=>h)
  .refine VS.z (A.size) [] (.p 0 (.p 1 (.p 2 (.q 3 (.p 4 (.p 5 (.p 6 (.q 7 (.p 8 (.p 9 (.p 10 (.p 11 (.p 12 (.q 13 (.p 14 (.p 15 (.p 16 .nil))))))))))))))))) mixed (by kernel_rfl) ?_;by_cases B:q.YO=q.me
   .simp only[go_sem,k,f1,bp,bl,b0,G,B]
    try exact Zm.refl _ _
   .have V:¬(q.ZF.length:Int)<40:=by
     intro e;exact c ⟨B,by omega⟩
    simp only[go_sem,k,f1,bp,bl,b0,G,B,V]
    try exact Zm.refl _ _
  rintro F5 z ⟨b5,f109⟩;have Ap:=Z9 K4.YG b5;simp only[go_sem,f109];exact⟨w,a3,J,K4.trans (Ya Ap),K.Zt Ap,W4.Zt Ap⟩
 have e1:Wi q=[⟨5,q.me,q.YO,Wv q,Qb q.ZF.length Y2 Ag,[]⟩]:=by unfold Wi;rw[if_pos c]
 rw[e1];let⟨B,V⟩:=c;have V:(q.ZF.length:Int)<40:=by omega
 refine VS.mono (N:=fun p g'=>Zm A.size A g'/\p 0=ak (ae ⟨wb,0,al⟩)/\p 1=ak (ae ⟨nb,0,al⟩)/\p 109=aC true) ?_ ?_ (fun _ _ _ h=>h) (fun _ _ h=>h)
 .refine VS.z (A.size) [] (.p 0 (.p 1 (.p 2 (.q 3 (.p 4 (.p 5 (.p 6 (.q 7 (.p 8 (.p 9 (.p 10 (.p 11 (.p 12 (.q 13 (.p 14 (.p 15 (.p 16 .nil))))))))))))))))) mixed (by kernel_rfl) ?_;simp only[go_sem,k,f1,bp,bl,b0,G,B,V]
  try exact Zm.refl _ _
 clear k f1;rintro F5 z ⟨b5,k,f1,f109⟩;have Ap:=Z9 K4.YG b5;have N5:=K.Zt Ap;have W5:=W4.Zt Ap;have K5:Kp (J8 i) o h w z:=K4.trans (Ya Ap);have P5:=ZU N5.Yb.2 N5.pt.store.len;have cA:=P5.iu;have Ly:=Zb N5.Yb.2;let⟨g6,LY⟩:=ZO (z.push (an [U O q.Zn.p.r,U O q.Zn.p.n].toArray 97):Hp);have k6:Kp WL w z w g6:=by rw[LY];exact YK K5.YG _
 have x8:Yo w g6 z.size (an [U O q.Zn.p.r,U O q.Zn.p.n].toArray 97):=⟨K5.YG _ (aq _),by rw[LY];exact Zf⟩
 have e6:=LY.symm;have N6:=N5.Zt k6;have W6:=W5.Zt k6;have K6:Kp (J8 i) o h w g6:=K5.trans (Ya k6);have cx:=(ZU N6.Yb.2 N6.pt.store.len).Yy;have cn:=Zb N6.Yb.2;have l8:=Zb x8.2;have r8:rd g6 ⟨z.size,0,al⟩ 2=ae [U O q.Zn.p.r,U O q.Zn.p.n]:=ZB x8.2 rfl;let⟨u,c8⟩:=ZO (z.size);simp only[go_sem,k,f1,f109,cA,Ly,e6];rw[<-c8]at x8 l8 r8 ⊢;refine VS.mono (N:=fun p g'=>Zm g6.size g6 g'/\p 0=ak (ae ⟨wb,0,al⟩)/\p 1=ak (ae ⟨nb,0,al⟩)/\p 8=ak (ae ⟨u,0,al⟩)/\p 120=aC (decide (Zj q.Zn.p q.Yy))) ?_ ?_ (fun _ _ _ h=>h) (fun _ _ h=>h)
 .refine VS.z (g6.size) [5] (.p 0 (.p 1 (.p 2 (.q 3 (.q 4 (.w 5 .nil)))))) mixed (by kernel_rfl) ?_;simp only[go_sem,k,f1,cx,r8,cn,l8];refine (Ij T g6 q.Yy q.Zn.p).use ?_;rintro _ g ⟨rfl,b⟩;simp only[go_sem,b];exact⟨k,f1⟩
 clear k f1;rintro F7 g7 ⟨b7,k,f1,f8,f120⟩;have H:=Z9 K6.YG b7;have N7:=N6.Zt H;have W7:=W6.Zt H;have K7:Kp (J8 i) o h w g7:=K6.trans (Ya H);have y8:=x8.Zh H;have cw:=(ZU N7.Yb.2 N7.pt.store.len).Yy;have cf:=Zb N7.Yb.2;have m8:=Zb y8.2;by_cases c6:Zj q.Zn.p q.Yy
 all_goals
 first
 | (have eb:Wv q=q.Yy:=by unfold Wv;rw[if_pos c6]
    let⟨g8,bT⟩:=ZO (ao g7 u (an [U O q.Yy.r,U O q.Yy.n].toArray 97):Hp);have w8:wr g7 ⟨u,0,al⟩ [U O q.Yy.r,U O q.Yy.n]=ae g8:=by rw[Yr y8.2 0 _,bT];rfl
    have k8:Kp WL w z w g8:=by rw[bT];exact (k6.trans H).ma (by omega) _
    have z8:Yo w g8 u (an [U O (Wv q).r,U O (Wv q).n].toArray 97):=⟨y8.1,by rw[bT,eb];exact Yp y8.2⟩
    simp only[go_sem,k,f1,f8,f120,c6,cw,cf,w8])
 | (have eb:Wv q=q.Zn.p:=by unfold Wv;rw[if_neg c6]
    let⟨g8,bT⟩:=ZO (g7:Hp);have k8:Kp WL w z w g8:=by rw[bT];exact k6.trans H
    have z8:Yo w g8 u (an [U O (Wv q).r,U O (Wv q).n].toArray 97):=⟨y8.1,by rw[bT,eb];exact y8.2⟩
    simp only[go_sem,f120,c6];rw[<-bT])
 all_goals
  have N8:=N5.Zt k8;have W8:=W5.Zt k8;have K8:Kp (J8 i) o h w g8:=K5.trans (Ya k8);have P8:=ZU N8.Yb.2 N8.pt.store.len;have cv:=P8.YO;have bK:=P8.ZF;rw[FZ]at bK;have bG:=Zb N8.Yb.2;have n8:=Zb z8.2;have s8:rd g8 ⟨u,0,al⟩ 2=ae [U O (Wv q).r,U O (Wv q).n]:=ZB z8.2 rfl;refine VS.z (g8.size) [14] (.p 0 (.p 1 (.p 2 (.p 3 (.p 4 (.q 5 (.q 6 (.p 7 (.p 8 (.p 9 (.q 10 (.p 11 (.p 12 (.p 13 (.w 14 .nil))))))))))))))) mixed (by kernel_rfl) ?_;simp only[go_sem,k,f1,f8,cv,bK,s8,bG,n8];have rl:(fl++ls).length<=1000000000000:=by rw[aL];omega
  refine (TB T g8 w wb nb Y6 q.me J _ YP ZH q.YO ⟨5,0,0,Wv q,Qb q.ZF.length Y2 Ag,[]⟩ (Q al 0 0) K8.YG W8 P8.me bG (Im.nil _ _ _ _) rl).use ?_;rintro v' g9 ⟨o9,ct,k9,_,W9⟩;simp only[go_sem];exact⟨o9,a3,ct,K8.trans (k9.mono fun t q=>by rcases q with rfl|rfl<;>simp[J8]),N8.Zh k9 (by rintro t (rfl|rfl)<;>simp[Tg.of]),by rw[<-a5];exact W9⟩
structure om(n:Nd)(l:Yt)(fl ZH:Nat):Prop where
 a:0<=l.a/\l.a<=7
 room:fl<=1000000000000
 c:n.Zn.l.length<=1000000
 data:(aa n.data)<=1000000
 Zi:n.Zi.length<=100000000000
 ZF:n.ZF.length<=100000000000
 ZH:ZH<=100000000000
 ZD:n.ZD.length<=1000000000000
 e:n.e.length<=1000000000000
 f:∀r s,n.Zc=ae r->((YF r.Xc s).getD []).length<=1000000
structure Zdi(n:Nd)(fl:Nat):Prop where
 room:fl<=800000000000
 c:n.Zn.l.length<=1000000
 data:(aa n.data)<=1000000
 Rd:∀r,n.Zc=ae r->(∀x∈r.c,x.2.length<=1000000)/\(∀x∈r.c,∀v∈x.2,v.Zx<=1000000)/\r.c.length<=1000000000000
 ZF:n.ZF.length<=100000000000
 ZD:n.ZD.length<=10000000000
 YO:0<=n.YO/\n.YO<5
def Mt:Nd->List Yt->Nat->Nat->Prop
 | _,[],_,_=>True
 | n,l :: k,f,t=>n.Zo.isSome=true\/(om { n with Zd:=k } l f t/\Mt (Zy { n with Zd:=k } l).n k (f+(Zy { n with Zd:=k } l).ls.length) (t+(Zy { n with Zd:=k } l).ts.length))
structure oq(n:Nd)(fl ZH:Nat):Prop where
 data:(aa n.data)<=1000000
 room:fl<=1000000000000
 dr:n.Zo=al->Mt n n.Zd fl ZH
 du:n.Zo=al->(Zw n n.Zd).n.Zo=al->Zdi (Zw n n.Zd).n (fl+(Zw n n.Zd).ls.length)
theorem bZ(n:Nd)(l:Yt)(k:List Yt):(Zy { n with Zd:=k } l).n.Zd=k:=by
 have hL:∀(m:Nat) (x:Nd),(YA m x).1.Zd=x.Zd:=by
  intro m
  induction m with
  | zero=>intro x;rfl
  | succ m a=>
   grind [XF,YA.eq_def]
 have d:∀(x:Nd) s c,(Jj x s c).n.Zd=x.Zd:=fun x s c=>by unfold Jj;simp only;rw[hL];rfl
 have b:∀x:Nd,(XL x l).Zd=x.Zd:=fun x=>by unfold XL;split<;>rfl
 unfold Zy;split
 .grind [Y3]
 split
 .grind [YI,C0,Vc]
 split
 .grind [asked]
 grind [add,Q3]
theorem Zhp{t:Tg}{v:aH}{l:Yt}{k:List Yt}(s:Ww o t h v (l :: k)):
  ∃w b off c,v=Q (ae ⟨b,off,al⟩) ((aa k)+1) c/\(aa k)+1<=c/\rd h ⟨b,off,al⟩ 14=ae (Jk l w)/\Ta o h w l.vs/\Ww o t h (Q (if c=1 then ae ⟨b,off,al⟩ else ae ⟨b,off+14,al⟩) (aa k) (c-1)) k:=by
 let⟨xs,f,m,j⟩:=s
 cases xs with
 | nil=>cases f
 | cons x xs=>
  let⟨l',w⟩:=x;simp only[List.map_cons,List.cons.injEq]at f;obtain⟨rfl,rfl⟩:=f;have d:=m;rcases m with⟨_,e,_⟩|⟨b,off,cap,pre,ZT,g1,rfl,y,u,r,B,A⟩
  .cases e
  refine⟨w,b,off,cap,zK,zK,?_,j (l',w) zX,?_⟩
  .have g:ZW Gs ((l',w) :: xs)=Jk l' w++ZW Gs xs:=by simp[ZW,Gs]
   have q:(ZW Gs ((l',w) :: xs)).length=((aa xs)+1)*14:=r;rw[YZ y zK,<-u,List.drop_left,g,a5];rfl
  .refine⟨xs,rfl,?_,fun x p=>j x (by simp[p])⟩;have a:=d.tail (k:=1) zX;have g:ZW Gs ((l',w) :: xs)=Jk l' w++ZW Gs xs:=by simp[ZW,Gs]
   rw[g]at a;have z:(Jk l' w++ZW Gs xs).drop (1*14)=ZW Gs xs:=rfl;rw[z]at a
   simpa [X9] using a
def Zdj(nb:Nat)(g:Hp):Nat:=match hc g ⟨nb,54,al⟩ with
 | some (Q _ m _)=>m
 | _=>0
theorem iM{nb:Nat}{a:NA}(N:Yg o h wb i nb a n):Zdj nb h=n.Zd.length:=by
 let⟨xs,e,b,_⟩:=N.pt.Zd;let⟨p,c,d,_⟩:=b.ZR;have:=(ZU N.Yb.2 N.pt.store.len).Zd;unfold Zdj
 grind
theorem iN(t:Tg)(q:Zg4 i t):J8 i t:=by
 grind [Zg4,J8,Tg.of]
theorem Zdk(T:a7)(h:Hp)(o:Ow)(wb i nb:Nat)(Y6:Nat->Nat)(a:NA)(n:Nd)(XY:WA)(fl:List Yt)(YP:Nat->Int)(ZH:List PC)(d:V3 o h)(N:Yg o h wb i nb a n)(W:Z0 o h wb Y6 XY fl YP ZH)(tb:j1 o h)(ok:oq n (aa fl) (aa ZH)):
  Zg a0 T 54 #[ZC wb,ZC nb] h fun v' h'=>∃A L JY,Kp (J8 i) o h A h'/\Yg A h' wb i nb L (step n).n/\Z0 A h' wb Y6 JY (fl++(step n).ls) YP (ZH++(step n).ts):=by
 refine Zg.X8 [_,_] Tryz.func54 ?_;unfold ZC;have P:=ZU N.Yb.2 N.pt.store.len;have T4:=Zb N.Yb.2;have Pu:=P.up
 cases hu:n.up with
 | false=>
  have e1:step n=⟨n,[],[]⟩:=by unfold step;rw[hu];rfl
  rw[hu]at Pu;rw[e1,aS,aS];simp only[go_sem,Pu];exact⟨o,a,XY,Kp.refl d _,N,W⟩
 | true=>
 rw[hu]at Pu;have Pp:=P.Zo
 cases hp:n.Zo with
 | some p=>
  have e1:step n=Yc (ZE n) p:=by unfold step;rw[hu,hp];rfl
  rw[e1];have Pn:=N.pt.Zo;rw[hp]at Pn;obtain⟨f,l,hf⟩:∃f l,a.Zo=.func (.func f) #[] l:=by
   rcases Pn.fn with⟨c,_⟩|⟨_,c⟩
   .cases c
   .exact c
  have b3:=Pp;rw[hf]at b3;let⟨pd,cd,PK⟩:=N.pt.data.1.ZR;have PK:a.data=Q pd (aa n.data) cd:=PK;have Pt:=P.tape;rw[PK]at Pt;have Nd:=N.pt.data;rw[PK]at Nd;simp only[go_sem,Pu,b3,Pt];refine (Zgm T h _ n.XI n.data Nd.bs (by have:=ok.data;omega)).use ?_;rintro v1 h1 ⟨b1,s1⟩;have kb:=Z9 d b1;have r:=N.Zt kb;have W1:=W.Zt kb;obtain⟨p1,y,rfl,i1⟩:∃p1 y,v1=.tuple [.agg [Q p1 (ZE n).data.length y,U O (ZE n).XI].toArray,U O (if Xo n.data n.XI then 0 else 5)].toArray/\Rb o h1 (Q p1 (ZE n).data.length y) (ZE n).data:=by
   unfold mH at s1;by_cases c:Xo n.data n.XI
   .rw[if_pos (show (aa n.data)<=100000/\0<=n.XI/\n.XI<=(aa n.data) from c)]at s1;obtain⟨w,rfl,I⟩:=s1;obtain⟨p1,y,rfl,_⟩:=I.bs.open;have M:(ZE n).data=n.data:=by unfold ZE;simp only;rw[if_pos c]
    have e3:(ZE n).XI=(aa n.data):=by unfold ZE;simp only;rw[if_pos c]
    rw[M,e3,if_pos c];exact⟨p1,y,rfl,Im.Vp I.Zn (fun b hb=>d b hb),I.byte⟩
   grind [ZE,Xo,Rb,Im.nil]
  let⟨g2,w2,N2,G⟩:=Yx.write (a:={ a with data:=Q p1 (ZE n).data.length y }) (n:={ n with data:=(ZE n).data,XI:=(ZE n).XI }) { r.pt with data:=i1 } kb.YG r.Yb ((X4 r.Yb.2 r.pt.store.len).tape (Q p1 (ZE n).data.length y) (ZE n).XI rfl);have UE:=Zb r.Yb.2;have UP:=Zb N2.Yb.2;have s:hc g2 ⟨nb,55,al⟩=ae a.Zo:=(ZU N2.Yb.2 N2.pt.store.len).Zo;have pn:VU o g2 wb i nb a.Zc .nilFunc al:=rfl;let⟨K,w3,N3,E⟩:=Yx.write (a:={ a with data:=Q p1 (ZE n).data.length y,Zo:=.nilFunc }) (n:=ZE n) { N2.pt with Zo:=pn } G.YG N2.Yb ((X4 N2.Yb.2 N2.pt.store.len).Zo .nilFunc rfl);have K3:Kp (J8 i) o h o K:=((Ya kb).trans (G.mono fun t q=>.inr (.inr (.inr (by rw[q];rfl))))).trans (E.mono fun t q=>.inr (.inr (.inr (by rw[q];rfl))));have W3:=(W1.Zh G HS).Zh E HS;have b8:VU o K wb i nb a.Zc a.Zo (ae p):=((Pn.Zh kb (by rintro⟨⟩)).Zh G zK).Zh E zK;clear hf b3;rw[show (Yc (ZE n) p).ts=[] from by cases p<;>rfl,aS];have rm:=ok.room;have br:(ZE n).Zo=al:=rfl
  cases p with
  | QB acc to b vs=>
   let⟨b6,b4,b9,u,J,aw,a3,Z,Y⟩:=b8;have R:=Zg5 T K o wb i nb Y6 XY fl YP ZH _ (ZE n) acc to b vs b6 b4 b9 u E.YG N3 W3 rm aw a3 Z Y;rw[J]at s;unfold SD at s;simp only[bh]at s;unfold ZC at s R;simp only[go_sem,w2,UE,s,w3,UP];refine R.use ?_;rintro v' h' ⟨A,L,JY,k,N',W'⟩;simp only[go_sem];exact⟨A,L,JY,K3.trans (k.mono iN),N',W'⟩
  | Us acc to x=>
   let⟨b6,b4,b9,u,J,aw,a3,Z,Y⟩:=b8;have R:=Zg6 T K o wb i nb Y6 XY fl YP ZH _ (ZE n) acc to x b6 b4 b9 u E.YG N3 W3 rm aw a3 Z Y;rw[J]at s;unfold SD at s;simp only[bh]at s;unfold ZC at s R;simp only[go_sem,w2,UE,s,w3,UP];refine R.use ?_;rintro v' h' ⟨A,L,JY,k,N',W'⟩;simp only[go_sem];exact⟨A,L,JY,K3.trans (k.mono iN),N',W'⟩
  | Zn acc vs cur=>
   let⟨b6,b4,b7,b5,J,R⟩:=Zg7 T K o wb i nb _ (ZE n) acc vs cur a.Zo E.YG N3 br b8;rw[J]at s;unfold SD at s;simp only[bh]at s;unfold ZC at s R;rw[show (Yc (ZE n) (.Zn acc vs cur)).ls=[] from rfl,aS];simp only[go_sem,w2,UE,s,w3,UP];refine R.use ?_;rintro v' h' ⟨A,L,k,N'⟩;simp only[go_sem];exact⟨A,L,XY,K3.trans (k.mono fun t q=>by rcases q with rfl|rfl|rfl<;>exact .inr (.inr (.inr rfl))),N',W3.Zh k (fun t q=>by rcases q with rfl|rfl|rfl<;>simp[Tg.of])⟩
 | none=>
  have bl:a.Zo=.nilFunc:=by have:=N.pt.Zo;rw[hp]at this;exact this
  have b2:=P.Zo;rw[bl]at b2;simp only[go_sem,Pu,b2];let⟨D,hD⟩:=ZO (Zw n n.Zd);have dr:=ok.dr hp;have du:=ok.du hp;have e1:step n=if D.n.Zo.isSome=true then D else ⟨(YH D.n).n,D.ls++(YH D.n).ls,D.ts++(YH D.n).ts⟩:=by unfold step;rw[hu,hp,hD];rfl
  rw[<-hD]at du;rw[e1];refine VS.YC (fun F g=>F 0=ak (ae ⟨wb,0,al⟩)/\F 1=ak (ae ⟨nb,0,al⟩)/\∃(A:Ow) (L:NA) (JY:WA) (m:Nd) (ls:List Yt) (ts:List PC),Kp (J8 i) o h A g/\Yg A g wb i nb L m/\Z0 A g wb Y6 JY (fl++ls) YP (ZH++ts)/\D=⟨(Zw m m.Zd).n,ls++(Zw m m.Zd).ls,ts++(Zw m m.Zd).ts⟩/\Mt m m.Zd ((aa fl)+(aa ls)) ((aa ZH)+(aa ts)))
   (fun _ g=>Zdj nb g) rfl ⟨rfl,rfl,o,a,XY,n,[],[],Kp.refl d _,N,by simpa using W,by rw[hD];rfl,zK⟩ ?_
  clear Pu Pp bl b2 P T4 N W d;rintro F1 g1 ⟨f0,f1,I,a1,bb,m,ls,ts,K1,r,W1,X,b0⟩;have P1:=ZU r.Yb.2 r.pt.store.len;have UE:=Zb r.Yb.2;have z:=P1.Zd;have B:=P1.Zo;have stop:(m.Zd=[]\/m.Zo.isSome=true)->D=⟨m,ls,ts⟩:=by
   intro q;have M:Zw m m.Zd=⟨m,[],[]⟩:=by
    cases e:m.Zd with
    | nil=>unfold Zw;rw[<-e]
    | cons l k=>
     rcases q with q|q
     .grind
     .unfold Zw;rw[if_pos q,<-e]
   rw[X,M];simp
  rcases r.pt.Zo.fn with⟨y,c2⟩|⟨y,f,fl',c2⟩
  .rw[c2]at B
   cases e:m.Zd with
   | nil=>
    have eD:=stop (.inl e);obtain⟨p,c,hi⟩:∃p c,a1.Zd=Q p 0 c:=by
     have:=r.pt.Zd;rw[e]at this;let⟨xs,h1,h2,_⟩:=this;let⟨p,c,h3,_⟩:=h2.ZR
     grind [List.map_eq_nil_iff]
    rw[hi]at z;have j:=du zK;rw[eD]at j;rw[eD,if_neg (by rw[y];simp)];have cd:=Zhm T g1 I wb i nb Y6 a1 m bb (fl++ls) YP (ZH++ts) K1.YG r W1 (tb.Zh K1) y (by rw[aL];exact j.room) j.c j.data j.Rd j.ZF j.ZD j.YO;unfold ZC at cd;simp only[go_sem,f0,f1,z,B];refine cd.use ?_;rintro v' g2 ⟨o2,a2,bA,G,N2,W2⟩;simp only[go_sem];have bt:(YH m).ts=[]:=by
     unfold YH;split
     .exact (Lz _).2.2.2.2.2
     .rfl
    grind [Kp.trans]
   | cons l k=>
    have NI:=r.pt.Zd;rw[e]at NI;let⟨w,b,off,c,hi,TZ,Ik,iv,tl⟩:=Zhp NI;rw[hi]at z;rw[e]at b0;have H:om { m with Zd:=k } l ((aa fl)+(aa ls)) ((aa ZH)+(aa ts))/\Mt (Zy { m with Zd:=k } l).n k ((aa fl)+(aa ls)+(Zy { m with Zd:=k } l).ls.length) ((aa ZH)+(aa ts)+(Zy { m with Zd:=k } l).ts.length):=by
     rcases b0 with q|q
     .grind
     .exact q
    let⟨H,bw⟩:=H;have nO:D=⟨(Zw (Zy { m with Zd:=k } l).n k).n,(ls++(Zy { m with Zd:=k } l).ls)++(Zw (Zy { m with Zd:=k } l).n k).ls,(ts++(Zy { m with Zd:=k } l).ts)++(Zw (Zy { m with Zd:=k } l).n k).ts⟩:=by
     rw[X,e];have M:Zw m (l :: k)=⟨(Zw (Zy { m with Zd:=k } l).n k).n,(Zy { m with Zd:=k } l).ls++(Zw (Zy { m with Zd:=k } l).n k).ls,(Zy { m with Zd:=k } l).ts++(Zw (Zy { m with Zd:=k } l).n k).ts⟩:=by
      rw[Zw];rw[if_neg (by rw[y];simp)]
     rw[M];simp
    have HJ:=bZ m l k;clear stop b0 X;obtain⟨pw,cw,rfl⟩:=iv.ZR;let⟨g2,VJ⟩:=ZO (g1.push (an (Jk l (Q pw (aa l.vs) cw)).toArray 143):Hp);have G:Kp WL I g1 I g2:=by rw[VJ];exact YK K1.YG _
    have x5:Yo I g2 g1.size (an (Jk l (Q pw (aa l.vs) cw)).toArray 143):=⟨K1.YG _ (aq _),zK⟩
    have M:=VJ.symm;have N2:=r.Zt G;have W2:=W1.Zt G;have bn:=(ZU N2.Yb.2 N2.pt.store.len).Zd;rw[hi]at bn;have UP:=Zb N2.Yb.2;obtain⟨S,V⟩:∃v:aH,v=Q (if c=1 then ae ⟨b,off,al⟩ else ae ⟨b,off+14,al⟩) (aa k) (c-1):=⟨_,rfl⟩
    have bo:Ww I (.Zd i) g2 S k:=by rw[V];exact tl.Zh G (fun q=>q.elim)
    let⟨K,w3,N3,E⟩:=Yx.write (a:={ a1 with Zd:=S }) (n:={ m with Zd:=k }) { N2.pt with Zd:=bo } G.YG N2.Yb ((X4 N2.Yb.2 N2.pt.store.len).Zd S (by rw[V];rfl));rw[V]at w3;have y5:=x5.Zh E;have W3:=W2.Zh E HS;have r5:rd K ⟨g1.size,0,al⟩ 14=ae (Jk l (Q pw (aa l.vs) cw)):=ZB y5.2 rfl;have K3:Kp (J8 i) o h I K:=(K1.trans (Ya G)).trans (E.mono fun t q=>.inr (.inr (.inr (by rw[q];rfl))));have ax:(1:Int)<=c:=uh;have ch:=xK T K I wb i nb Y6 _ { m with Zd:=k } bb (fl++ls) YP (ZH++ts) l (Q pw (aa l.vs) cw) E.YG N3 W3 ((iv.Zh G).Zh E) (tb.Zh K3) H.a (by rw[aL];exact H.room) H.c H.data H.Zi H.ZF (by rw[aL];exact H.ZH) H.ZD H.e H.f;unfold ZC Jk at ch;unfold Jk at Ik M r5;simp only[go_sem,f0,f1,z,B,Ik,M,bn,UP,w3,TZ,ax,r5,Nat.add_sub_cancel];refine ch.use ?_;rintro v' g4 ⟨o4,a4,sZ,k4,N4,W4⟩;simp only[go_sem];unfold Xz;have bp:=iM N4;have bq:=iM r;rw[HJ]at bp;rw[e]at bq;refine⟨⟨f0,f1,o4,a4,sZ,(Zy { m with Zd:=k } l).n,ls++(Zy { m with Zd:=k } l).ls,ts++(Zy { m with Zd:=k } l).ts,K3.trans k4,N4,zK,zK,zK⟩,?_⟩
    grind
  .rw[c2]at B;have eD:=stop (.inr y);rw[eD,if_pos y];obtain⟨p,c,hi⟩:∃p c,a1.Zd=Q p m.Zd.length c:=by
    let⟨xs,h1,h2,_⟩:=r.pt.Zd;let⟨p,c,h3,_⟩:=h2.ZR
    grind
   rw[hi]at z;by_cases hz:0<m.Zd.length
   .have dJ:(0:Int)<m.Zd.length:=uh;simp only[go_sem,f0,f1,z,B,dJ]
    grind
   .have dJ:¬(0:Int)<m.Zd.length:=uh;simp only[go_sem,f0,f1,z,B,dJ]
    grind
def RM(t:Tg):Prop:=True
def ZqG(t:Tg):Prop:=∃i,t.of=ae i
theorem Y9{S:Tg->Prop}{a:Ow}{h':Hp}(k:Kp S o h a h'):Kp RM o h a h':=k.mono fun _ _=>trivial
structure Q4(o:Ow)(h:Hp)(wb:Nat)(Y6:Nat->Nat)(XY:WA)(w:Wd):Prop where
 wd:Z0 o h wb Y6 XY w.b w.YP w.ZH
 nd:∀i,i<5->∃a,Yg o h wb i (Y6 i) a (w.Za i)
theorem Q4.Zt{h':Hp}{Y6:Nat->Nat}{XY:WA}{w:Wd}{b:Ow}(A:Q4 o h wb Y6 XY w)(k:Kp WL o h b h'):Q4 b h' wb Y6 XY w:=
 ⟨A.wd.Zt k,fun i hi=>by let⟨a,N⟩:=A.nd i hi;exact⟨a,N.Zt k⟩⟩
theorem Q4.YO{d:Ow}{h':Hp}{Y6:Nat->Nat}{XY c:WA}{w:Wd}{a:NA}{fl:List Yt}{YP:Nat->Int}{ZH:List PC}(A:Q4 o h wb Y6 XY w)(k:Kp (J8 i) o h d h')(N:Yg d h' wb i (Y6 i) a n)(W:Z0 d h' wb Y6 c fl YP ZH):Q4 d h' wb Y6 c { Za:=fun j=>if j=i then n else w.Za j,b:=fl,YP:=YP,ZH:=ZH }:=by
 refine⟨W,fun j f=>?_⟩;by_cases e:j=i
 .grind
 .let⟨b,M⟩:=A.nd j f;refine⟨b,?_⟩
  grind [Yg.Zh,J8,Tg.of]
theorem Sm{Y6:Nat->Nat}{XY:WA}{fl:List Yt}{YP:Nat->Int}{ZH:List PC}(W:Z0 o h wb Y6 XY fl YP ZH):
  ∃b off c,XY.Za=Q (ae ⟨b,off,al⟩) 5 c/\5<=c/\b<h.size/\∀i,i<5->hc h ⟨b,off+i,al⟩=ae (ZC (Y6 i)):=by
 rcases W.Za with⟨_,e,_⟩|⟨b,off,cap,pre,ZT,g1,g,a,f,k,j,d⟩
 .cases e
 refine⟨b,off,cap,g,d,Zb a,fun i hi=>?_⟩;rw[Zr a,X2,<-f,List.getElem?_append_right uh,aV]
 match i,hi with
 | 0,_=>rfl
 | 1,_=>rfl
 | 2,_=>rfl
 | 3,_=>rfl
 | 4,_=>rfl
theorem xX{T:a7}{K:aH->Hp->Prop}{ty:TypeId}{t:Tg}{v:aH}{l:List Yt}{x:Yt}{w:aH}{bx:Nat}{cb:Array Bool}(s:Ww o t h v l)(d:V3 o h)(iv:Ta o h w x.vs)(hb:h[bx]? = ae (an (Jk x w).toArray 143))(hr:(aa l)<=1000000000000)(H:∀p c a h',Ww a t h' (Q p ((aa l)+1) c) (l++[x])->Kp (fun u=>u=t) o h a h'->K (Q p ((aa l)+1) c) h'):
  OV a0 T .append #[90,90] ty cb [v,Q (ae ⟨bx,0,al⟩) 1 1] K h:=by
 have src:Sl 14 h (Q (ae ⟨bx,0,al⟩) 1 1) 1 (Jk x w):=⟨_,1,rfl,rfl,fun _=>⟨bx,0,rfl,fun i hi=>by
  grind [hc]⟩⟩
 let⟨p,c,hw⟩:=iv.ZR;have q:YV w=true:=by rw[hw];rfl
 let⟨xs,j,m,z⟩:=s;have g:(aa xs)=(aa l):=by rw[<-j,a8]
 refine QM (E:=143) (n:=14) (bytes:=128) (k:=1) qS Tryz.underlying90 Zbp qX rfl ZiX m d src (by rw[Jk,List.all_eq_true];intro x b;simp at b;rcases b with rfl|rfl|rfl|rfl|rfl|rfl|rfl|rfl|rfl|rfl|rfl|rfl|rfl|rfl<;>first|rfl|exact q) uh uh ?_;intro r a h' e k _;obtain⟨f,c',rfl,_⟩:=e.ZR;rw[g];refine H f c' a h' ⟨xs++[(x,w)],zK,?_,fun y A=>?_⟩ k
 .grind [Gs,Xd,VH]
 grind [Ta.Zh]
theorem PM{t:Tg}{v:aH}{l:List Yt}(s:Ww o t h v l):∃p c,v=Q p (aa l) c/\(aa l)<=c:=by
 grind [Ww,Xk.ZR]
theorem ce(T:a7)(h:Hp)(o:Ow)(wb:Nat)(Y6:Nat->Nat)(XY:WA)(w:Wd)(l:Yt)(v:aH)(d:V3 o h)(A:Q4 o h wb Y6 XY w)(iv:Ta o h v l.vs)(a1:0<=l.to/\l.to<5)(HJ:∀i,i<5->(w.Za i).Zd.length<=1000000000000):
  Zg a0 T 56 #[ZC wb,.agg (Jk l v).toArray] h fun v' h'=>∃R,Kp ZqG o h R h'/\Q4 R h' wb Y6 XY (XN w l):=by
 obtain⟨pw,s,rfl⟩:=iv.ZR;obtain⟨j,hj⟩:∃j:Nat,(j:Int)=l.to:=⟨l.to.toNat,uh⟩
 have f:j<5:=uh;have G:l.to.toNat=j:=uh;refine Zg.X8 [_,_] Tryz.func56 ?_;unfold ZC Jk;let⟨g,Jt⟩:=ZO (h.push (an (Jk l (Q pw (aa l.vs) s)).toArray 143):Hp);have F:Kp WL o h o g:=by rw[Jt];exact YK d _
 have z:Yo o g h.size (an (Jk l (Q pw (aa l.vs) s)).toArray 143):=⟨d _ (aq _),zK⟩
 have Y:=Jt.symm;unfold Jk at Y;have y:=A.Zt F;have R1:=Je y.wd.Yb.2;let⟨b,off,c,hn,a2,hb,Ik⟩:=Sm y.wd;have Rn:=R1.Za;rw[hn]at Rn;have bW:=Zb y.wd.Yb.2;have p:hc g ⟨h.size,2,al⟩=ae (U O j):=by rw[hj];exact Zr z.2
 have D:=Zb z.2;have P:=Ik j f;unfold ZC at P;have J:(j:Int)<5:=uh;simp only[go_sem,Y];refine VS.mono (N:=fun F' g'=>Zm g.size g g'/\F' 3=ak (ae ⟨h.size,0,al⟩)/\F' 4=ak (ae ⟨Y6 j,0,al⟩)) ?_ ?_ (fun _ _ _ h=>h) (fun _ _ h=>h)
 .refine VS.z (g.size) [] (.p 0 (.p 1 (.p 2 (.q 3 (.p 4 (.q 5 (.p 6 (.q 7 (.p 8 .nil))))))))) mixed zI ?_;simp only[go_sem,Rn,p,bW,D,hb,J,P]
  try exact Zm.refl _ _
 rintro F1 g1 ⟨b1,f3,I⟩;have E:=Z9 F.YG b1;have L:=y.Zt E;have x:=F.trans E;have M:=z.Zh E;let⟨a,N2⟩:=L.nd j f;have P2:=ZU N2.Yb.2 N2.pt.store.len;have m:=P2.up;have T4:=Zb N2.Yb.2;unfold XN;rw[G]
 cases W:(w.Za j).up with
 | false=>
  rw[W]at m;rw[if_neg zX];simp only[go_sem,I,m];exact⟨o,Ya x,L⟩
 | true=>
  rw[W]at m;rw[if_pos rfl];let⟨pi,ci,hi,_⟩:=PM N2.pt.Zd;have k:=P2.Zd;rw[hi]at k;have p:rd g1 ⟨h.size,0,al⟩ 14=ae (Jk l (Q pw (aa l.vs) s)):=ZB M.2 rfl;unfold Jk at p;have D:=Zb M.2;simp only[go_sem,I,m];refine VS.z (g1.size) [7,10] (.p 0 (.p 1 (.p 2 (.p 3 (.q 4 (.q 5 (.s 6 (.w 7 (.p 8 (.p 9 (.w 10 .nil))))))))))) mixed zI ?_;simp only[go_sem,f3,I,k,p,T4,D];let⟨H,Z⟩:=ZO (g1.push (an (Jk l (Q pw (aa l.vs) s)).toArray 143):Hp);have r:Kp WL o g1 o H:=by rw[Z];exact YK x.YG _
  have X:=Z.symm;unfold Jk at X;rw[X];have u:=N2.Zt r;have A3:=L.Zt r;have K3:=x.trans r;have LI:=u.pt.Zd;rw[hi]at LI;refine xX LI K3.YG ((iv.Zh x).Zh r) zK (HJ j f) ?_;intro p3 c3 B g3 L3 e;have e:Kp (fun t=>t=.Zd j) o H B g3:=e;have N4:=Yx.xz u.pt e L3;have K:=u.Yb.Zh e zK;have W4:=A3.wd.Zh e HS;let⟨g5,w5,N5,V⟩:=Yx.write N4 e.YG K ((X4 K.2 u.pt.store.len).Zd (Q p3 ((w.Za j).Zd.length+1) c3) rfl);have Fl:=Zb K.2;simp only[go_sem,w5,Fl];have W5:=W4.Zh V HS;have S:Kp (fun t=>t.of=ae j) o H B g5:=(e.mono fun t q=>by rw[q];rfl).trans (V.mono fun t q=>by rw[q];rfl);exact⟨B,(Ya K3).trans (S.mono fun t q=>⟨j,q⟩),A3.YO (S.mono fun t q=>.inr (.inr (.inr q))) N5 W5⟩
theorem th{t:Tg}{v:aH}{l:List Yt}(s:Ww o t h v l)(k:Nat)(a:k<(aa l)):
  ∃w b off c,v=Q (ae ⟨b,off,al⟩) (aa l) c/\(aa l)<=c/\b<h.size/\rd h ⟨b,off+k*14,al⟩ 14=ae (Jk l[k] w)/\Ta o h w l[k].vs:=by
 obtain⟨xs,rfl,f,j⟩:=s;rw[a8]at a;rcases f with⟨_,e,_⟩|⟨b,off,cap,pre,ZT,g1,rfl,d,g,q,p,m⟩
 .omega
 refine⟨xs[k].2,b,off,cap,by grind,by grind,Zb d,?_,?_⟩
 .have hlen:∀x,(Gs x).length=14:=fun x=>rfl;have hle:k*14+14<=(aa xs)*14:=by omega
  rw[YZ d (by grind),<-g,List.drop_append,List.drop_of_length_le (by omega),bd,aV];rw[List.drop_append_of_le_length (by omega),List.take_append_of_le_length (by grind)];rw[PI hlen xs k (by omega),List.drop_eq_getElem_cons a]
  grind [ZW,Gs]
 grind
theorem xY{a:Ow}{t:Tg}{h':Hp}{xs:List (Yt × aH)}{v:aH}{k:Nat}(c:k<(aa xs))(f:Xk a t 143 14 h' v ((aa xs)-1) ((ZW Gs xs).take (k*14)++(ZW Gs xs).drop ((k+1)*14)))(d:∀x∈xs,Ta a h' x.2 x.1.vs):
  Ww a t h' v ((xs.map (·.1)).eraseIdx k):=by
 have hlen:∀x,(Gs x).length=14:=fun x=>rfl;have e:(xs.eraseIdx k).length=(aa xs)-1:=by rw[List.length_eraseIdx_of_lt c]
 refine⟨xs.eraseIdx k,?_,?_,fun x b=>d x (List.mem_of_mem_eraseIdx b)⟩
 .grind [aX,List.map_take,List.map_drop]
 .rw[e];have g:ZW Gs (xs.eraseIdx k)=(ZW Gs xs).take (k*14)++(ZW Gs xs).drop ((k+1)*14):=by
   rw[Ms hlen xs k uh,PI hlen xs (k+1) uh,<-Xd,aX]
  grind
theorem Z0.Au{c:Ow}{d:Hp}{nb:Nat->Nat}{a:WA}{fl fl':List Yt}{YP:Nat->Int}{ZH:List PC}{v:aH}(W:Z0 o h wb nb a fl YP ZH)(k:Kp (fun t=>t=.b) o h c d)(j:Ww c .b d v fl'){e:Option Hp}(w:e=ae (ao d wb (an (Jv YP { a with b:=v }).toArray 92))):
  ∃g,e=ae g/\Z0 c g wb nb { a with b:=v } fl' YP ZH/\Kp (fun t=>t=.world) c d c g:=by
 have b:=W.Yb.Zh k zK;have f:Kp (fun t=>t=.world) c d c (ao d wb (an (Jv YP { a with b:=v }).toArray 92)):=(Kp.refl k.YG (fun t=>t=.world)).set b.1 rfl _;exact⟨_,w,⟨⟨b.1,Yp b.2⟩,(W.Za.Zh k zK).Zh f zK,j.Zh f zK,(W.ZH.Zh k zK).Zh f zK⟩,f⟩
theorem Q4.Zhr{S:Tg->Prop}{d:Ow}{h':Hp}{Y6:Nat->Nat}{XY c:WA}{w:Wd}{fl:List Yt}{YP:Nat->Int}{ZH:List PC}(A:Q4 o h wb Y6 XY w)(k:Kp S o h d h')(f:∀t,S t->t.of=al)(W:Z0 d h' wb Y6 c fl YP ZH):
  Q4 d h' wb Y6 c { w with b:=fl,YP:=YP,ZH:=ZH }:=
 ⟨W,fun i hi=>by let⟨a,N⟩:=A.nd i hi;exact⟨a,N.Zh k fun t q e=>by grind⟩⟩
theorem Zhs:∀(xs:List (Yt × aH)),(∀x∈xs,Ta o h x.2 x.1.vs)->(ZW Gs xs).all YV=true:=by
 intro xs
 induction xs with
 | nil=>intro _;rfl
 | cons x xs b=>
  intro a;have e:ZW Gs (x :: xs)=Gs x++ZW Gs xs:=by simp[ZW]
  let⟨p,c,hw⟩:=(a x zX).ZR;rw[e,List.all_append,b (fun y d=>a y (by simp[d])),Bool.and_true];unfold Gs;rw[hw];rfl
theorem Zdl(T:a7)(h:Hp)(o:Ow)(wb:Nat)(Y6:Nat->Nat)(XY:WA)(w:Wd)(at':Nat)(comes stays:Bool)(d:V3 o h)(A:Q4 o h wb Y6 XY w)(z:∀l∈w.b,0<=l.to/\l.to<5)(wU:w.b.length<=1000000000000)(HJ:∀i,i<5->(w.Za i).Zd.length<=1000000000000):
  Zg a0 T 55 #[ZC wb,U O at',aC comes,aC stays] h fun v' h'=>∃p JY,Kp RM o h p h'/\Q4 p h' wb Y6 JY (pick w at' comes stays):=by
 refine Zg.X8 [_,_,_,_] Tryz.func55 ?_;unfold ZC;have R:=Je A.wd.Yb.2;have F:=R.b;have bW:=Zb A.wd.Yb.2;let⟨pf,cf,J,a2⟩:=PM A.wd.b;rw[J]at F;by_cases hz:w.b.length=0
 .have hp:pick w at' comes stays=w:=by
   unfold pick;rw[List.getElem?_eq_none zK]
  rw[hp];have B:(w.b.length:Int)=0:=uh;simp only[go_sem,F,B];exact⟨o,XY,Kp.refl d _,A⟩
 have B:¬(w.b.length:Int)=0:=uh;let⟨k,I⟩:=ZO (at'%w.b.length);have j:k<w.b.length:=by rw[I];exact Nat.mod_lt _ uh
 have V:(at':Int).tmod (w.b.length:Int)=(k:Int):=by rw[I];rfl
 have m:(k:Int)<w.b.length:=uh;let⟨v,b,off,c,N,a1,hb,H,iv⟩:=th A.wd.b k j;rw[J]at N;simp only[Value.slice.injEq]at N;obtain⟨rfl,_,rfl⟩:=N;let⟨l,P⟩:=ZO (w.b[k]);rw[<-P]at H iv;have X:l∈w.b:=by rw[P];exact List.getElem_mem j
 obtain⟨pw,s,rfl⟩:=iv.ZR;let⟨r,Jt⟩:=ZO (h.push (an (Jk l (Q pw (aa l.vs) s)).toArray 143):Hp);have e:Kp WL o h o r:=by rw[Jt];exact YK d _
 have Y:Yo o r h.size (an (Jk l (Q pw (aa l.vs) s)).toArray 143):=⟨d _ (aq _),zK⟩
 have L:=Jt.symm;unfold Jk at L H;have f:=A.Zt e;have R1:=Je f.wd.Yb.2;have G:=R1.b;rw[J]at G;have a4:=Zb f.wd.Yb.2;have u:rd r ⟨h.size,0,al⟩ 14=ae (Jk l (Q pw (aa l.vs) s)):=ZB Y.2 rfl;unfold Jk at u;have eg:w.b[at'%w.b.length]? = ae l:=by rw[<-I,P];exact List.getElem?_eq_getElem j
 have ep:pick w at' comes stays=if comes=true then XN (if stays=true then w else { w with b:=w.b.eraseIdx k }) l else (if stays=true then w else { w with b:=w.b.eraseIdx k }):=by
  unfold pick;rw[eg,I]
 rw[ep]
 cases stays with
 | true=>
  rw[if_pos rfl]
  cases comes with
  | false=>
   rw[if_neg zX];simp only[go_sem,F,B,V,m,H,L];exact⟨o,XY,Y9 e,f⟩
  | true=>
   rw[if_pos rfl];have D:=ce T r o wb Y6 XY w l (Q pw (aa l.vs) s) e.YG f (iv.Zh e) (z l X) HJ;unfold ZC Jk at D;simp only[go_sem,F,B,V,m,H,L,u];refine D.use ?_;rintro v' g ⟨p,M,W⟩;simp only[go_sem];exact⟨p,XY,(Y9 e).trans (Y9 M),W⟩
 | false=>
  rw[if_neg (show ¬(false=true) by simp)];let⟨xs,WH,LU,rI⟩:=f.wd.b;have dp:(aa xs)=w.b.length:=by rw[<-WH,a8]
  have cd:=ix T r o .b XY.b (aa xs) k (ZW Gs xs) LU e.YG (Zhs xs rI) uh uh;rw[J]at cd;have a3:(k:Int)+1=((k:Int)+1):=rfl;simp only[go_sem,F,B,V,m,H,L,G];refine cd.use ?_;rintro v2 g2 ⟨L2,a⟩;have a:Kp (fun t=>t=.b) o r o g2:=a;have L3:Ww o .b g2 v2 (w.b.eraseIdx k):=by
   rw[<-WH];exact xY uh L2 (fun x hx=>(rI x hx).Zh a)
  have B2:=f.wd.Yb.Zh a zK;obtain⟨p2,c2,rfl,_⟩:=PM L3;let⟨K,Z,W3,y⟩:=f.wd.Au a L3 ((Je B2.2).bV (Q p2 (w.b.eraseIdx k).length c2) rfl);have A3:Q4 o K wb Y6 { XY with b:=Q p2 (w.b.eraseIdx k).length c2 } { w with b:=w.b.eraseIdx k }:=
   f.Zhr (S:=fun t=>t=.b\/t=.world) ((a.mono fun t q=>.inl q).trans (y.mono fun t q=>.inr q)) (by rintro t (rfl|rfl)<;>rfl) W3
  have E:=Zb B2.2;have y9:=(Y.Zh a).Zh y;have u:rd K ⟨h.size,0,al⟩ 14=ae (Jk l (Q pw (aa l.vs) s)):=ZB y9.2 rfl;unfold Jk at u;have K3:Kp RM o h o K:=((Y9 e).trans (Y9 a)).trans (Y9 y)
  cases comes with
  | false=>
   rw[if_neg (show ¬(false=true) by simp)];simp only[go_sem,Z,E]
   grind
  | true=>
   rw[if_pos rfl];have D:=ce T K o wb Y6 _ _ l (Q pw (aa l.vs) s) y.YG A3 (((iv.Zh e).Zh a).Zh y) (z l X) HJ;unfold ZC Jk at D;simp only[go_sem,Z,E,u];refine D.use ?_;rintro v' g ⟨p,M,W⟩;simp only[go_sem];exact⟨p,_,K3.trans (Y9 M),W⟩
theorem Zht(rc:List Nat)(now:Int):ir rc now=(JL rc now).C:=by
 unfold ir JL;split<;>rfl
theorem ZlB{YP:Nat->Int}{a:WA}(H:h[wb]? = ae (an (Jv YP a).toArray 92))(i:Nat)(hi:i<5):
  hc h ⟨wb,9+i,al⟩=ae (U O (YP i))/\∀k,Uf h ⟨wb,9+i,al⟩ (U O k)=ae (ao h wb (an (Jv (fun j=>if j=i then k else YP j) a).toArray 92)):=by
 match i,hi with
 | 0,_=>exact⟨Zr H,fun k=>by rw[XZ H,if_pos ⟨by simp[Jv],rfl⟩];rfl⟩
 | 1,_=>exact⟨Zr H,fun k=>by rw[XZ H,if_pos ⟨by simp[Jv],rfl⟩];rfl⟩
 | 2,_=>exact⟨Zr H,fun k=>by rw[XZ H,if_pos ⟨by simp[Jv],rfl⟩];rfl⟩
 | 3,_=>exact⟨Zr H,fun k=>by rw[XZ H,if_pos ⟨by simp[Jv],rfl⟩];rfl⟩
 | 4,_=>exact⟨Zr H,fun k=>by rw[XZ H,if_pos ⟨by simp[Jv],rfl⟩];rfl⟩
theorem Zdm(t:Tg)(q:Zg1 i t):J8 i t:=by
 rcases q with rfl|rfl<;>exact .inr (.inr (.inr rfl))
theorem add_same(n:Nd)(x:Cm):(add n x).e=n.e/\(add n x).me=n.me:=by
 unfold add;grind
theorem ya(T:a7)(h:Hp)(o:Ow)(wb:Nat)(Y6:Nat->Nat)(XY:WA)(w:Wd)(i:Nat)(rc:List Nat)(v:aH)(d:V3 o h)(A:Q4 o h wb Y6 XY w)(hi:i<5)(C6:(w.Za i).me=i)(iv:Rb o h v rc)(WF:RT v)(bA:(aa rc)<=140737488355328)(tb:j1 o h)(hq:(w.Za i).ZD.length<=1000000000000)(hl:(w.Za i).ZF.length<=1000000000000)(uk:(w.Za i).e.length<=1000000000000)(ht:w.ZH.length<=1000000000000)(hb:0<=w.YP i/\w.YP i<=1000000000000):
  Zg a0 T 52 #[ZC wb,ZC (Y6 i),v] h fun v' h'=>∃o' JY,Kp RM o h o' h'/\Q4 o' h' wb Y6 JY (Wj w i rc):=by
 obtain⟨pv,cv,rfl⟩:=iv.1.ZR;refine Zg.X8 [_,_,_] Tryz.func52 ?_;unfold ZC;let⟨a,N⟩:=A.nd i hi;let⟨n,hn⟩:=ZO (w.Za i);unfold Wj;rw[<-hn]at N C6 hq hl uk ⊢;have P:=ZU N.Yb.2 N.pt.store.len;have T4:=Zb N.Yb.2;have Pu:=P.up
 cases hu:n.up with
 | false=>
  rw[hu]at Pu;rw[if_neg zX];simp only[go_sem,Pu];exact⟨o,XY,Kp.refl d _,A⟩
 | true=>
 rw[hu]at Pu;rw[if_pos rfl];have Pl:=P.ZF;let⟨pl,cl,FZ,_⟩:=Xk.ZR N.pt.ZF;have FZ:a.ZF=Q pl n.ZF.length cl:=FZ;rw[FZ]at Pl;let⟨E,hE⟩:=ZO (Xl rc n.ZF.length);let⟨x,hx⟩:=ZO (JL rc n.ZF.length);have co:=ZcL T h (Q pv (aa rc) cv) rc n.ZF.length iv.bs WF bA tb.tk tb.tn;rw[Zht,<-hE,<-hx]at co;rw[<-hE,<-hx];simp only[go_sem,Pu,Pl];refine co.use ?_;rintro _ g ⟨rfl,b⟩;have kb:=Z9 d b;let⟨g1,EB⟩:=ZO (g.push (an (aI x.C) 43):Hp);have e1:=EB.symm;have k1:Kp WL o h o g1:=by rw[EB];exact kb.push _
 have x6:Yo o g1 g.size (an (aI x.C) 43):=⟨kb.YG _ (aq _),zK⟩
 have z:=A.Zt k1;have N1:=N.Zt k1;have P1:=ZU N1.Yb.2 N1.pt.store.len;have a2:=P1.me;rw[C6]at a2;have UE:=Zb N1.Yb.2;have b8:=Zb z.wd.Yb.2;let⟨br,bw⟩:=ZlB z.wd.Yb.2 i hi;have r6:rd g1 ⟨g.size,0,al⟩ 5=ae x.C:=ZB x6.2 rfl;have l6:=Zb x6.2;have ga:(i:Int)<5:=uh;by_cases hz:E=0
 case neg=>
  rw[if_pos zK];simp only[go_sem,e1,hz];refine VS.z (g1.size) [15] (.p 0 (.p 1 (.p 2 (.p 3 (.q 4 (.p 5 (.p 6 (.p 7 (.p 8 (.q 9 (.p 10 (.p 11 (.p 12 (.p 13 (.p 14 (.w 15 .nil)))))))))))))))) mixed zI ?_;simp only[go_sem,a2,UE,b8,ga,br,bw];have V:Kp (fun t=>t=.world) o g1 o (ao g1 wb (an (Jv (fun j=>if j=i then w.YP i+1 else w.YP j) XY).toArray 92)):=(Kp.refl k1.YG (fun t=>t=.world)).set z.wd.Yb.1 rfl _;exact⟨o,XY,(Y9 k1).trans (Y9 V),z.Zhr V (by rintro t rfl;rfl) ⟨⟨z.wd.Yb.1,Yp z.wd.Yb.2⟩,z.wd.Za.Zh V zK,z.wd.b.Zh V zK,z.wd.ZH.Zh V zK⟩⟩
 rw[if_neg zK];have b9:hc g1 ⟨Y6 i,11,al⟩=ae a.ZF:=P1.ZF;simp only[go_sem,e1,hz];let⟨J,hJ⟩:=ZO (PH n.ZF x);refine VS.mono (N:=fun s g'=>Zm g1.size g1 g'/\s 0=ak (ae ⟨wb,0,al⟩)/\s 1=ak (ae ⟨Y6 i,0,al⟩)/\s 6=ak (ae ⟨g.size,0,al⟩)/\s 8=U O J) ?_ ?_ (fun _ _ _ h=>h) (fun _ _ h=>h)
 .refine VS.z (g1.size) [5] (.p 0 (.p 1 (.p 2 (.q 3 (.q 4 (.w 5 (.p 6 .nil))))))) mixed zI ?_;simp only[go_sem,b9,r6,UE,l6];refine (E8 T g1 _ n.ZF x N1.pt.ZF.ts uh).use ?_;rintro _ c ⟨rfl,b2⟩;simp only[go_sem,b2,hJ]
 rintro F2 c ⟨b2,y,f1,r,f8⟩;have NH:=Z9 k1.YG b2;have A2:=z.Zt NH;have N2:=N1.Zt NH;have y6:=x6.Zh NH;have K2:Kp WL o h o c:=k1.trans NH;have P2:=ZU N2.Yb.2 N2.pt.store.len;have xW:=P2.me;rw[C6]at xW;have UP:=Zb N2.Yb.2;have bW:=Zb A2.wd.Yb.2;have b0:rd c ⟨g.size,0,al⟩ 5=ae x.C:=ZB y6.2 rfl;have bq:=Zb y6.2;clear r6 l6 UE b8 br bw P1 a2 b9 e1;by_cases hm:x∈n.ZF
 .have a1:0<=J:=by rw[hJ];exact (Ii _ _).2 hm
  rw[if_pos hm];have call:=fun G=>sL T G n.store N2.pt.store x;have bS:rd c ⟨Y6 i,12,al⟩ 40=ae n.store:=P2.store;let⟨D,b3⟩:=ZO (ML n.store x);let⟨E2,bG⟩:=ZO (VO n.store x);let⟨c1,TZ⟩:=ZO (UA n.store x);let⟨Z,ax⟩:=ZO (VR n.store x);have hD:=N2.pt.store.do x
  rw[<-b3]at hD;rw[<-b3,<-bG,<-TZ,<-ax]at call;rw[<-TZ,<-ax];have Gz:=hD.len;have nO:=hD.one;unfold Rc at call;have Cj:=Yf (zs:=XE) (vs:=D) (by rw[Gz];rfl);unfold XE at Cj;simp only[rep,List.cons_append,bd]at Cj;have wA:∀(G:Hp) (k:Nat),G[k]? = ae (an (aI XE) 57)->wr G ⟨k,0,al⟩ D=ae (ao G k (an (aI D) 57)):=fun G k hx=>by
   rw[Yr hx 0 D,Yf (by rw[Gz];rfl),if_pos ⟨by rw[Gz];simp[XE,rep],nO⟩]
  have wB:∀(G:Hp) (k:Nat),G[k]? = ae (an [U O 0,U O 0].toArray 48)->wr G ⟨k,0,al⟩ [U O c1,U O Z]=ae (ao G k (an [U O c1,U O Z].toArray 48)):=fun G k hx=>by
   rw[Yr hx 0 _];rfl
  have gl:∀(G:Hp) (X Y:Obj),((G.push X).push Y)[G.size]? = ae X:=fun G X Y=>by grind
  have gs:∀(G:Hp) (k:Nat) (X Y:Obj),((ao G k X).push Y)[G.size]? = ae Y:=fun G k X Y=>by
   grind
  have bT:=gs;have gr:∀(G:Hp) (X Y:Obj),((G.push X).push Y)[G.size+1]? = ae Y:=fun G X Y=>by
   grind
  simp only[go_sem,f8,a1];refine VS.mono (N:=fun s g'=>Zm c.size c g'/\s 0=ak (ae ⟨wb,0,al⟩)/\s 1=ak (ae ⟨Y6 i,0,al⟩)/\s 6=ak (ae ⟨g.size,0,al⟩)/\∃B,s 10=ak (ae ⟨B,0,al⟩)/\c.size<=B/\g'[B]? = ae (an [U O c1,U O Z].toArray 48)) ?_ ?_ (fun _ _ _ h=>h) (fun _ _ h=>h)
  .refine VS.z (c.size) [5,12,13] (.p 0 (.p 1 (.p 2 (.q 3 (.q 4 (.or 5 (.p 6 (.p 7 (.p 8 (.p 9 (.or 10 (.s 11 (.w 12 (.w 13 (.p 14 .nil)))) (.s 11 (.s 10 (.w 12 (.w 13 (.p 14 .nil)))))))))) (.or 10 (.or 5 (.p 6 (.p 7 (.p 8 (.p 9 (.s 11 (.w 12 (.w 13 (.p 14 .nil)))))))) (.s 11 (.w 5 (.p 6 (.p 7 (.p 8 (.p 9 (.w 12 (.w 13 (.p 14 .nil)))))))))) (.s 11 (.or 5 (.p 6 (.p 7 (.p 8 (.p 9 (.s 10 (.w 12 (.w 13 (.p 14 .nil)))))))) (.s 10 (.w 5 (.p 6 (.p 7 (.p 8 (.p 9 (.w 12 (.w 13 (.p 14 .nil)))))))))))))))))) mixed zI ?_;simp only[go_sem,y,f1,r,bS,UP,bq,b0]
   repeat' (first|with_reducible exact Zm.refl _ _|with_reducible exact Zm.push uh _|with_reducible refine And.intro ?_ ?_)
   all_goals first
    | (refine (call c).use ?_
       rintro _ p ⟨rfl,f⟩;have F:=f.size;simp only[go_sem,f,Gz,nO,Cj];refine⟨⟨y,f1,r,_,rfl,uh,gr _ _ _⟩,⟨y,f1,r,_,rfl,F,gl _ _ _⟩⟩)
    | (refine (call (c.push (an _ 57))).use ?_
       rintro _ p ⟨rfl,f⟩;have F:=f.size;rw[aF]at F;have B5:Zm c.size c p:=(Zm.push (aq _) _).trans (f.mono zX);have R:=f.get (k:=c.size) zX Zf;have OL:=wA _ _ R;have zA:=Zb R;simp only[go_sem,B5,Gz,nO,OL,zA];exact⟨y,f1,r,_,rfl,uh,gs _ _ _ _⟩)
    | (refine (call (c.push (an _ 48))).use ?_
       rintro _ p ⟨rfl,f⟩;have F:=f.size;rw[aF]at F;have B5:Zm c.size c p:=(Zm.push (aq _) _).trans (f.mono zX);have M:=f.get (k:=c.size) zX Zf;have De:=wB _ _ M;have L:=Zb M;have gB:=Yp (o:=an [U O c1,U O Z].toArray 48) M;simp only[go_sem,B5,Gz,nO,De,Cj,L];exact⟨y,f1,r,_,rfl,aq _,by rw[ZX (by simpa using L)];exact gB⟩)
    | (refine (call ((c.push (an _ 57)).push (an _ 48))).use ?_
       rintro _ p ⟨rfl,f⟩;have F:=f.size;rw[aF,aF]at F;have B5:Zm c.size c p:=((Zm.push (aq _) _).Xj zX _).trans (f.mono Fo);have R:=f.get (k:=c.size) Fo (gl _ _ _);have M:=f.get (k:=c.size+1) zX (gr _ _ _);have OL:=wA _ _ R;have zA:=Zb R;have Hg:=(Xt (o:=an (aI D) 57) (show c.size≠c.size+1 by omega)).trans M;have De:=wB _ _ Hg;have L:=Zb Hg;simp only[go_sem,B5,Gz,nO,OL,zA,De,L];exact⟨y,f1,r,_,rfl,uh,Yp Hg⟩)
    | (refine (call ((c.push (an _ 48)).push (an _ 57))).use ?_
       rintro _ p ⟨rfl,f⟩;have F:=f.size;rw[aF,aF]at F;have B5:Zm c.size c p:=((Zm.push (aq _) _).Xj zX _).trans (f.mono Fo);have M:=f.get (k:=c.size) Fo (gl _ _ _);have R:=f.get (k:=c.size+1) zX (gr _ _ _);have OL:=wA _ _ R;have zA:=Zb R;have Hg:=(Xt (o:=an (aI D) 57) (show c.size+1≠c.size by omega)).trans M;have De:=wB _ _ Hg;have L:=Zb Hg;simp only[go_sem,B5,Gz,nO,OL,zA,De,L];exact⟨y,f1,r,_,rfl,uh,Yp Hg⟩)
  clear y f1 r f8;rintro F5 p ⟨f,y,f1,r,B,f10,hB,yB⟩;have Ap:=Z9 K2.YG f;have A5:=A2.Zt Ap;have N5:=N2.Zt Ap;have z6:=y6.Zh Ap;have K5:Kp WL o h o p:=K2.trans Ap;have M:Yo o p B (an [U O c1,U O Z].toArray 48):=⟨K2.YG _ hB,yB⟩
  have bN:=(ZU N5.Yb.2 N5.pt.store.len).me;have Ly:=Zb N5.Yb.2;have U5:=Je A5.wd.Yb.2;have oy:=Zb A5.wd.Yb.2;have bl:hc p ⟨g.size,1,al⟩=ae (U O x.c):=Zr z6.2;have bb:hc p ⟨g.size,2,al⟩=ae (U O x.s):=Zr z6.2;have rB:rd p ⟨B,0,al⟩ 2=ae [U O c1,U O Z]:=ZB yB rfl;have zx:=Zb z6.2;have L:=Zb yB;refine VS.z (p.size) [17,21] (.p 0 (.p 1 (.p 2 (.p 3 (.p 4 (.q 5 (.p 6 (.p 7 (.p 8 (.q 9 (.p 10 (.q 11 (.p 12 (.q 13 (.q 14 (.p 15 (.s 16 (.w 17 (.p 18 (.p 19 (.p 20 (.w 21 .nil)))))))))))))))))))))) mixed zI ?_;simp only[go_sem,y,f1,r,f10,U5.ZH,bN,bl,bb,rB,Ly,oy,zx,L];have H:=YK K5.YG (an (NE ⟨n.me,x.c,x.s,c1,Z⟩).toArray 50);have A6:=A5.Zt H;refine Gy (l:=w.ZH) (x:=⟨n.me,x.c,x.s,c1,Z⟩) A6.wd.ZH H.YG Zf ht ?_;intro p7 c7 o7 g7 q7 k7;have b7:=A6.wd.Yb.Zh k7 zK;let⟨g8,w8,W8,k8⟩:=A6.wd.sO k7 q7 ((Je b7.2).Zje (Q p7 _ c7) rfl);have z7:=Zb b7.2;simp only[go_sem,w8,z7];have A8:=A6.Zhr (S:=fun t=>t=.ZH\/t=.world) ((k7.mono fun t q=>.inl q).trans (k8.mono fun t q=>.inr q)) (by rintro t (rfl|rfl)<;>rfl) W8;exact⟨o7,_,(((Y9 K5).trans (Y9 H)).trans (Y9 k7)).trans (Y9 k8),A8⟩
 .have a1:¬0<=J:=by rw[hJ];exact fun e=>hm ((Ii _ _).1 e)
  rw[if_neg hm];have ca:=ZcX T c o wb i (Y6 i) a n x K2.YG N2 hq hl;unfold ZC Rc at ca;simp only[go_sem,f1,r,f8,a1,b0];refine ca.use ?_;rintro v3 W ⟨o3,a3,k3,N3⟩;have bt:Kp (J8 i) o c o3 W:=k3.mono Zdm;let⟨aw,am⟩:=add_same n x;let⟨m,gH⟩:=ZO (add n x);rw[<-gH]at N3 aw am ⊢;have W3:=A2.wd.Zh k3 aab;have z6:=y6.Zh k3;have P3:=ZU N3.Yb.2 N3.pt.store.len;have bR:hc W ⟨Y6 i,53,al⟩=ae a3.e:=P3.e;have Lx:=Zb N3.Yb.2;have bn:rd W ⟨g.size,0,al⟩ 5=ae x.C:=ZB z6.2 rfl;have bp:=Zb z6.2;have bE:m.e.length<=1000000000000:=by rw[aw];exact uk
  have K3:Kp RM o h o3 W:=(Y9 K2).trans (Y9 k3);simp only[go_sem];refine VS.mono (N:=fun s g'=>Zm W.size W g'/\s 1=ak (ae ⟨Y6 i,0,al⟩)/\s 6=ak (ae ⟨g.size,0,al⟩)/\s 92=aC (!decide (x∈m.e))) ?_ ?_ (fun _ _ _ h=>h) (fun _ _ h=>h)
  .refine VS.z (W.size) [5] (.p 0 (.p 1 (.p 2 (.q 3 (.q 4 (.w 5 (.p 6 .nil))))))) mixed zI ?_;simp only[go_sem,f1,r,bR,bn,Lx,bp];refine (RJ T W _ m.e x N3.pt.e.ts uh).use ?_;rintro _ g4 ⟨rfl,b4⟩;simp only[go_sem,b4]
   grind
  clear y f1 r;rintro F4 g4 ⟨b4,f1,r,f92⟩;have u:=Z9 K3.YG b4;have N4:=N3.Zt u;have W4:=W3.Zt u;have b1:Kp (J8 i) o c o3 g4:=bt.trans (Ya u);have K4:Kp RM o h o3 g4:=K3.trans (Y9 u);by_cases K:x∈m.e
  .have e5:VT m x=m:=by unfold VT;rw[if_pos K]
   rw[e5];simp only[go_sem,f92,K];exact⟨o3,_,K4,A2.YO b1 N4 W4⟩
  .have e5:VT m x = { m with e:=m.e++[x] }:=by unfold VT;rw[if_neg K]
   rw[e5];have q6:=z6.Zh u;have a4:=(ZU N4.Yb.2 N4.pt.store.len).e;let⟨pw,cw,I,_⟩:=Xk.ZR N4.pt.e;have I:a3.e=Q pw m.e.length cw:=I;have a4:hc g4 ⟨Y6 i,53,al⟩=ae (Q pw m.e.length cw):=by rw[<-I];exact a4
   have Fl:=Zb N4.Yb.2;have r64:rd g4 ⟨g.size,0,al⟩ 5=ae x.C:=ZB q6.2 rfl;have bo:=Zb q6.2;simp only[go_sem,f92,K];refine VS.z (g4.size) [7,10] (.p 0 (.p 1 (.p 2 (.p 3 (.q 4 (.q 5 (.s 6 (.w 7 (.p 8 (.p 9 (.w 10 .nil))))))))))) mixed zI ?_;simp only[go_sem,f1,r,a4,r64,Fl,bo];have k5:=YK K4.YG (an (aI x.C) 43);have N5:=N4.Zt k5;have W5:=W4.Zt k5;have Q5:=N5.pt.e;rw[I]at Q5;refine He (l:=m.e) Q5 k5.YG Zf bE ?_;intro p6 c6 o6 g6 q7 H;have b6:=N5.Yb.Zh H zK;let⟨g7,w7,N7,k7⟩:=(N5.pt.Gu H q7).write H.YG b6 ((X4 b6.2 N5.pt.store.len).e (Q p6 (m.e.length+1) c6) rfl);have bK:=Zb b6.2;simp only[go_sem,w7,bK];have V:Kp (J8 i) o c o6 g7:=((b1.trans (Ya k5)).trans (H.mono fun t q=>.inr (.inr (.inr (by rw[q];rfl))))).trans (k7.mono fun t q=>.inr (.inr (.inr (by rw[q];rfl))));exact⟨o6,_,(Y9 K2).trans (Y9 V),A2.YO V N7 ((W5.Zh H HS).Zh k7 HS)⟩
def Hj(i:Nat)(t:Tg):Prop:=t=.ZM i\/t=.Zi i
theorem Dj(T:a7)(h:Hp)(o:Ow)(wb i:Nat)(E:aH)(c:List Nat)(XI:Int)(u:aH)(b:QT)(d:V3 o h)(z:Rb o h E c)(y:Ta o h u b.l):
  Zg a0 T 51 #[U O i,.agg #[E,U O XI],.agg #[U O b.p.r,U O b.p.n,u]] h fun I h'=>∃nb v R,I=ZC nb/\Zm h.size h h'/\Kp (Hj i) o h v h'/\Yg v h' wb i nb R (ZZ i true c XI b):=by
 obtain⟨e,g,rfl⟩:=z.1.ZR;obtain⟨pv,f,rfl⟩:=y.ZR;refine Zg.X8 [_,_,_] Tryz.func51 ?_;unfold ZC;let⟨a,F⟩:=ZO ((h.push (an [Q e (aa c) g,U O XI].toArray 95)).push (an [U O b.p.r,U O b.p.n,Q pv (aa b.l) f].toArray 100):Hp);have k:Kp WL o h o a:=by rw[F];exact ((Kp.refl d _).push _).push _
 have H:Yo o a h.size (an [Q e (aa c) g,U O XI].toArray 95):=⟨d _ (aq _),zK⟩
 have G:Yo o a (h.size+1) (an [U O b.p.r,U O b.p.n,Q pv (aa b.l) f].toArray 100):=⟨d _ uh,zK⟩
 have P:=F.symm;have K:rd a ⟨h.size,0,al⟩ 2=ae [Q e (aa c) g,U O XI]:=ZB H.2 rfl;have J:rd a ⟨h.size+1,0,al⟩ 3=ae [U O b.p.r,U O b.p.n,Q pv (aa b.l) f]:=ZB G.2 rfl;simp only[go_sem,P,K,J];obtain⟨A,B⟩:∃A:NA,A=⟨Q e (aa c) g,Q pv (aa b.l) f,al,a.size,Q al 0 0,Q al 0 0,Q al 0 0,Q al 0 0,.nilFunc⟩:=⟨_,rfl⟩
 let⟨j,m⟩:=ZO (a.push (JO []):Hp);let⟨l,q⟩:=ZO (j.push (Jl (ZZ i true c XI b) A):Hp);have V:j.size=a.size+1:=by rw[m];simp
 have D:l=(a.push (.map #[] 0)).push (Jl (ZZ i true c XI b) A):=by rw[q,m];rfl
 rw[B]at D;refine⟨a.size+1,Up (Up o a.size (.Zi i)) (a.size+1) (.ZM i),A,rfl,?_⟩;have w:Kp (Hj i) o a (Up o a.size (.Zi i)) j:=by rw[m];exact ((Kp.refl k.YG _).push _).Nj (aq _) zX (.inr rfl)
 have p:Kp (Hj i) o a (Up (Up o a.size (.Zi i)) (a.size+1) (.ZM i)) l:=by rw[q];exact (w.push _).Nj uh zK (.inl rfl)
 have M:Kp (fun t=>t=.ZM i) (Up o a.size (.Zi i)) j (Up (Up o a.size (.Zi i)) (a.size+1) (.ZM i)) l:=by rw[q];exact ((Kp.refl w.YG _).push _).Nj uh zK rfl
 have L:Wx (Up o a.size (.Zi i)) (.Zi i) j a.size (T6 Rc []):=⟨Jh,by rw[m];exact Zf⟩
 have s:=(z.Zh k).Zh p;have r:=(y.Zh k).Zh p;have S:Kp (Hj i) o h (Up (Up o a.size (.Zi i)) (a.size+1) (.ZM i)) l:=(Ya k).trans p;have st:Ig XE:=Ig.ZcZ zI;show Zm h.size h ((a.push (.map #[] 0)).push (Jl (ZZ i true c XI b) ⟨Q e (aa c) g,Q pv (aa b.l) f,al,a.size,Q al 0 0,Q al 0 0,Q al 0 0,Q al 0 0,.nilFunc⟩))/\Kp (Hj i) o h _ ((a.push (.map #[] 0)).push (Jl (ZZ i true c XI b) ⟨Q e (aa c) g,Q pv (aa b.l) f,al,a.size,Q al 0 0,Q al 0 0,Q al 0 0,Q al 0 0,.nilFunc⟩))/\Yg _ ((a.push (.map #[] 0)).push (Jl (ZZ i true c XI b) ⟨Q e (aa c) g,Q pv (aa b.l) f,al,a.size,Q al 0 0,Q al 0 0,Q al 0 0,Q al 0 0,.nilFunc⟩)) wb i (a.size+1) A (ZZ i true c XI b);rw[<-D];refine⟨by grind [Zm.add,Zm.refl],S,⟨Jh,zK⟩,?_⟩;rw[B];exact⟨s,r,trivial,L.Zh M zK,Xk.nil _ _ _ _ _,Xk.nil _ _ _ _ _,Xk.nil _ _ _ _ _,⟨[],rfl,Xk.nil _ _ _ _ _,fun x N=>by cases N⟩,rfl,st⟩
theorem iO{S:Tg->Prop}{a:Ow}{h':Hp}(k:Kp S o h a h'){b:Nat}{t u:Tg}(hb:a b=ae t)(l:S t)(g:S u):Kp S o h (Up a b u) h':=by
 refine⟨k.size,fun c hc d=>⟨(k.Zh c hc d).1,?_⟩,fun c hc v f j=>?_,fun c hc v f=>?_,fun c hc=>?_⟩
 .by_cases e:c=b
  .subst e;have:=(k.Zh c hc d).2
   grind
  .rw[Jn e];exact (k.Zh c hc d).2
 .by_cases e:c=b
  .subst e;exact⟨u,Jh,g⟩
  .rw[Jn e];exact k.stay c hc v f j
 .grind [Jh,Kp.new,Jn]
 grind [Kp.YG,Jn]
def Dk(i:Nat)(t:Tg):Prop:=t=.Zc i\/t=.c i\/t=.XM i
theorem yc{nb:Nat}{a:NA}(d:V3 o h)(N:Yg o h wb i nb a n):
  ∃m,Kp (Dk i) o h m h/\Yx m h wb i nb { a with Zc:=al } { n with Zc:=al,Zo:=XM n.Zo }/\m nb=ae (.ZM i):=by
 have key:∀m,Kp (Dk i) o h m h->VU m h wb i nb al a.Zo (XM n.Zo)->Yx m h wb i nb { a with Zc:=al } { n with Zc:=al,Zo:=XM n.Zo }:=fun m k p=>
  ⟨N.pt.data.Zh k,N.pt.c.Zh k,trivial,N.pt.Zi.Zh k (by rintro (e|e|e)<;>cases e),N.pt.ZF.Zh k (by rintro (e|e|e)<;>cases e),N.pt.ZD.Zh k (by rintro (e|e|e)<;>cases e),N.pt.e.Zh k (by rintro (e|e|e)<;>cases e),N.pt.Zd.Zh k (by rintro (e|e|e)<;>cases e),p,N.pt.store⟩
 have g:=N.pt.Zo;have j:=N.pt.Zc
 cases A:a.Zc with
 | none=>
  rw[A]at g;refine⟨o,Kp.refl d _,key o (Kp.refl d _) ?_,N.Yb.1⟩
  match hn:n.Zo,g with
  | none,g=>exact g
  | some (.QB _ _ _ _),g=>exact g
  | some (.Us _ _ _),g=>exact g
  | some (.Zn _ _ false),g=>exact g
  | some (.Zn _ _ true),⟨b6,b4,b7,b5,w,rb,t,s,h3,h4,h5,h6,M,h7,_⟩=>cases h7
 | some c=>
  rw[A]at g j;obtain⟨r,hr⟩:∃r,n.Zc=ae r:=by
   cases I:n.Zc with
   | none=>rw[I]at j;exact j.elim
   | some r=>grind
  rw[hr]at j;have j:X1 o i h c r:=j;have z:c.rb≠c.pb:=fun e=>by
   have t:=j.Yb.1;have s:=j.c.1
   grind
  have H:Kp (Dk i) o h (Up o c.rb (.XM i)) h:=iO (Kp.refl d (Dk i)) j.Yb.1 (.inl rfl) (.inr (.inr rfl));have R:Up o c.rb (.XM i) c.pb=ae (.c i):=by rw[Jn (fun e=>z e.symm)];exact j.c.1
  have f:Kp (Dk i) o h (Up (Up o c.rb (.XM i)) c.pb (.XM i)) h:=iO H R (.inr (.inl rfl)) (.inr (.inr rfl));let⟨q,l⟩:=ZO (Up (Up o c.rb (.XM i)) c.pb (.XM i));rw[<-l]at f;have E:q c.rb=ae (.XM i):=by rw[l,Jn z];exact Jh
  have D:q c.pb=ae (.XM i):=by rw[l];exact Jh
  have B:∀b,b≠c.rb->b≠c.pb->q b=o b:=fun b L K=>by rw[l,Jn K,Jn L]
  have v:∀b,o b=ae (.XM i)->q b=ae (.XM i):=fun b hb=>by
   grind
  have P:q nb=ae (.ZM i):=by
   rw[B nb (fun e=>by have:=N.Yb.1;rw[e,j.Yb.1]at this;cases this) (fun e=>by have:=N.Yb.1;rw[e,j.c.1]at this;cases this)];exact N.Yb.1
  refine⟨q,f,key q f ?_,P⟩
  match hn:n.Zo,g with
  | none,g=>exact g
  | some (.QB a to b vs),⟨b6,b4,b9,u,t,s,h3,h4,h5⟩=>exact⟨b6,b4,b9,u,t,s.Zh f,h3.Zh f,h4.Zh f,h5.Zh f⟩
  | some (.Us a to x),⟨b6,b4,b9,u,t,s,h3,h4,h5⟩=>exact⟨b6,b4,b9,u,t,s.Zh f,h3.Zh f,h4.Zh f,h5.Zh f⟩
  | some (.Zn a vs cur),⟨b6,b4,b7,b5,w,rb,t,s,h3,h4,h5,h6,h7⟩=>
   refine⟨b6,b4,b7,b5,w,rb,t,s.Zh f,h3.Zh f,h4.Zh f,h5.Zh f,h6.Zh f,?_⟩;rw[if_neg zX]
   cases cur with
   | false=>
    rw[if_neg zX]at h7;let⟨cs,pb,pv,g1,J,y⟩:=h7;exact⟨cs,pb,pv,⟨v _ g1.1,g1.2⟩,J,v _ y.1,y.2⟩
   | true=>
    rw[if_pos rfl]at h7;let⟨M,G,F⟩:=h7;obtain rfl:=aag G;rw[<-F];exact⟨_,c.pb,c.pv,⟨E,j.Yb.2⟩,rfl,D,j.c.2⟩
theorem Zhv{nb:Nat}{a:Option RA}{v:aH}{p:Option OT}(s:VU o h wb i nb al v (XM p)):VU o h wb i nb a v (XM p):=by
 match p,s with
 | none,s=>exact s
 | some (.QB _ _ _ _),s=>exact s
 | some (.Us _ _ _),s=>exact s
 | some (.Zn _ _ _),s=>exact s
theorem Zhw(T:a7)(h:Hp)(o:Ow)(wb i nb:Nat)(a:NA)(n:Nd)(d:V3 o h)(N:Yg o h wb i nb a n)(hb:n.Zn.p.r<=1000000000000/\n.Yy.r<=1000000000000 /\ -1000000000000<=n.Zn.p.r /\ -1000000000000<=n.Yy.r)(hr:∀r,n.Zc=ae r->r.b.r<=1000000000000 /\ -1000000000000<=r.b.r):
  Zg a0 T 53 #[ZC wb,ZC nb] h fun v' h'=>∃o' a',Kp (fun t=>t.of=ae i) o h o' h'/\Yg o' h' wb i nb a' (lead n):=by
 refine Zg.Fr (args:=#[_,_]) Tryz.func53 rfl rfl rfl ?_;let⟨M,hM⟩:=ZO (max n.Zn.p.r n.Yy.r+1);refine VS.seq (VS.mono (N:=fun R g'=>R 1=ak (ae ⟨nb,0,al⟩)/\Zm h.size h g'/\∃v,h.size<=v/\R 4=ak (ae ⟨v,0,al⟩)/\g'[v]? = ae (an [U O M,U O n.me].toArray 97)) ?_ ?_ (fun _ _ _ h=>h) (fun _ _ h=>h))
 .refine QX _ _ _ _ _ _ rfl ?_;unfold ZC;have P:=ZU N.Yb.2 N.pt.store.len;have T4:=Zb N.Yb.2;simp only[go_sem];refine VS.z (h.size) [19] (.p 0 (.p 1 (.p 2 (.p 3 (.p 4 (.q 5 (.p 6 (.p 7 (.p 8 (.p 9 (.q 10 (.p 11 (.p 12 (.p 13 (.p 14 (.p 15 (.q 16 (.p 17 (.s 18 (.w 19 .nil)))))))))))))))))))) mixed zI ?_;simp only[go_sem,P.Zzg,P.Zlg,P.me,T4]
  grind
 rintro F1 g1 ⟨f1,b1,v,a2,L,A⟩;refine VS.seq (VS.mono (N:=fun R g'=>R 1=ak (ae ⟨nb,0,al⟩)/\R 4=ak (ae ⟨v,0,al⟩)/\Zm h.size h g'/\g'[v]? = ae (an [U O (Yl n).r,U O n.me].toArray 97)) ?_ ?_ (fun _ _ _ h=>h) (fun _ _ h=>h))
 .refine QX _ _ _ _ _ _ rfl ?_;have k1:=Z9 d b1;have V:=N.Zt k1;have P1:=ZU V.Yb.2 V.pt.store.len;have k:=P1.Zc;have UE:=Zb V.Yb.2;have l4:=Zb A;have r4:hc g1 ⟨v,0,al⟩=ae (U O M):=Zr A
  cases z:a.Zc with
  | none=>
   rw[z]at k;unfold Lw at k;have K:n.Zc=al:=by
    have:=N.pt.Zc;rw[z]at this
    cases hx:n.Zc with
    | none=>rfl
    | some r=>rw[hx]at this;exact this.elim
   have E:(Yl n).r=M:=by unfold Yl;rw[K,hM]
   rw[E];simp only[go_sem,f1,k]
   grind
  | some u=>
   rw[z]at k;unfold Lw ZC at k;obtain⟨r,K⟩:∃r,n.Zc=ae r:=by
    have:=N.pt.Zc;rw[z]at this
    cases hx:n.Zc with
    | none=>rw[hx]at this;exact this.elim
    | some r=>grind
   have R1:X1 o i g1 u r:=by have:=V.pt.Zc;rw[z,K]at this;exact this
   have j2:=Zb R1.Yb.2;have Y:hc g1 ⟨u.rb,0,al⟩=ae (U O r.b.r):=Zr R1.Yb.2;have E:(Yl n).r=max M (r.b.r+1):=by unfold Yl;rw[K,hM]
   let⟨LX,a4⟩:=hr r K;let⟨Z,hZ⟩:=ZO ((Yl n).r);have hz:(if r.b.r+1>M then r.b.r+1 else M)=Z:=by
    rw[hZ,E];split<;>omega
   rw[<-hZ];have w4:Uf g1 ⟨v,0,al⟩ (U O Z)=ae (ao g1 v (an [U O Z,U O n.me].toArray 97)):=by rw[XZ A 0 _];rfl
   simp only[go_sem,f1,k];refine VS.z (g1.size) [10] (.p 0 (.q 1 (.p 2 (.p 3 (.p 4 (.p 5 (.q 6 (.p 7 (.p 8 (.p 9 (.w 10 .nil))))))))))) mixed zI ?_;simp only[go_sem,f1,L,k,r4,Y,j2,l4,hz,w4];exact⟨b1.ZA a2 _,Yp A⟩
 clear f1 L A b1;rintro F3 f ⟨f1,L,b3,A⟩;refine QX _ _ _ _ _ _ rfl ?_;have J:=Z9 d b3;have G:=N.Zt J;have P3:=ZU G.Yb.2 G.pt.store.len;have y:=P3.up;have Lx:=Zb G.Yb.2;have l4:=Zb A;have H:hc f ⟨v,0,al⟩=ae (U O (Yl n).r):=Zr A
 cases hu:n.up with
 | false=>
  rw[hu]at y;have E:lead n=n:=by unfold lead;rw[if_pos (.inl hu)]
  rw[E];simp only[go_sem,f1,y];exact⟨o,a,Ya J,G⟩
 | true=>
 rw[hu]at y;by_cases c:65536<(Yl n).r
 .have E:lead n=n:=by unfold lead;rw[if_pos (.inr c)]
  rw[E];have c':(Yl n).r>65536:=c;simp only[go_sem,f1,L,y,H,c,c'];exact⟨o,a,Ya J,G⟩
 have E:lead n = { n with Zc:=ae ⟨Yl n,[],false,[],[]⟩,Zo:=XM n.Zo }:=by
  unfold lead;rw[if_neg];rintro (e|e)
  .grind
  .exact c e
 rw[E];have c':¬(Yl n).r>65536:=c;have r4:rd f ⟨v,0,al⟩ 2=ae [U O (Yl n).r,U O n.me]:=ZB A rfl;let⟨S,k2,g,UP⟩:=yc J.YG G;obtain⟨u,z⟩:∃u:RA,u=⟨f.size+3,f.size,f.size+1,f.size+2,[],[]⟩:=⟨_,rfl⟩
 obtain⟨r,D⟩:∃r:XR,r=⟨Yl n,[],false,[],[]⟩:=⟨_,rfl⟩
 let⟨p1,W⟩:=ZO (f.push (JO []):Hp);let⟨p2,w⟩:=ZO (p1.push (JO []):Hp);let⟨p3,l⟩:=ZO (p2.push (JO []):Hp);let⟨m,j⟩:=ZO (p3.push (an (nM r u).toArray 163):Hp);have s1:p1.size=f.size+1:=by rw[W];simp
 have s2:p2.size=f.size+2:=by rw[w,aF,s1]
 have s3:p3.size=f.size+3:=by rw[l,aF,s2]
 have s4:m.size=f.size+4:=by rw[j,aF,s3]
 have q1:m[f.size]? = ae (JO []):=by rw[j,ZX uh,l,ZX uh,w,ZX uh,W];exact Zf
 have q2:m[f.size+1]? = ae (JO []):=by rw[j,ZX uh,l,ZX uh,w,<-s1];exact Zf
 have q3:m[f.size+2]? = ae (JO []):=by rw[j,ZX uh,l,<-s2];exact Zf
 have q4:m[f.size+3]? = ae (an (nM r u).toArray 163):=by rw[j,<-s3];exact Zf
 have kp:Kp (Ql i) S f S m:=by rw[j,l,w,W];exact ((((Kp.refl k2.YG _).push _).push _).push _).push _
 have ka:=kp.Nj (b:=f.size) (t:=.c i) (aq _) uh (.inr (.inl rfl));have I:=ka.Nj (b:=f.size+1) (t:=.ZQ i) uh uh (.inr (.inr (.inl rfl)));have kc:=I.Nj (b:=f.size+2) (t:=.Xc i) uh uh (.inr (.inr (.inr (.inl rfl))));have p:=kc.Nj (b:=f.size+3) (t:=.Zc i) uh uh (.inl rfl);let⟨B,x⟩:=ZO (Up (Up (Up (Up S f.size (.c i)) (f.size+1) (.ZQ i)) (f.size+2) (.Xc i)) (f.size+3) (.Zc i));rw[<-x]at p;clear ka I kc kp;have t1:B f.size=ae (.c i):=by rw[x,Jn uh,Jn uh,Jn uh];exact Jh
 have t2:B (f.size+1)=ae (.ZQ i):=by rw[x,Jn uh,Jn uh];exact Jh
 have t3:B (f.size+2)=ae (.Xc i):=by rw[x,Jn uh];exact Jh
 have t4:B (f.size+3)=ae (.Zc i):=by rw[x];exact Jh
 have R5:X1 B i m u r:=by
  rw[z,D];rw[z,D]at q4;exact⟨⟨t4,q4⟩,⟨t1,q1⟩,.nil,⟨t2,q2⟩,⟨t3,q3⟩,.nil,zX⟩
 have F:∀t:Tg,(t=.Zi i\/t=.ZF i\/t=.ZD i\/t=.e i\/t=.Zd i\/t=.XM i\/t=.ZM i)->¬Ql i t:=by
  intro t ht hr;rcases ht with rfl|rfl|rfl|rfl|rfl|rfl|rfl<;>rcases hr with e|e|e|e|⟨s,e⟩<;>cases e
 have pn:VU B m wb i nb (ae u) a.Zo (XM n.Zo):=Zhv (g.Zo.Zh p (F _ zX));have a1:Yx B m wb i nb { a with Zc:=ae u } { n with Zc:=ae r,Zo:=XM n.Zo }:=
  ⟨g.data.Zh p,g.c.Zh p,R5,g.Zi.Zh p (F _ zX),g.ZF.Zh p (F _ zX),g.ZD.Zh p (F _ zX),g.e.Zh p (F _ zX),g.Zd.Zh p (F _ zX),pn,g.store⟩
 have B5:Ve B (.ZM i) m nb (Jl n a):=Ve.Zh (o:=S) ⟨UP,G.Yb.2⟩ p (F _ zX);let⟨g6,w6,N6,k6⟩:=Yx.write a1 p.YG B5 ((X4 B5.2 N.pt.store.len).Zc (ae u));have Ly:=Zb B5.2;have ee:m=(((f.push (.map #[] 0)).push (.map #[] 0)).push (.map #[] 0)).push (an #[U O (Yl n).r,U O n.me,.map (ae f.size),aC false,.map (ae (f.size+1)),.map (ae (f.size+2))] 163):=by
  rw[j,l,w,W,z,D];rfl
 have X:Uf m ⟨nb,9,al⟩ (ak (ae ⟨f.size+3,0,al⟩))=ae g6:=by rw[<-w6,z];rfl
 have a3:=ee.symm;rw[D]at N6;simp only[go_sem,f1,L,y,H,c,c',r4,a3,X,Ly];refine⟨B,_,((Ya J).trans (k2.mono fun t q=>?_)).trans ((p.mono fun t q=>Hd q).trans (k6.mono fun t q=>by rw[q];rfl)),N6⟩;rcases q with rfl|rfl|rfl<;>rfl
theorem ZlF{l:List Nat}{a r:QT}{k j:Nat}(h:Rec l a k r j):∀f,(aa l)+1<=k+f->E6 l f a k=(r,j):=by
 induction h with
 | stop e=>
  grind [E6.eq_def]
 | @go a c r k k' j e _ b=>
  grind [Xp,aW,E6.eq_def]
theorem Mu{l:List Nat}{r:QT}{k:Nat}(h:Rec l Qj 0 r k):Sj l=(r,k):=ZlF h _ uh
theorem Av{Y6:Nat->Nat}{XY:WA}{fl:List Yt}{YP:Nat->Int}{ZH:List PC}(d:V3 o h)(W:Z0 o h wb Y6 XY fl YP ZH)(i nb:Nat)(hi:i<5):
  ∃b off c g,XY.Za=Q (ae ⟨b,off,al⟩) 5 c/\Uf h ⟨b,off+i,al⟩ (ZC nb)=ae g/\Kp (fun t=>t=.Za) o h o g/\Z0 o g wb (fun j=>if j=i then nb else Y6 j) XY fl YP ZH:=by
 rcases hw:W.Za with⟨_,e,_⟩|⟨b,off,cap,pre,ZT,g1,l,q,k,r,p,m⟩
 .cases e
 have f:Uf h ⟨b,off+i,al⟩ (ZC nb)=ae (ao h b (an (pre++([ZC (Y6 0),ZC (Y6 1),ZC (Y6 2),ZC (Y6 3),ZC (Y6 4)].set i (ZC nb)++ZT)).toArray 93)):=by
  rw[XZ q,if_pos ⟨zK,rfl⟩];rw[<-k,List.set_append_right _ _ uh,aV,List.set_append_left _ _ zK]
 have a:Kp (fun t=>t=.Za) o h o (ao h b (an (pre++([ZC (Y6 0),ZC (Y6 1),ZC (Y6 2),ZC (Y6 3),ZC (Y6 4)].set i (ZC nb)++ZT)).toArray 93)):=(Kp.refl d (fun t=>t=.Za)).set g1 rfl _;refine⟨b,off,cap,_,l,f,a,W.Yb.Zh a zK,?_,W.b.Zh a zK,W.ZH.Zh a zK⟩;refine .inr ⟨b,off,cap,pre,ZT,g1,l,?_,k,rfl,p,m⟩
 grind
def Ob(k n a b:Int)(d:aH):List aH:=[U O k,U O n,U O a,U O b,d]
structure WOk(w:Wd):Prop where
 me:∀i,i<5->(w.Za i).me=i
 step:∀i,i<5->oq (w.Za i) w.b.length w.ZH.length
 ZD:∀i,i<5->(w.Za i).ZD.length<=100000000000
 ZF:∀i,i<5->(w.Za i).ZF.length<=100000000000
 e:∀i,i<5->(w.Za i).e.length<=100000000000
 Zd:∀i,i<5->(w.Za i).Zd.length<=100000000000
 data:∀i,i<5->(w.Za i).data.length<=1000000
 ZH:w.ZH.length<=100000000000
 YP:∀i,i<5->0<=w.YP i/\w.YP i<=1000000000000
 ZAj:∀i,i<5->(w.Za i).Zn.p.r<=1000000000000/\(w.Za i).Yy.r<=1000000000000 /\ -1000000000000<=(w.Za i).Zn.p.r /\ -1000000000000<=(w.Za i).Yy.r
 Rd:∀i,i<5->∀r,(w.Za i).Zc=ae r->r.b.r<=1000000000000 /\ -1000000000000<=r.b.r
 to:∀l∈w.b,0<=l.to/\l.to<5
 room:w.b.length<=100000000000
theorem Q4.fresh{c:Ow}{h':Hp}{Y6:Nat->Nat}{XY:WA}{w:Wd}{nb:Nat}{a:NA}(A:Q4 o h wb Y6 XY w)(k:Kp (fun t=>t=.Za\/t.of=ae i) o h c h')(N:Yg c h' wb i nb a n)(W:Z0 c h' wb (fun j=>if j=i then nb else Y6 j) XY w.b w.YP w.ZH):Q4 c h' wb (fun j=>if j=i then nb else Y6 j) XY (w.set i n):=by
 refine⟨W,fun j d=>?_⟩;by_cases e:j=i
 .grind [Wd.set]
 .let⟨b,M⟩:=A.nd j d;refine⟨b,?_⟩
  grind [Wd.set,Yg.Zh,Tg.of]
theorem iP(w:Wd)(i:Nat):w.set i (w.Za i)=w:=by
 unfold Wd.set;have:(fun j=>if j=i then w.Za i else w.Za j)=w.Za:=by
  funext j;split
  .grind
  .rfl
 rw[this]
theorem Dl{h':Hp}{p:Option Addr}{c:Nat}{L:List Nat}(d:V3 o h')(hb:Bs h' (Q p (aa L) c) L)(hc:(aa L)<=c)(a:∀b,Yq (Q p (aa L) c)=ae b->o b=al/\b<h'.size):Rb o h' (Q p (aa L) c) L:=
 ⟨⟨hb.sl,⟨p,c,rfl,hc⟩,fun b q=>⟨(a b q).2,(a b q).1⟩⟩,hb.byte⟩
theorem iQ{v:aH}{l:List Nat}{k:Nat}(d:V3 o h)(s:Rb o h v l)(j:k<h.size)(f:∀b,Yq v=ae b->b≠k)(x:Obj):Rb o (ao h k x) v l:=by
 have g:V3 (Up o k Tg.Za) h:=fun b hb=>by rw[Jn uh];exact d b hb
 have c:Rb (Up o k Tg.Za) h v l:=⟨⟨s.1.sl,s.1.fits,fun b hb=>⟨(s.1.free b hb).1,by rw[Jn (f b hb)];exact (s.1.free b hb).2⟩⟩,s.2⟩
 have e:Kp (fun t=>t=Tg.Za) (Up o k Tg.Za) h (Up o k Tg.Za) (ao h k x):=(Kp.refl g (fun t=>t=Tg.Za)).set Jh rfl x;have a:=c.Zh e;exact⟨⟨a.1.sl,a.1.fits,fun b hb=>⟨(a.1.free b hb).1,(s.1.free b hb).2⟩⟩,a.2⟩
theorem oC(i:Nat)(n:Nd)(k:Int)(L:List Nat)(Z E:Int)(a:n.up=true)(h:Nr n.data n.XI k=(L,Z,E)):Y4 i n k = { ZZ i true L Z Qj with up:=false }:=by
 unfold Y4;rw[if_pos a];unfold Nr at h
 grind [Xo,ZZ,Tw,QZ]
theorem oE(w:Wd)(l:Yt)(i:Nat):((XN w l).Za i).Zd.length<=(w.Za i).Zd.length+1:=by
 grind [XN,Wd.set]
theorem iR(i:Nat):∀(ls:List Yt) (w:Wd),((ls.foldl XN w).Za i).Zd.length<=(w.Za i).Zd.length+(aa ls):=by
 intro ls
 induction ls with
 | nil=>intro w;simp
 | cons l ls a=>
  grind [oE]
def Sn(l:List Vt):Prop:=(∀x∈l,Yz x)/\l.Pairwise (fun a b=>a.Zx<b.Zx)
structure Dm(a:QT):Prop where
 bal:Zv a.p\/(a.p.r=0/\a.p.n=0)
 Xc:Sn a.l
def Il(b:ZN):Prop:=0<=b.r/\b.r<=65536
theorem oF:∀(l:List Vt) (a:Int),l.Pairwise (fun a b=>a.Zx<b.Zx)->(∀x∈l,a<=x.Zx/\x.Zx<=39)->a<=40->((aa l):Int)<=40-a:=by
 intro l
 induction l with
 | nil=>grind
 | cons x l e=>
  intro a d c g;rw[bc]at d;have j:=c x zX;have:=e (x.Zx+1) d.2 (fun y f=>⟨zK,(c y (by simp[f])).2⟩) uh
  grind
theorem Sn.len{l:List Vt}(h:Sn l):(aa l)<=40:=by
 have:=oF l 0 h.2 (fun x a=>⟨(h.1 x a).1.1,(h.1 x a).1.2⟩) uh;omega
theorem Sn.nil:Sn []:=⟨fun x a=>by (cases a),.nil⟩
theorem Sn.ins{l:List Vt}(h:Sn l){v:Vt}(c:Yz v):Sn (Jq l v):=by
 unfold Jq;refine⟨fun x a=>?_,?_⟩
 .rcases bf.1 a with a|a
  .exact h.1 x (bg.1 a).1
  .rcases List.mem_cons.1 a with rfl|a
   .exact c
   .exact h.1 x (bg.1 a).1
 .rw[List.pairwise_append,bc];refine⟨h.2.sublist ba,⟨fun y b=>by grind,h.2.sublist ba⟩,fun x a y b=>?_⟩
  grind
theorem Dm.zero:Dm Qj:=⟨.inr ⟨rfl,rfl⟩,Sn.nil⟩
theorem Zv.I{b:ZN}(h:Zv b):Il b:=⟨by have:=h.1.1;omega,h.1.2⟩
theorem Dm.ye{a:QT}(h:Dm a):Il a.p:=by
 grind [Il,Dm.bal,Zv.I]
structure Qt(C:List Cm)(l:Yt):Prop where
 a:0<=l.a/\l.a<=7
 c:0<=l.c/\l.c<5
 to:0<=l.to/\l.to<5
 b:Il l.b
 Zx:0<=l.v.Zx/\l.v.Zx<40
 vs:Sn l.vs
 cmd:l.a=4->l.v.cm∈C
def TC{β:Type}(m:Int)(l:List (Int × β)):Prop:=(l.map (·.1)).Nodup/\∀x∈l.map (·.1),0<=x/\x<m
theorem TC.nil{β:Type}(m:Int):TC m ([]:List (Int × β)):=⟨zX,fun x a=>by (cases a)⟩
theorem TC.ins{β:Type}{m:Int}{l:List (Int × β)}(h:TC m l){k:Int}(a:0<=k/\k<m)(v:β):TC m (ins l k v):=by
 grind [TC,iB]
theorem yf:∀(m:Nat) (l:List Int),l.Nodup->(∀x∈l,0<=x/\x<(m:Int))->(aa l)<=m:=by
 intro m
 induction m with
 | zero=>
  intro l _ h
  cases l with
  | nil=>simp
  | cons x l=>have:=h x zX;omega
 | succ m a=>
  intro l b h;have d:=a (l.erase (m:Int)) (b.erase _) (fun x c=>by
   grind)
  grind
theorem TC.len{β:Type}{m:Nat}{l:List (Int × β)}(h:TC (m:Int) l):(aa l)<=m:=by
 have:=yf m _ h.1 h.2
 grind
structure PO(r:XR):Prop where
 b:Il r.b
 c:TC 5 r.c
 vs:∀x∈r.c,Sn x.2
 f:∀x∈r.Xc,TC 5 x.2
def ZlG:OT->Prop
 | .QB a to b vs=>Dm a/\(0<=to/\to<5)/\Il b/\Sn vs
 | .Us a to v=>Dm a/\(0<=to/\to<5)/\Yz v
 | .Zn a vs _=>Dm a/\Sn vs
structure JZ(C:List Cm)(i:Nat)(n:Nd):Prop where
 me:n.me=i
 YO:0<=n.YO/\n.YO<5
 Zn:Dm n.Zn
 Yy:Il n.Yy
 Zo:∀p,n.Zo=ae p->ZlG p
 Zc:∀r,n.Zc=ae r->PO r
 Zi:TC 40 n.Zi
 ZF:∀j,j<n.ZF.length->(YF n.Zi (j:Int)).isSome=true
 ZD:n.ZD.Nodup/\∀x∈n.ZD,x∈C
 data:(aa n.data)<=100000
theorem JZ.LA(h:JZ C i n):n.ZF.length<=40:=by
 have c:=Db n.Zi 0 n.ZF.length (fun j a=>by simpa using h.ZF j a);have b:=h.Zi.len (m:=40);omega
theorem PP{p:ZN}{l:List Vt}{b:ZN}(h:YX p l b=0):Zv b:=by
 unfold YX at h
 grind
theorem Hk{p:ZN}{l:List Vt}{x:Vt}(h:Xw p l x=0):Yz x:=by
 unfold Xw at h
 grind
theorem In{l:List Nat}{n:Int}{b:ZN}(h:JS l n b=0):(aa l)+14<=100000:=by
 unfold JS at h
 grind [Qz]
theorem iS{l:List Nat}{n:Int}{x:Vt}(h:QS l n x=0):(aa l)+38<=100000:=by
 unfold QS at h
 grind [Qz]
theorem Ov(b:ZN):(Xm (QA b)).length=14:=by rw[VN];rfl
theorem cj(x:Vt):(Xm (WJ x)).length=38:=by rw[VN];rfl
structure RN(C:List Cm)(i:Nat)(n:Nd)(o:Out):Prop where
 nd:JZ C i o.n
 ls:∀l∈o.ls,Qt C l
 ig:(aa o.ls)<=1
 ts:(aa o.ts)+o.n.e.length<=n.e.length
theorem RN.same(h:JZ C i n):RN C i n ⟨n,[],[]⟩:=⟨h,(fun l a=>by cases a),zX,zX⟩
theorem RN.one(h:JZ C i n){l:Yt}(b:Qt C l):RN C i n ⟨n,[l],[]⟩:=⟨h,fun x a=>by
 grind,zX,zX⟩
theorem oI{l:Yt}(hi:i<5)(h:JZ C i n)(a:Qt C l):RN C i n (Y3 n l):=by
 have f:0<=(n.me:Int)/\(n.me:Int)<5:=by rw[h.me];omega
 have d:0<=Ps.Zx/\Ps.Zx<40:=HE;unfold Y3;by_cases c:YX n.Zn.p n.Zn.l l.b≠0
 .rw[if_pos c];exact RN.one h ⟨zX,f,a.c,h.Zn.ye,d,Sn.nil,fun e=>by cases e⟩
 rw[if_neg c];have hb:Zv l.b:=PP (by simpa using c);by_cases g:n.Zn.p=l.b
 .rw[if_pos g];exact RN.one h ⟨zX,f,a.c,a.b,d,h.Zn.Xc,fun e=>by cases e⟩
 rw[if_neg g];by_cases b:JS n.data n.XI l.b≠0
 .rw[if_pos b];exact RN.same h
 rw[if_neg b];have m:=In (by simpa using b);refine⟨{ h with Zo:=?_,data:=?_ },(fun x j=>by cases j),zX,zX⟩
 .intro p k;obtain rfl:=aag k;exact⟨⟨.inl hb,h.Zn.Xc⟩,a.c,hb.I,h.Zn.Xc⟩
 grind [Ov]
theorem Zhy{l:Yt}(hi:i<5)(h:JZ C i n)(a:Qt C l):RN C i n (asked n l):=by
 have f:0<=(n.me:Int)/\(n.me:Int)<5:=by rw[h.me];omega
 have j:0<=Ps.Zx/\Ps.Zx<40:=HE;unfold asked;by_cases d:Xw n.Zn.p n.Zn.l l.v≠0
 .rw[if_pos d];exact RN.one h ⟨zX,f,a.c,h.Zn.ye,j,Sn.nil,fun e=>by cases e⟩
 rw[if_neg d];have b:Yz l.v:=Hk (by simpa using d);by_cases g:l.v∈n.Zn.l
 .rw[if_pos g];exact RN.one h ⟨zX,f,a.c,by unfold Il Y2;simp,a.Zx,Sn.nil,fun e=>by cases e⟩
 rw[if_neg g];by_cases c:QS n.data n.XI l.v≠0
 .rw[if_pos c];exact RN.same h
 rw[if_neg c];have q:=iS (by simpa using c);refine⟨{ h with Zo:=?_,data:=?_ },(fun x k=>by cases k),zX,zX⟩
 .intro p m;obtain rfl:=aag m;exact⟨⟨.inl b.2.1,h.Zn.Xc.ins b⟩,a.c,b⟩
 grind [cj]
theorem Zdn{x:Cm}(h:JZ C i n)(a:YF n.Zi (n.ZF.length:Int)=ae x):JZ C i (XF n x)/\(Si n x).length+(XF n x).e.length<=n.e.length:=by
 refine⟨{ h with ZF:=?_,ZD:=?_ },?_⟩
 .grind [XF,JZ.ZF]
 .grind [XF,JZ.ZD]
 grind [Si,XF]
theorem yg:∀(k:Nat) (n:Nd),JZ C i n->JZ C i (YA k n).1/\(YA k n).2.length+(YA k n).1.e.length<=n.e.length:=by
 intro k
 induction k with
 | zero=>intro n h;exact⟨h,by simp[YA]⟩
 | succ k a=>
  grind [YA.eq_def,Zdn]
theorem tj(h:JZ C i n)(s:Int)(x:Cm)(a:0<=s/\s<40):RN C i n (Jj n s x):=by
 have e:JZ C i (X6 n s x):={ h with
  Zi:=h.Zi.ins a x
  ZF:=fun j f=>by
   grind [X6,XQ,JZ.ZF] }
 let⟨d,c⟩:=yg ((X6 n s x).Zi.length+1) (X6 n s x) e;exact⟨d,(fun l b=>by cases b),by simp[Jj],c⟩
theorem Do{β:Type}:∀{l:List (Int × β)} {k:Int} {v:β} {x:Int × β},x∈ins l k v->x.2=v\/x∈l:=by
 intro l
 induction l with
 | nil=>
  grind [ins]
 | cons y l a=>
  grind [ins.eq_def]
theorem oJ{l:Yt}(hi:i<5)(h:JZ C i n)(b:Qt C l):RN C i n (YI n l):=by
 unfold YI
 cases hr:n.Zc with
 | none=>exact RN.same h
 | some r=>
  have R:=h.Zc r hr;have e:∀r',(Vc n r l).Zc=ae r'->PO r':=by
   intro r' c;obtain rfl:=aag c;refine⟨R.b,R.c,R.vs,fun x a=>?_⟩;rcases Do a with q|q
   .rw[q];unfold UB;refine TC.ins ?_ b.c ()
    cases f:YF r.Xc l.v.Zx with
    | none=>exact TC.nil 5
    | some s=>exact R.f _ (SP f)
   .exact R.f x q
  have d:JZ C i (Vc n r l):={ h with Zc:=e }
  simp only;split
  .split
   .refine⟨{ h with Zc:=fun r' c=>?_ },(fun x a=>by cases a),zX,by simp[C0]⟩;obtain rfl:=aag c;refine⟨R.b,R.c.ins b.c l.vs,fun x a=>?_,R.f⟩
    grind [Do,Qt.vs,PO.vs]
   .exact RN.same h
  .split
   .exact RN.same h
   .split
    .have:=tj d l.v.Zx l.v.cm b.Zx;exact⟨this.nd,this.ls,this.ig,this.ts⟩
    .exact⟨d,(fun x a=>by cases a),zX,by simp[Vc]⟩
theorem Zjo{x:Cm}(h:JZ C i n)(b:x∈C):JZ C i (add n x):=by
 unfold add;split
 .exact h
 .rename_i q;refine { h with ZD:=⟨?_,fun y a=>?_⟩ }
  .grind [JZ.ZD]
  grind [JZ.ZD]
theorem tp{l:Yt}(h:JZ C i n)(a:Qt C l):JZ C i (XL n l):=by
 unfold XL;split
 .exact { h with Yy:=a.b }
 .exact h
theorem Zhz{l:Yt}(hi:i<5)(h:JZ C i n)(b:Qt C l):RN C i n (Q3 n l):=by
 have d:0<=(n.me:Int)/\(n.me:Int)<5:=by rw[h.me];omega
 have c:=tp h b;have hw:(XL n l).e=n.e:=by unfold XL;split<;>rfl
 unfold Q3;split
 .next y _=>
  refine⟨c,fun x a=>?_,zX,by simp[hw]⟩;have:x=⟨6,n.me,l.c,Y2,Qb l.v.Zx Y2 y,[]⟩:=by simpa using a
  rw[this];exact⟨zX,d,b.c,by unfold Il Y2;simp,b.Zx,Sn.nil,fun e=>by cases e⟩
 .exact⟨c,(fun x a=>by cases a),zX,by simp[hw]⟩
theorem NJ{l:Yt}(hi:i<5)(h:JZ C i n)(a:Qt C l):RN C i n (Zy n l):=by
 have hw:(XL n l).e=n.e:=by unfold XL;split<;>rfl
 unfold Zy;split
 .exact oI hi h a
 split
 .exact oJ hi h a
 split
 .exact Zhy hi h a
 split
 .rename_i e;refine⟨Zjo h (a.cmd e),(fun x b=>by cases b),zX,?_⟩
  grind [add]
 split
 .exact Zhz hi h a
 split
 .exact tj h _ _ a.Zx
 .exact⟨tp h a,(fun x b=>by cases b),zX,by simp[hw]⟩
theorem JZ.Zd(h:JZ C i n)(k:List Yt):JZ C i { n with Zd:=k }:={ h with }
theorem tq(hi:i<5):∀(k:List Yt) (n:Nd),JZ C i n->(∀l∈k,Qt C l) ->
  JZ C i (Zw n k).n/\(∀l∈(Zw n k).ls,Qt C l)/\(∀l∈(Zw n k).n.Zd,Qt C l)/\(Zw n k).ls.length+(Zw n k).n.Zd.length<=(aa k)/\(Zw n k).ts.length+(Zw n k).n.e.length<=n.e.length:=by
 intro k
 induction k with
 | nil=>
  grind [Zw.eq_def,JZ.Zd]
 | cons l k c=>
  intro n h a;unfold Zw;split
  .grind [JZ.Zd]
  .have o:=NJ hi (h.Zd k) (a l zX);let⟨m,j,g,f,e⟩:=c _ o.nd (fun x d=>a x (by simp[d]));have b:=o.ts
   grind [RN.ig,RN.ls]
theorem Mw:∀{l C:List Cm},l.Nodup->(∀x∈l,x∈C)->(aa l)<=(aa C):=by
 intro l
 induction l with
 | nil=>grind
 | cons x l b=>
  intro C a c;rw[List.nodup_cons]at a;have e:=c x zX;have f:=b (C:=C.erase x) a.2 (fun y d=>by
   grind)
  grind
theorem JZ.hand{l:Yt}(h:JZ C i n)(a:Qt C l)(hC:(aa C)<=100000)(hw:n.e.length<=100000){f t:Nat}(g:f<=100000000000)(d:t<=1000000):om n l f t:=by
 have j:=h.LA;have b:=h.Zi.len (m:=40);have e:n.ZD.length<=(aa C):=Mw h.ZD.1 h.ZD.2;refine⟨a.a,uh,by have:=h.Zn.Xc.len;omega,by have:=h.data;omega,uh,uh,uh,uh,uh,fun r s hr=>?_⟩
 cases c:YF r.Xc s with
 | none=>simp
 | some x=>
  have:=(h.Zc r hr).f _ (SP c);have:(aa x)<=5:=this.len (m:=5)
  grind
theorem JZ.dut(h:JZ C i n)(hC:(aa C)<=100000){f:Nat}(e:f<=100000000000):Zdi n f:=by
 have g:=h.LA;have c:n.ZD.length<=(aa C):=Mw h.ZD.1 h.ZD.2;refine⟨uh,by have:=h.Zn.Xc.len;omega,by have:=h.data;omega,fun r hr=>?_,uh,uh,h.YO⟩;have R:=h.Zc r hr;have d:r.c.length<=5:=R.c.len (m:=5);refine⟨fun x a=>by have:=(R.vs x a).len;omega,fun x a v b=>?_,uh⟩;have:=((R.vs x a).1 v b).1.2;omega
theorem Zdo(hi:i<5)(hC:(aa C)<=100000):∀(k:List Yt) (n:Nd),JZ C i n->(∀l∈k,Qt C l)->n.e.length<=100000->∀f t,f+(aa k)<=100000000000->t+n.e.length<=1000000->Mt n k f t:=by
 intro k
 induction k with
 | nil=>intro n _ _ _ f t _ _;exact trivial
 | cons l k c=>
  intro n h b hw f t g j;simp only[List.length_cons]at g;unfold Mt;by_cases e:n.Zo.isSome=true
  .exact .inl e
  .have o:=NJ hi (h.Zd k) (b l zX);have a:=o.ts;have of:=o.ig;have:({ n with Zd:=k }:Nd).e=n.e:=rfl;rw[this]at a;exact .inr ⟨(h.Zd k).hand (b l zX) hC hw uh uh,c _ o.nd (fun x d=>b x (by simp[d])) uh _ _ uh uh⟩
theorem Zdp(hi:i<5)(hC:(aa C)<=100000)(h:JZ C i n)(a:∀l∈n.Zd,Qt C l)(hw:n.e.length<=100000){f t:Nat}(c:f+n.Zd.length<=100000000000)(b:t+n.e.length<=1000000):oq n f t:=by
 let⟨d,k,j,g,e⟩:=tq hi n.Zd n h a;exact⟨by have:=h.data;omega,uh,fun _=>Zdo hi hC n.Zd n h a hw f t c b,fun _ _=>d.dut hC uh⟩
theorem ZhA{r:XR}{x:Cm}(R:PO r):PO (Qk n r x):=by
 unfold Qk;split
 .exact⟨R.b,R.c,R.vs,R.f⟩
 .exact R
theorem yh:∀(l:List Cm) (r:XR),PO r->PO (XS n r l):=by
 intro l
 induction l with
 | nil=>intro r R;exact R
 | cons x l a=>intro r R;exact a _ (ZhA R)
theorem ZhB{r:XR}(R:PO r):PO (Xs n r):=by
 unfold Xs;refine yh _ _ ?_;split
 .exact R
 .exact⟨R.b,R.c,R.vs,R.f⟩
theorem cy:Il Y2:=by unfold Il Y2;simp
theorem ZlH{r:XR}(hi:i<5)(h:JZ C i n)(R:PO r):JZ C i (Jc n r).n/\(∀l∈(Jc n r).ls,Qt C l)/\(Jc n r).n.Zd=n.Zd/\(Jc n r).n.e=n.e:=by
 have d:0<=(n.me:Int)/\(n.me:Int)<5:=by rw[h.me];omega
 have f:0<=Ps.Zx/\Ps.Zx<40:=HE;unfold Jc;split
 .split
  .grind
  .rename_i b;have b:=In (by simpa using b);refine⟨{ h with Zo:=?_,data:=?_ },(fun x g=>by cases g),rfl,rfl⟩
   .intro p j;obtain rfl:=aag j;by_cases c:YX n.Zn.p n.Zn.l r.b=0
    .simp only[c,if_true];exact⟨⟨.inl (PP c),h.Zn.Xc⟩,h.Zn.Xc⟩
    grind [ZlG,Dm.zero,Sn.nil]
   grind [Ov]
 .split
  .refine⟨h,fun l a=>?_,rfl,rfl⟩;unfold Te at a;simp only[a6,a9]at a;obtain⟨m,k,a⟩:=a;split at a
   .have:l=⟨0,n.me,m,r.b,Ps,[]⟩:=by simpa using a
    rw[this];exact⟨zX,d,zK,R.b,f,Sn.nil,fun e=>by cases e⟩
   .cases a
  .refine⟨{ h with Zc:=fun r' q=>?_ },fun l a=>?_,rfl,rfl⟩
   .obtain rfl:=aag q;exact ZhB R
   .unfold US at a;simp only[a6,a9]at a;obtain⟨s,t,a⟩:=a;unfold Wc at a;split at a
    .split at a
     .simp only[a6,a9]at a;obtain⟨m,k,a⟩:=a;unfold SC at a;split at a
      .next x _ _ _=>
       have:l=⟨2,n.me,m,Y2,Qb s (Xs n r).b x,[]⟩:=by simpa using a
       rw[this];exact⟨zX,d,zK,cy,by simp only[Qb];omega,Sn.nil,fun e=>by cases e⟩
      .cases a
     .cases a
    .cases a
theorem cC(h:JZ C i n):JZ C i (Zt n)/\(Zt n).Zd=n.Zd/\(Zt n).e=n.e:=by
 unfold Zt;split
 .split
  .exact⟨{ h with Zc:=fun r hr=>by cases hr },rfl,rfl⟩
  grind
 grind
theorem ZhC(hi:i<5)(h:JZ C i n):JZ C i (Yj n).n/\(∀l∈(Yj n).ls,Qt C l)/\(Yj n).n.Zd=n.Zd/\(Yj n).n.e=n.e:=by
 have c:0<=(n.me:Int)/\(n.me:Int)<5:=by rw[h.me];omega
 unfold Yj;split
 .next r hr=>exact ZlH hi h (h.Zc r hr)
 .split
  .rename_i q;refine⟨h,fun l a=>?_,rfl,rfl⟩;unfold WT at a;simp only[List.mem_map]at a;obtain⟨x,b,rfl⟩:=a;have hb:Zv n.Zn.p:=by
    rcases h.Zn.bal with e|e
    .exact e
    .grind
   exact⟨zX,c,by simp only;have:=hb.2;omega,cy,by simp[Qb],Sn.nil,fun _=>h.ZD.2 x b⟩
  grind
theorem ZhD(h:JZ C i n):Il (Wv n):=by
 grind [Wv,Dm.ye,JZ.Zn,JZ.Yy]
theorem oK(hi:i<5)(hC:(aa C)<=100000)(h:JZ C i n):JZ C i (YH n).n/\(∀l∈(YH n).ls,Qt C l)/\(YH n).n.Zd=n.Zd/\(YH n).n.e=n.e/\(YH n).ls.length<=100201/\(YH n).ts=[]:=by
 let⟨c,g,f⟩:=cC h;let⟨s,r,p,m⟩:=ZhC hi c;have t:(Zt n).ZD.length<=(aa C):=Mw c.ZD.1 c.ZD.2;have j:=iL (Zt n);unfold YH;split
 .grind [Lz]
 .have d:0<=((Yj (Zt n)).n.YO+1)%5/\((Yj (Zt n)).n.YO+1)%5<5:=uh;have b:JZ C i (JT (Yj (Zt n)).n):={ s with YO:=d }
  have k:0<=((JT (Yj (Zt n)).n).me:Int)/\((JT (Yj (Zt n)).n).me:Int)<5:=by rw[b.me];omega
  refine⟨b,fun l a=>?_,by show (Yj (Zt n)).n.Zd=_;rw[p,g],by show (Yj (Zt n)).n.e=_;rw[m,f],?_,rfl⟩
  .rcases bf.1 a with a|a
   .exact r l a
   .unfold Wi at a;split at a
    .rename_i q;have:l=⟨5,(JT (Yj (Zt n)).n).me,(JT (Yj (Zt n)).n).YO,Wv (JT (Yj (Zt n)).n),Qb (JT (Yj (Zt n)).n).ZF.length Y2 Ag,[]⟩:=by simpa using a
     rw[this];exact⟨zX,k,b.YO,ZhD b,by simp only[Qb];grind,Sn.nil,fun e=>by cases e⟩
    .cases a
  grind [Wi]
theorem Dp(h:JZ C i n):JZ C i (ZE n):=by
 refine { h with Zo:=(fun p a=>by cases a),data:=?_ }
 grind [ZE,JZ.data]
theorem Dq{p:OT}(hi:i<5)(h:JZ C i n)(P:ZlG p):JZ C i (Yc n p).n/\(∀l∈(Yc n p).ls,Qt C l)/\(Yc n p).n.Zd=n.Zd/\(Yc n p).n.e=n.e/\(Yc n p).ls.length<=1/\(Yc n p).ts=[]:=by
 have j:0<=(n.me:Int)/\(n.me:Int)<5:=by rw[h.me];omega
 have m:0<=Ps.Zx/\Ps.Zx<40:=HE
 cases p with
 | QB a to b vs=>
  let⟨p1,d,f,s⟩:=P;refine⟨{ h with Zn:=p1 },fun l g=>?_,rfl,rfl,by simp[Yc],rfl⟩;have:l=⟨1,n.me,to,b,Ps,vs⟩:=by simpa [Yc] using g
  rw[this];exact⟨zX,j,d,f,m,s,fun e=>by cases e⟩
 | Us a to v=>
  let⟨p1,d,f⟩:=P;refine⟨{ h with Zn:=p1 },fun l g=>?_,rfl,rfl,by simp[Yc],rfl⟩;have:l=⟨3,n.me,to,Y2,v,[]⟩:=by simpa [Yc] using g
  rw[this];exact⟨zX,j,d,cy,by have:=f.1;grind,Sn.nil,fun e=>by cases e⟩
 | Zn a vs cur=>
  let⟨p1,d⟩:=P;refine⟨{ h with Zn:=p1,Zc:=fun r hr=>?_ },(fun x k=>by cases k),rfl,rfl,by simp[Yc],rfl⟩;have hr:(if cur=true then n.Zc.map (fun r=>{ r with c:=ins r.c n.me vs }) else n.Zc)=ae r:=hr;split at hr
  .rw[aW]at hr;obtain⟨q,t,rfl⟩:=hr;have R:=h.Zc q t;refine⟨R.b,R.c.ins j vs,fun x k=>?_,R.f⟩
   grind [Do,PO.vs]
  .exact h.Zc r hr
theorem ZlI(hi:i<5)(hC:(aa C)<=100000)(h:JZ C i n)(a:∀l∈n.Zd,Qt C l):
  JZ C i (step n).n/\(∀l∈(step n).ls,Qt C l)/\(∀l∈(step n).n.Zd,Qt C l)/\(step n).ls.length+(step n).n.Zd.length<=n.Zd.length+100201/\(step n).ts.length+(step n).n.e.length<=n.e.length:=by
 unfold step
 grind [ZE,tq,oK,Dq,Dp,JZ.Zo]
theorem ZlJ{a e:QT}{b:List Nat}(h:J7 a b=ae e)(d:Dm a):Dm e:=by
 unfold J7 at h;split at h
 .split at h
  .rename_i q
   cases h
   exact⟨.inl (PP q),d.Xc⟩
  .cases h
 .split at h
  .split at h
   .cases h
   .split at h
    .rename_i q
     cases h
     have c:=Hk q;exact⟨.inl c.2.1,d.Xc.ins c⟩
    .cases h
  .cases h
theorem ZhE(l:List Nat):∀(f:Nat) (a:QT) (k:Nat),Dm a->Dm (E6 l f a k).1:=by
 intro f
 induction f with
 | zero=>intro a k h;exact h
 | succ f b=>
  grind [Xp,E6.eq_def,aW,ZlJ]
theorem Zdq(l:List Nat):Dm (Sj l).1:=ZhE l _ _ _ Dm.zero
theorem cD{up:Bool}{data:List Nat}{XI:Int}{Zn:QT}(e:(aa data)<=100000)(c:Dm Zn):JZ C i (ZZ i up data XI Zn):=
 ⟨rfl,by unfold ZZ;simp,c,cy,(fun p b=>by cases b),(fun r hr=>by cases hr),TC.nil 40,(fun j d=>by cases d),⟨by simp[ZZ],(fun x a=>by cases a)⟩,e⟩
theorem yi(h:JZ C i n)(Zh:Int):JZ C i (Y4 i n Zh)/\((Y4 i n Zh).Zd=[]/\(Y4 i n Zh).e=[]\/Y4 i n Zh=n):=by
 grind [Y4,ZZ,cD,Dm.zero,JZ.data]
theorem Aw(h:JZ C i n):JZ C i (started i n)/\((started i n).Zd=[]/\(started i n).e=[]\/started i n=n):=by
 grind [started,ZZ,Hc,cD,JZ.data,Dm.zero,Zdq]
theorem Zdr(h:JZ C i n):JZ C i (lead n)/\(lead n).Zd=n.Zd/\(lead n).e=n.e:=by
 unfold lead;split
 .grind
 .rename_i q;refine⟨{ h with Zo:=?_,Zc:=fun r hr=>?_ },rfl,rfl⟩
  .intro p c;have c:XM n.Zo=ae p:=c
   cases e:n.Zo with
   | none=>rw[e]at c;cases c
   | some p0=>
    have P:=h.Zo p0 e;rw[e]at c
    cases p0 with
    | QB a to b vs=>cases c;exact P
    | Us a to v=>cases c;exact P
    | Zn a vs cur=>cases c;exact P
  .obtain rfl:=aag hr;refine⟨⟨?_,?_⟩,TC.nil 5,(fun x d=>by cases d),(fun x d=>by cases d)⟩
   .have f:=h.Zn.ye.1
    grind [Yl]
   grind
def MM(f:Nat->Nat):Nat:=f 0+f 1+f 2+f 3+f 4
theorem Zds(f:Nat->Nat)(i a:Nat)(hi:i<5):MM (fun j=>if j=i then a else f j)+f i=MM f+a:=by
 grind [MM]
theorem tC(f:Nat->Nat)(i:Nat)(hi:i<5):f i<=MM f:=by
 grind [MM]
structure WI(C:List Cm)(k:Nat)(w:Wd):Prop where
 nd:∀i,i<5->JZ C i (w.Za i)
 JC:∀i,i<5->∀l∈(w.Za i).Zd,Qt C l
 WM:∀l∈w.b,Qt C l
 room:w.b.length+MM (fun i=>(w.Za i).Zd.length)<=k*100300
 wait:w.ZH.length+MM (fun i=>(w.Za i).e.length)<=k
 YP:∀i,0<=w.YP i/\w.YP i<=k
theorem iU(w:Wd)(i:Nat)(n:Nd)(g:Nd->Nat)(hi:i<5):MM (fun j=>g (if j=i then n else w.Za j))+g (w.Za i)=MM (fun j=>g (w.Za j))+g n:=by
 have:=Zds (fun j=>g (w.Za j)) i (g n) hi
 grind
theorem WI.out{k:Nat}{w:Wd}(h:WI C k w)(hi:i<5){o:Out}(g:JZ C i o.n)(f:∀l∈o.ls,Qt C l)(e:∀l∈o.n.Zd,Qt C l)(d:(aa o.ls)+o.n.Zd.length<=(w.Za i).Zd.length+100300)(c:(aa o.ts)+o.n.e.length<=(w.Za i).e.length+1):WI C (k+1) (w.out i o):=by
 unfold Wd.out;refine⟨fun j b=>?_,fun j b l a=>?_,fun l a=>?_,?_,?_,fun j=>by have:=h.YP j;grind⟩
 .grind [WI.nd]
 .grind [WI.JC]
 .grind [WI.WM]
 .have:=iU w i o.n (fun n=>n.Zd.length) hi;have hr:=h.room
  grind
 .have:=iU w i o.n (fun n=>n.e.length) hi;have hr:=h.wait
  grind
theorem Re(w:Wd)(i:Nat)(n:Nd):w.set i n=w.out i ⟨n,[],[]⟩:=by
 unfold Wd.set Wd.out;simp
theorem WI.more{k:Nat}{w:Wd}(h:WI C k w):WI C (k+1) w:=
 ⟨h.nd,h.JC,h.WM,Nat.le_trans h.room (Nat.mul_le_mul_right _ (Nat.le_succ k)),Nat.le_trans h.wait (Nat.le_succ k),fun i=>⟨(h.YP i).1,by have:=(h.YP i).2;omega⟩⟩
theorem WI.ok{k:Nat}{w:Wd}(h:WI C k w)(hC:(aa C)<=100000)(e:k<=100000):WOk w:=by
 have hr:=h.room;have hw:=h.wait;have f:∀i,i<5->(w.Za i).Zd.length+w.b.length<=10030000000:=fun i hi=>by
  grind [tC]
 have d:∀i,i<5->(w.Za i).e.length+w.ZH.length<=100000:=fun i hi=>by
  grind [tC]
 refine⟨fun i hi=>(h.nd i hi).me,fun i hi=>Zdp hi hC (h.nd i hi) (h.JC i hi) zK zK zK,fun i hi=>?_,fun i hi=>?_,fun i hi=>?_,fun i hi=>?_,fun i hi=>?_,?_,fun i hi=>?_,fun i hi=>?_,fun i hi r hr=>?_,fun l b=>(h.WM l b).to,?_⟩
 .have:=Mw (h.nd i hi).ZD.1 (h.nd i hi).ZD.2;omega
 .have:=(h.nd i hi).LA;omega
 .grind
 .grind
 .have:=(h.nd i hi).data;omega
 .grind
 .have:=h.YP i;omega
 .have a:=(h.nd i hi).Zn.ye;have c:=(h.nd i hi).Yy;unfold Il at a c;omega
 .have a:=((h.nd i hi).Zc r hr).b;unfold Il at a;omega
 grind
end Go.Proofs.YtkhkmpfenaipaaaGreatDoor
