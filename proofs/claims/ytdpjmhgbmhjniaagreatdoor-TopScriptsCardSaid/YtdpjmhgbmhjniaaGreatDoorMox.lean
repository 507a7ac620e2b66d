/- Part Mox. -/
import Derived.Test.YtdpjmhgbmhjniaaGreatDoorMoe
import Derived.Test.YtdpjmhgbmhjniaaGreatDoorChw
import Derived.Test.YtdpjmhgbmhjniaaGreatDoorOpn
open Go.Value renaming slice→Q,int→Z,pointer→ao,agg→az,bool→ba
open Go.IntKind renaming i64→J
open Go.Obj renaming cells→O
open Go.Proofs.Tryz renaming prog→aI
open List renaming length→am,append_nil→ay,map_cons→bc,length_append→bd,nodup_cons→bf,map→bg,getElem?_eq_getElem→bh,append_assoc→bp,nil_append→br,mem_cons→bw
open Nat renaming le_refl→av
open Option renaming isSome_none→a3,getD_some→a4,map_some→a5,isSome_some→a6,getD_none→a7,map_none→a9,some→U,none→al
open Array renaming size_push→a0,size_setIfInBounds→bk,getElem?_push→bo
open Bool renaming false_eq_true→a8
open And renaming intro→be
open Go renaming Value→aw,TypeId→bn
namespace Go.Proofs.YtdpjmhgbmhjniaaGreatDoor
open Go Go.V
set_option linter.all false
set_option maxRecDepth 100000
variable(T:World){h:Hp}{o:Ow}
theorem Uc.ts{t:Tg}{v:aw}{l:List Cm}(s:Uc o t h v l):Ts QA.C 5 h v l:=⟨YP.sl s⟩
theorem Mz{T:World}{K:aw->Hp->Prop}{ty:bn}{t:Tg}{v:aw}{l:List Cm}{x:Cm}{bx:Nat}{cb:Array Bool}(s:Uc o t h v l)(d:UO o h)(hb:h[bx]? = U (O x.C.toArray 43))(hr:(am l)<=1000000000000)(H:∀p c o' h',Uc o' t h' (Q p ((am l)+1) c) (l++[x])->Kp (fun u=>u=t) o h o' h'->K (Q p ((am l)+1) c) h'):
  Sa aI T .append #[35,35] ty cb [v,Q (U ⟨bx,0,al⟩) 1 1] K h:=by
 have src:Sl 5 h (Q (U ⟨bx,0,al⟩) 1 1) 1 x.C:=⟨_,1,rfl,rfl,fun _=>⟨bx,0,rfl,fun i hi=>by
  rw[Zg hb,YE,Nat.zero_add];exact bh hi⟩⟩
 refine JX (E:=43) (n:=5) (bytes:=40) (k:=1) Ce Tryz.underlying35 ZcA pI rfl ZgI s d src (sJ x) gX gX ?_;intro v' o' h' w k _;obtain⟨p,c,rfl,_⟩:=w.ZM;refine H p c o' h' ?_ k;unfold Uc;rw[YD,UL,bd];exact w
def ZdH(i:Nat)(t:Tg):Prop:=t=.Yf i\/t=.Zw i
theorem sO(h:Hp)(o:Ow)(wb i nb:Nat)(a:NA)(n:Nd)(x:Cm)(d:UO o h)(N:ZV o h wb i nb a n)(hq:n.Zw.length<=1000000000000)(hl:n.ZP.length<=1000000000000):
  Zc aI T 95 #[Zr nb,Vv x] h fun v' h'=>∃o' a',Kp (ZdH i) o h o' h'/\ZV o' h' wb i nb a' (add n x):=by
 have VZ:=Za N.ZQ.2;have R:=ZI N.ZQ.2 N.pt.store.len;refine Zc.Y8 [_,_] Tryz.func95 ?_;unfold Zr Vv;have e1:nb≠h.size:=gX;simp -implicitDefEqProofs only[go_sem];obtain⟨h1,YX⟩:=ZD (h.push (O x.C.toArray 43):Hp);have k1:Kp QC o h o h1:=by rw[YX];exact Yc d _
 have x1:ZY o h1 h.size (O x.C.toArray 43):=⟨d _ (av _),by rw[YX];exact Zb⟩
 rw[<-YX];have N1:=N.Zu k1;clear YX;have R1:=ZI N1.ZQ.2 N1.pt.store.len;have Qb:=Za N1.ZQ.2;have yv:=Za x1.2;have r1:rd h1 ⟨h.size,0,al⟩ 5=U x.C:=Zs x1.2 rfl;refine VS.z (h1.size) [13] (.p 0 (.p 1 (.p 2 (.q 3 (.q 4 (.s 5 (.p 6 (.p 7 (.p 8 (.p 9 (.p 10 (.q 11 (.q 12 (.w 13 (.p 14 (.p 15 .nil)))))))))))))))) mixed po ?_;simp -implicitDefEqProofs only[go_sem,R1.Zw,Qb,r1,yv];refine (VQ T h1 _ n.Zw x N1.pt.Zw.ts gX).use ?_;rintro _ h2 ⟨rfl,b2⟩;by_cases q1:x∈n.Zw
 .have e:add n x=n:=by unfold add;rw[if_pos (.inl q1)]
  simp -implicitDefEqProofs only[go_sem,q1,b2,e];exact⟨o,a,(ZR k1).Yb b2,N1.Zu (ZN k1.Ya b2)⟩
 simp -implicitDefEqProofs only[go_sem,q1,b2,R1.ZP,Qb,r1,yv];have k2:=ZN k1.Ya b2;refine (VQ T h2 _ n.ZP x (N1.Zu k2).pt.ZP.ts gX).use ?_;rintro _ h3 ⟨rfl,b3⟩;have sQ:Zf h1.size h1 h3:=b2.trans (b3.mono b2.size);have k3:=ZN k1.Ya sQ;by_cases q2:x∈n.ZP
 .have e:add n x=n:=by unfold add;rw[if_pos (.inr q2)]
  simp -implicitDefEqProofs only[go_sem,q2,sQ,e];exact⟨o,a,(ZR k1).Yb sQ,N1.Zu k3⟩
 have e:add n x = { n with Zw:=n.Zw++[x] }:=by unfold add;rw[if_neg (fun q=>q.elim q1 q2)]
 simp -implicitDefEqProofs only[go_sem,q2,sQ,e];have N3:=N1.Zu k3;have x3:=x1.Zd k3;have R3:=ZI N3.ZQ.2 N3.pt.store.len;have Ol:=Za N3.ZQ.2;have hs3:=Za x3.2;have r3:rd h3 ⟨h.size,0,al⟩ 5=U x.C:=Zs x3.2 rfl;refine VS.z (h3.size) [7,10] (.p 0 (.p 1 (.p 2 (.p 3 (.q 4 (.q 5 (.s 6 (.w 7 (.p 8 (.p 9 (.w 10 .nil))))))))))) mixed po ?_;simp -implicitDefEqProofs only[go_sem,R3.Zw,Ol,r3,hs3];have k4:=Yc k3.Ya (O x.C.toArray 43);have N4:=N3.Zu k4;refine Mz (l:=n.Zw) N4.pt.Zw k4.Ya Zb hq ?_;intro p c o5 h5 w5 k5;have b5:=N4.ZQ.Zd k5 MI;have W5:=Y7 b5.2 N4.pt.store.len;have w:=W5.Zw (Q p (n.Zw.length+1) c) rfl;simp -implicitDefEqProofs only[go_sem,w];exact⟨o5,_,(((ZR k1).Yb sQ).push _).trans (k5.mono fun u q=>.inr q) |>.set b5.1 (.inl rfl) _,(N4.pt.Fq k5 w5).put k5.Ya b5⟩
def Ud(i:Nat)(t:Tg):Prop:=t=.world\/t=.ZB\/t=.Yf i\/t=.Zp i\/t=.ZP i\/t=.Zw i\/t=.Zh i
theorem sR{β:Type}:∀(l:List (Int × β)) (ks:List Int),ks.Nodup->(∀k∈ks,(XD l k).isSome=true)->(am ks)<=(am l):=by
 intro l
 induction l with
 | nil=>
  intro ks _ h
  cases ks with
  | nil=>simp
  | cons k ks=>have:=h k Dq;simp[XD]at this
 | cons x l ih=>
  intro ks hn h;obtain⟨a,v⟩:=x;have h1:(ks.erase a).length<=(am l):=ih _ (hn.erase a) fun k hk=>by
   have PV:=(List.Nodup.mem_erase_iff hn).1 hk;have:=h k PV.2;unfold XD at this;rw[if_neg (fun e=>PV.1 e.symm)]at this;exact this
  have h2:(am ks)<=(ks.erase a).length+1:=by
   rw[List.length_erase];split<;>omega
  simp only[List.length_cons];omega
theorem Bv{β:Type}(l:List (Int × β))(a m:Nat)(h:∀j,j<m->(XD l ((a+j:Nat):Int)).isSome=true):m<=(am l):=by
 have:=sR l ((List.range m).map fun j=>((a+j:Nat):Int)) ?_ ?_
 .simpa using this
 .rw[List.nodup_iff_pairwise_ne,List.pairwise_map];exact (List.nodup_range (n:=m)).imp fun {x y} hxy he=>hxy gX
 .intro k hk;simp only[List.mem_map,List.mem_range]at hk;obtain⟨j,hj,rfl⟩:=hk;exact h j hj
theorem gv(h:Hp)(cs:List aw)(s:Nx cs)(x:Cm):Zc aI T 29 #[az cs.toArray,Vv x] h fun v' h'=>v'=.tuple #[az (EW cs x).toArray,az #[Z J (Oj cs x),Z J (I1 cs x)],Z J (Nt cs x)]/\Zf h.size h h':=by
 refine (bX T h cs x.k x.c x.s x.n x.v s.fit s.num s.yes).mono ?_;rintro v' h' ⟨H,b⟩;refine⟨?_,b⟩;rw[H];unfold doL EW Oj I1 Nt Tu;by_cases e:Le cs x.k x.c x.s x.n x.v=0
 .rw[if_pos e,if_pos e,if_pos e,if_pos e,e]
 .rw[if_neg e,if_neg e,if_neg e,if_neg e]
theorem Nx.sU{cs:List aw}(h:YM Jw cs=true):Nx cs:=⟨h,cO h,C8 h⟩
theorem Nx.do{cs:List aw}(s:Nx cs)(x:Cm):Nx (EW cs x):=by
 obtain⟨D,a,b,h1,h2,_⟩:=yJ s.fit x;refine Nx.sU ?_;unfold doL at h1;unfold EW Nt Tu;by_cases e:Le cs x.k x.c x.s x.n x.v=0
 .rw[if_pos e]at h1 ⊢;simp only[List.cons.injEq,Value.agg.injEq,Array.mk.injEq]at h1;rw[h1.1];exact h2
 .rw[if_neg e]at h1 ⊢;simp only[List.cons.injEq,Value.agg.injEq,Array.mk.injEq]at h1;rw[h1.1];exact h2
theorem Lx{T:World}{K:aw->Hp->Prop}{ty:bn}{t:Tg}{v:aw}{l:List Pk}{x:Pk}{bx:Nat}{cb:Array Bool}(s:YP o t 50 5 h v (am l) (ZK Ha l))(d:UO o h)(hb:h[bx]? = U (O (Ha x).toArray 50))(hr:(am l)<=1000000000000)(H:∀p c o' h',YP o' t 50 5 h' (Q p ((am l)+1) c) (l++[x]).length (ZK Ha (l++[x]))->Kp (fun u=>u=t) o h o' h'->K (Q p ((am l)+1) c) h'):
  Sa aI T .append #[28,28] ty cb [v,Q (U ⟨bx,0,al⟩) 1 1] K h:=by
 have src:Sl 5 h (Q (U ⟨bx,0,al⟩) 1 1) 1 (Ha x):=⟨_,1,rfl,rfl,fun _=>⟨bx,0,rfl,fun i hi=>by
  rw[Zg hb,YE,Nat.zero_add];exact bh hi⟩⟩
 refine JX (E:=50) (n:=5) (bytes:=40) (k:=1) ZgE Tryz.underlying28 Zoa Zoc rfl Zob s d src rfl gX gX ?_;intro v' o' h' w k _;obtain⟨p,c,rfl,_⟩:=w.ZM;refine H p c o' h' ?_ k;rw[YD,UL,bd];exact w
theorem ZS.gx{o1:Ow}{h1:Hp}{wb:Nat}{nb:Nat->Nat}{a:WA}{fl:List XR}{Yj:Nat->Int}{ZB sV:List Pk}{v:aw}(W:ZS o h wb nb a fl Yj ZB)(k:Kp (fun t=>t=.ZB) o h o1 h1)(hv:YP o1 .ZB 50 5 h1 v (am sV) (ZK Ha sV)){e:Option Hp}(w:e=U (h1.setIfInBounds wb (O (Xv Yj { a with ZB:=v }).toArray 111))):
  ∃g,e=U g/\ZS o1 g wb nb { a with ZB:=v } fl Yj sV/\Kp (fun t=>t=.world) o1 h1 o1 g:=by
 have b:=W.ZQ.Zd k MI;have kk:Kp (fun t=>t=.world) o1 h1 o1 (h1.setIfInBounds wb (O (Xv Yj { a with ZB:=v }).toArray 111)):=(Kp.refl k.Ya (fun t=>t=.world)).set b.1 rfl _;exact⟨_,w,⟨⟨b.1,ZE b.2⟩,(W.Zm.Zd k MI).Zd kk MI,(W.Zo.Zd k MI).Zd kk MI,hv.Zd kk MI⟩,kk⟩
def gy:Option aw->Nat
 | some (Q _ l _)=>l
 | _=>0
set_option maxHeartbeats 1000000 in
theorem He(h:Hp)(o:Ow)(wb i nb:Nat)(Yr:Nat->Nat)(a:NA)(n:Nd)(YW:WA)(fl:List XR)(Yj:Nat->Int)(ZB:List Pk)(s:Int)(x:Cm)(d:UO o h)(N:ZV o h wb i nb a n)(W:ZS o h wb Yr YW fl Yj ZB)(hk:n.Zp.length<=100000000000)(hl:n.ZP.length<=100000000000)(ht:(am ZB)<=100000000000)(hq:n.Zw.length<=1000000000000)(hw:n.Zh.length<=1000000000000):
  Zc aI T 156 #[Zr wb,Zr nb,Z J s,Vv x] h fun v' h'=>∃o' a' XS,Kp (Ud i) o h o' h'/\ZV o' h' wb i nb a' (Vu n s x).n/\ZS o' h' wb Yr XS fl Yj (ZB++(Vu n s x).ts):=by
 have VZ:=Za N.ZQ.2;have Gs:=Za W.ZQ.2;refine Zc.Y8 [_,_,_,_] Tryz.func156 ?_;unfold Zr Vv;simp -implicitDefEqProofs only[go_sem];obtain⟨h1,YX⟩:=ZD (h.push (O x.C.toArray 43):Hp);have k1:Kp QC o h o h1:=by rw[YX];exact Yc d _
 have x1:ZY o h1 h.size (O x.C.toArray 43):=⟨d _ (av _),by rw[YX];exact Zb⟩
 rw[<-YX];have N1:=N.Zu k1;have W1:=W.Zu k1;clear YX;have R1:=ZI N1.ZQ.2 N1.pt.store.len;have Qb:=Za N1.ZQ.2;have yv:=Za x1.2;have r1:rd h1 ⟨h.size,0,al⟩ 5=U x.C:=Zs x1.2 rfl;refine VS.z (h1.size) [6] (.p 0 (.p 1 (.p 2 (.q 3 (.p 4 (.q 5 (.w 6 .nil))))))) mixed (by kernel_rfl) ?_;simp -implicitDefEqProofs only[go_sem,R1.Zp,Qb,r1,yv];have km:=Jg (K:=fun _ _=>True) (x:=az x.C.toArray) (n:=s) TC N1.pt.Zp.2 (P:=aI);rw[Jg TC N1.pt.Zp.2];have k2:Kp (fun t=>t=.Zp i) o h1 o (h1.setIfInBounds a.Zp (XJ (ins (U2 Vv n.Zp) s (az x.C.toArray)))):=(Kp.refl k1.Ya (fun t=>t=.Zp i)).set N1.pt.Zp.1 rfl _;have m2:QN o (.Zp i) (h1.setIfInBounds a.Zp (XJ (ins (U2 Vv n.Zp) s (az x.C.toArray)))) a.Zp (U2 Vv (ins n.Zp s x)):=
  ⟨N1.pt.Zp.1,by rw[ZE N1.pt.Zp.2,SI];rfl⟩
 have N2:ZV o (h1.setIfInBounds a.Zp (XJ (ins (U2 Vv n.Zp) s (az x.C.toArray)))) wb i nb a (WM n s x):=⟨N1.ZQ.Zd k2 (by intro e;cases e),N1.pt.kA k2 m2⟩
 have W2:=W1.Zd k2 (by rintro t rfl;simp[Tg.of]);have K2:Kp (Ud i) o h o (h1.setIfInBounds a.Zp (XJ (ins (U2 Vv n.Zp) s (az x.C.toArray)))):=(ZR k1).trans (k2.mono fun t q=>.inr (.inr (.inr (.inl q))));generalize (h1.setIfInBounds a.Zp (XJ (ins (U2 Vv n.Zp) s (az x.C.toArray))))=h2 at *;clear km;unfold Vu;obtain⟨L,hL⟩:=ZD ((WM n s x).Zp.length);have hLb:L<=100000000001:=by
  rw[hL];unfold WM;simp only[P9];split<;>omega
 obtain⟨n0,RC⟩:=ZD (WM n s x);rw[<-RC]at N2 hL ⊢;rw[<-hL];have hl0:n0.ZP.length<=100000000000:=by rw[RC];exact hl
 have hq0:n0.Zw.length<=1000000000000:=by rw[RC];exact hq
 have uV:n0.Zh.length<=1000000000000:=by rw[RC];exact hw
 clear N1 W1 R1 Qb yv r1 k2 m2 N W hk hl hq hw RC k1 x1;simp -implicitDefEqProofs only[go_sem];refine VS.Z9 (fun F g=>F 0=ao (U ⟨wb,0,al⟩)/\F 1=ao (U ⟨nb,0,al⟩)/\∃o' a' XS m ts f j,Kp (Ud i) o h o' g/\ZV o' g wb i nb a' m/\ZS o' g wb Yr XS fl Yj (ZB++ts)/\f+j=L+1/\m.Zp=n0.Zp/\m.ZP.length=n0.ZP.length+j /\
   m.Zw.length<=1000000000000/\m.Zh.length<=1000000000000/\(am ts)<=j/\(∀j',j'<j->(XD n0.Zp ((n0.ZP.length+j':Nat):Int)).isSome=true)/\(Xq (L+1) n0).1=(Xq f m).1/\(Xq (L+1) n0).2=ts++(Xq f m).2)
  (fun F g=>n0.ZP.length+L+2-gy (hc g ⟨nb,11,al⟩)) rfl ⟨rfl,rfl,o,a,YW,n0,[],L+1,0,K2,N2,by rw[ay];exact W2,rfl,rfl,rfl,hq0,uV,av _,fun j' h=>by omega,rfl,rfl⟩ ?_
 rintro F g ⟨f0,f1,o',a',XS,m,ts,f,j,K,M,V,hf,fg,fX,hmq,hmw,hts,hjs,g1,g2⟩;have R:=ZI M.ZQ.2 M.pt.store.len;have zk:=Za M.ZQ.2;obtain⟨lp,lc,Gv,uO⟩:=YP.ZM M.pt.ZP;have mu:gy (hc g ⟨nb,11,al⟩)=m.ZP.length:=by rw[R.ZP,Gv];rfl
 rw[mu];have R11:=R.ZP;rw[Gv]at R11;have lk:=fun (K:aw->Hp->Prop)=>YK (K:=K) (n:=(m.ZP.length:Int)) (c:=true) TC Nw M.pt.Zp.2;have VU:=fun (K:aw->Hp->Prop) (x:Obj)=>YK (h:=g.push x) (K:=K) (n:=(m.ZP.length:Int)) (c:=true) TC Nw ((Zl (Za M.pt.Zp.2)).trans M.pt.Zp.2);rw[XI]at lk;simp only[XI]at VU;simp -implicitDefEqProofs only[go_sem,f0,f1]
 cases hx:XD m.Zp (m.ZP.length:Int) with
 | none=>
  rw[hx]at lk;simp only[hx,a9,a7,a3,↓reduceIte]at lk VU;have e:f≠0->Xq f m=(m,[]):=fun Ys=>by
   obtain⟨f',rfl⟩:∃f',f=f'+1:=⟨f-1,by omega⟩
   unfold Xq;rw[hx]
  have e':Xq f m=(m,[]):=by
   by_cases q:f=0
   .subst q;rfl
   .exact e q
  rw[e']at g1 g2;refine VS.mono (N:=fun F' g'=>Zf g.size g g'/\F' 9=ba false) ?_ ?_ (fun _ _ _ h=>h) (fun _ _ h=>h)
  .refine VS.z (g.size) [9,14] (.p 0 (.p 1 (.p 2 (.q 3 (.p 4 (.p 5 (.p 6 (.q 7 (.p 8 (.or 9 (.p 10 (.p 11 (.p 12 (.s 13 (.w 14 (.p 15 .nil)))))) (.s 13 (.w 9 (.p 10 (.p 11 (.p 12 (.w 14 (.p 15 .nil))))))))))))))))) mixed (by kernel_rfl) ?_;simp -implicitDefEqProofs only[go_sem,f0,f1,R.Zp,R11,zk,lk,VU]
   repeat' (first|exact Zf.refl _ _|exact Zf.push (av _) _|refine be ?_ ?_)
  .rintro F' g' ⟨b,f9⟩;simp -implicitDefEqProofs only[go_sem,f9];rw[g1,g2,ay];exact⟨o',a',XS,K.Yb b,M.Zu (ZN K.Ya b),V.Zu (ZN K.Ya b)⟩
 | some y=>
  rw[hx]at lk;simp only[hx,a5,a4,a6,↓reduceIte]at lk VU;refine VS.mono (N:=fun F' g'=>Zf g.size g g'/\F' 0=ao (U ⟨wb,0,al⟩)/\F' 1=ao (U ⟨nb,0,al⟩)/\F' 9=ba true/\F' 8=ao (U ⟨g.size,0,al⟩)/\g'[g.size]? = U (O y.C.toArray 43)) ?_ ?_ (fun _ _ _ h=>h) (fun _ _ h=>h)
  .refine VS.z (g.size) [9,14] (.p 0 (.p 1 (.p 2 (.q 3 (.p 4 (.p 5 (.p 6 (.q 7 (.p 8 (.or 9 (.p 10 (.p 11 (.p 12 (.s 13 (.w 14 (.p 15 .nil)))))) (.s 13 (.w 9 (.p 10 (.p 11 (.p 12 (.w 14 (.p 15 .nil))))))))))))))))) mixed (by kernel_rfl) ?_;simp -implicitDefEqProofs only[go_sem,f0,f1,R.Zp,R11,zk,lk,VU,Vv];have gp:∀x:Obj,(g.push x)[g.size]? = U x:=fun x=>Zb
   repeat' (first|exact Zf.refl _ _|exact Zf.push (av _) _|exact gp _|refine be ?_ ?_)
  .rintro F2 g2 ⟨b2,f20,f21,f29,f28,x2⟩;simp -implicitDefEqProofs only[go_sem,f29];have kb:=ZN K.Ya b2;have M2:=M.Zu kb;have V2:=V.Zu kb;have bx2:ZY o' g2 g.size (O y.C.toArray 43):=⟨K.Ya _ (av _),x2⟩
   have K2:=K.Yb b2;have Pd:=zk;clear R R11 lk VU zk mu;have R2:=ZI M2.ZQ.2 M2.pt.store.len;have Qj:=Za M2.ZQ.2;have hs2:=Za x2;have r2:rd g2 ⟨g.size,0,al⟩ 5=U y.C:=Zs x2 rfl;refine VS.z (g2.size) [7,10] (.p 0 (.p 1 (.p 2 (.p 3 (.q 4 (.q 5 (.s 6 (.w 7 (.p 8 (.p 9 (.w 10 .nil))))))))))) mixed (by kernel_rfl) ?_;simp -implicitDefEqProofs only[go_sem,f20,f21,f28,R2.ZP,Qj,hs2,r2];have k3:=Yc K2.Ya (O y.C.toArray 43);refine Mz (l:=m.ZP) (M2.Zu k3).pt.ZP k3.Ya Zb (by omega) ?_;intro p c o3 g3 w3 kk3;have k3':Kp (fun t=>t=.ZP i) o' g2 o3 g3:=(ZR k3).trans kk3;have b3:=M2.ZQ.Zd k3' (by intro e;cases e);have w:=(Y7 b3.2 M2.pt.store.len).ZP (Q p (m.ZP.length+1) c) rfl;simp -implicitDefEqProofs only[go_sem,w];have M4:=(M2.pt.zh k3' w3).put k3'.Ya b3;have kn:Kp (fun t=>t=.Yf i) o3 g3 o3 (g3.setIfInBounds nb (Xy { m with ZP:=m.ZP++[y] } { a' with ZP:=Q p (m.ZP.length+1) c })):=(Kp.refl k3'.Ya (fun t=>t=.Yf i)).set b3.1 rfl _;have V4:=(V2.Zd k3' (by rintro t rfl;simp[Tg.of])).Zd kn (by rintro t rfl;simp[Tg.of]);have x4:=(bx2.Zd k3').Zd kn;have K4:Kp (Ud i) o h o3 (g3.setIfInBounds nb (Xy { m with ZP:=m.ZP++[y] } { a' with ZP:=Q p (m.ZP.length+1) c })):=
    (K2.trans (k3'.mono fun t q=>.inr (.inr (.inr (.inr (.inl q)))))).trans (kn.mono fun t q=>.inr (.inr (.inl q)))
   obtain⟨g4,Vw⟩:=ZD (g3.setIfInBounds nb (Xy m { a' with ZP:=Q p (m.ZP.length+1) c }));rw[show Xy { m with ZP:=m.ZP++[y] } { a' with ZP:=Q p (m.ZP.length+1) c } = Xy m { a' with ZP:=Q p (m.ZP.length+1) c } from rfl,<-Vw]at M4 V4 x4 K4;rw[<-Vw];clear Vw kn;have R4:=ZI M4.ZQ.2 M4.pt.store.len;have L1:=Za M4.ZQ.2;have hs4:=Za x4.2;have r4:rd g4 ⟨g.size,0,al⟩ 5=U y.C:=Zs x4.2 rfl;have call:=fun G=>gv T G m.store M4.pt.store y;have R4s:rd g4 ⟨nb,12,al⟩ 40=U m.store:=R4.store;have hD:=(M4.pt.store.do y)
   have hD0:EW ({ m with ZP:=m.ZP++[y] }:Nd).store y=EW m.store y:=rfl;rw[hD0]at hD;obtain⟨D,hDe⟩:=ZD (EW m.store y);obtain⟨E,hE⟩:=ZD (Nt m.store y);obtain⟨c1,UX⟩:=ZD (Oj m.store y);obtain⟨c2,MR⟩:=ZD (I1 m.store y);rw[<-hDe]at hD;rw[<-hDe,<-hE,<-UX,<-MR]at call;have Ly:=hD.len;have AA:=hD.one;unfold Vv at call;have FL:=ZZ (zs:=J2) (vs:=D) (by rw[Ly];rfl);unfold J2 at FL;simp only[rep,List.cons_append,br]at FL;have wA:∀(G:Hp) (k:Nat),G[k]? = U (O J2.toArray 58)->wr G ⟨k,0,al⟩ D=U (G.setIfInBounds k (O D.toArray 58)):=fun G k hx=>by
    rw[Z2 hx 0 D,ZZ (by rw[Ly];rfl),if_pos ⟨by rw[Ly];simp[J2,rep],AA⟩]
   have wB:∀(G:Hp) (k:Nat),G[k]? = U (O [Z J 0,Z J 0].toArray 48)->wr G ⟨k,0,al⟩ [Z J c1,Z J c2]=U (G.setIfInBounds k (O [Z J c1,Z J c2].toArray 48)):=fun G k hx=>by
    rw[Z2 hx 0 _];rfl
   have gl:∀(G:Hp) (X Y:Obj),((G.push X).push Y)[G.size]? = U X:=fun G X Y=>by rw[Zl (by simp),Zb]
   have gs:∀(G:Hp) (k:Nat) (X Y:Obj),((G.setIfInBounds k X).push Y)[G.size]? = U Y:=fun G k X Y=>by
    have:=Zb (h:=G.setIfInBounds k X) (o:=Y);rwa [bk]at this
   have gl':=gs;have gr:∀(G:Hp) (X Y:Obj),((G.push X).push Y)[G.size+1]? = U Y:=fun G X Y=>by
    have:=Zb (h:=G.push X) (o:=Y);rwa [a0]at this
   refine VS.mono (N:=fun F' g'=>Zf g4.size g4 g'/\F' 0=ao (U ⟨wb,0,al⟩)/\F' 1=ao (U ⟨nb,0,al⟩)/\F' 8=ao (U ⟨g.size,0,al⟩)/\∃A B,F' 10=ao (U ⟨A,0,al⟩)/\F' 11=ao (U ⟨B,0,al⟩)/\g4.size<=A/\g4.size<=B/\g'[A]? = U (O D.toArray 58)/\g'[B]? = U (O [Z J c1,Z J c2].toArray 48)) ?_ ?_ (fun _ _ _ h=>h) (fun _ _ h=>h)
   .refine VS.z (g4.size) [5,12,13] (.p 0 (.p 1 (.p 2 (.q 3 (.q 4 (.or 5 (.p 6 (.p 7 (.p 8 (.p 9 (.or 10 (.s 11 (.w 12 (.w 13 (.p 14 .nil)))) (.s 11 (.s 10 (.w 12 (.w 13 (.p 14 .nil)))))))))) (.or 10 (.or 5 (.p 6 (.p 7 (.p 8 (.p 9 (.s 11 (.w 12 (.w 13 (.p 14 .nil)))))))) (.s 11 (.w 5 (.p 6 (.p 7 (.p 8 (.p 9 (.w 12 (.w 13 (.p 14 .nil)))))))))) (.s 11 (.or 5 (.p 6 (.p 7 (.p 8 (.p 9 (.s 10 (.w 12 (.w 13 (.p 14 .nil)))))))) (.s 10 (.w 5 (.p 6 (.p 7 (.p 8 (.p 9 (.w 12 (.w 13 (.p 14 .nil)))))))))))))))))) mixed (by kernel_rfl) ?_;simp -implicitDefEqProofs only[go_sem,f20,f21,f28,R4s,L1,hs4,r4]
    repeat' (first|with_reducible exact Zf.refl _ _|with_reducible exact Zf.push (by omega) _|with_reducible refine be ?_ ?_)
    all_goals first
     | (refine (call g4).use ?_
        rintro _ g5 ⟨rfl,b5⟩;have s5:=b5.size;simp -implicitDefEqProofs only[go_sem,b5,Ly,AA,FL];refine⟨⟨f20,f21,f28,_,_,rfl,rfl,s5,by omega,gl _ _ _,gr _ _ _⟩,⟨f20,f21,f28,_,_,rfl,rfl,by omega,s5,gr _ _ _,gl _ _ _⟩⟩)
     | (refine (call (g4.push (O _ 58))).use ?_
        rintro _ g5 ⟨rfl,b5⟩;have s5:=b5.size;rw[a0]at s5;have B5:Zf g4.size g4 g5:=(Zf.push (av _) _).trans (b5.mono (by simp));have xA:=b5.get (k:=g4.size) (by simp) Zb;have Sf:=wA _ _ xA;have zA:=Za xA;have gA:=ZE (o:=O D.toArray 58) xA;simp -implicitDefEqProofs only[go_sem,B5,Ly,AA,Sf,zA];exact⟨f20,f21,f28,_,_,rfl,rfl,av _,by omega,by rw[Zl (by simpa using zA)];exact gA,gs _ _ _ _⟩)
     | (refine (call (g4.push (O _ 48))).use ?_
        rintro _ g5 ⟨rfl,b5⟩;have s5:=b5.size;rw[a0]at s5;have B5:Zf g4.size g4 g5:=(Zf.push (av _) _).trans (b5.mono (by simp));have xB:=b5.get (k:=g4.size) (by simp) Zb;have Hf:=wB _ _ xB;have zB:=Za xB;have gB:=ZE (o:=O [Z J c1,Z J c2].toArray 48) xB;simp -implicitDefEqProofs only[go_sem,B5,Ly,AA,Hf,FL,zB];exact⟨f20,f21,f28,_,_,rfl,rfl,by omega,av _,gl' _ _ _ _,by rw[Zl (by simpa using zB)];exact gB⟩)
     | (refine (call ((g4.push (O _ 58)).push (O _ 48))).use ?_
        rintro _ g5 ⟨rfl,b5⟩;have s5:=b5.size;rw[a0,a0]at s5;have B5:Zf g4.size g4 g5:=((Zf.push (av _) _).Yx (by simp) _).trans (b5.mono (by simp;omega));have xA:=b5.get (k:=g4.size) (by simp;omega) (gl _ _ _);have xB:=b5.get (k:=g4.size+1) (by simp) (gr _ _ _);have Sf:=wA _ _ xA;have zA:=Za xA;have MA:=(Zq (o:=O D.toArray 58) (show g4.size≠g4.size+1 by omega)).trans xB;have Hf:=wB _ _ MA;have zB:=Za MA;simp -implicitDefEqProofs only[go_sem,B5,Ly,AA,Sf,zA,Hf,zB];exact⟨f20,f21,f28,_,_,rfl,rfl,by omega,by omega,(Zq (by omega)).trans (ZE xA),ZE MA⟩)
     | (refine (call ((g4.push (O _ 48)).push (O _ 58))).use ?_
        rintro _ g5 ⟨rfl,b5⟩;have s5:=b5.size;rw[a0,a0]at s5;have B5:Zf g4.size g4 g5:=((Zf.push (av _) _).Yx (by simp) _).trans (b5.mono (by simp;omega));have xB:=b5.get (k:=g4.size) (by simp;omega) (gl _ _ _);have xA:=b5.get (k:=g4.size+1) (by simp) (gr _ _ _);have Sf:=wA _ _ xA;have zA:=Za xA;have MA:=(Zq (o:=O D.toArray 58) (show g4.size+1≠g4.size by omega)).trans xB;have Hf:=wB _ _ MA;have zB:=Za MA;simp -implicitDefEqProofs only[go_sem,B5,Ly,AA,Sf,zA,Hf,zB];exact⟨f20,f21,f28,_,_,rfl,rfl,by omega,by omega,(Zq (by omega)).trans (ZE xA),ZE MA⟩)
   .rintro F5 g5 ⟨b5,f50,f51,f58,A,B,f5A,f5B,hA,hB,yA,yB⟩;have Fu:=ZN K4.Ya b5;have M5:=M4.Zu Fu;have V5:=V4.Zu Fu;have x5:=x4.Zd Fu;have K5:=K4.Yb b5;have z5:=Za M5.ZQ.2;have rA:rd g5 ⟨A,0,al⟩ 40=U D:=Zs yA Ly;obtain⟨g6,w6,M6,k6⟩:=Z7.write (n:={ m with ZP:=m.ZP++[y],store:=D }) { M5.pt with store:=hD } K5.Ya M5.ZQ ((Y7 M5.ZQ.2 M5.pt.store.len).store D Ly AA);have V6:=V5.Zd k6 (by rintro t rfl;simp[Tg.of]);have x6:=x5.Zd k6;have K6:Kp (Ud i) o h o3 g6:=K5.trans (k6.mono fun t q=>.inr (.inr (.inl q)));have xB6:=(show ZY o3 g5 B _ from⟨K4.Ya _ (by omega),yB⟩).Zd k6;have R6:=ZI M6.ZQ.2 Ly;have z6:=Za M6.ZQ.2;clear R4 R4s L1 hs4 r4 R2 Qj hs2 r2;simp -implicitDefEqProofs only[go_sem,f50,f51,f58,f5A,f5B,rA,w6,Ly,R6.Zw,z5];refine (Bu T g6 o3 (.Zw i) _ m.Zw g.size y M6.pt.Zw K6.Ya x6 (by omega)).use ?_;rintro v7 g7 ⟨q7,k7⟩;obtain⟨p7,c7,rfl,_⟩:=YP.ZM q7;have b7:=M6.ZQ.Zd k7 (by intro e;cases e);obtain⟨g8,w8,M8,k8⟩:=(M6.pt.Fq k7 q7).write k7.Ya b7 ((Y7 b7.2 Ly).Zw (Q p7 _ c7) rfl);have z7:=Za b7.2;have V8:=(V6.Zd k7 (by rintro t rfl;simp[Tg.of])).Zd k8 (by rintro t rfl;simp[Tg.of]);have x8:=(x6.Zd k7).Zd k8;have xB8:=(xB6.Zd k7).Zd k8;have K8:Kp (Ud i) o h o3 g8:=(K6.trans (k7.mono fun t q=>.inr (.inr (.inr (.inr (.inr (.inl q))))))).trans (k8.mono fun t q=>.inr (.inr (.inl q)));have R8:=ZI M8.ZQ.2 Ly;have z8:=Za M8.ZQ.2;simp -implicitDefEqProofs only[go_sem,f50,f51,f58,w8,z7,R8.Zh];refine (Hc T g8 _ m.Zh g.size y M8.pt.Zh.ts x8.2 (by omega)).use ?_;rintro _ g9 ⟨rfl,b9⟩;have kb9:=ZN K8.Ya b9;have M9:=M8.Zu kb9;have V9:=V8.Zu kb9;have x9:=x8.Zd kb9;have xB9:=xB8.Zd kb9;have K9:=K8.Yb b9;have Se:∃f',f=f'+1:=⟨f-1,by
     have:f≠0:=fun q=>by
      subst q;have hj:j=L+1:=by omega
      have:=Bv n0.Zp n0.ZP.length (L+2) fun j' hj'=>by
       by_cases q:j'<j
       .exact hjs j' q
       .have:j'=j:=by omega
        subst this;rw[<-fX,<-fg,hx];rfl
      rw[<-hL]at this;omega
     omega⟩
    obtain⟨f',rfl⟩:=Se;have lg:Xq (f'+1) m=((Xq f' (VO m y)).1,T3 m y++(Xq f' (VO m y)).2):=by
     rw[Xq,hx]
    rw[lg]at g1 g2;have ZiI:∀j',j'<j+1->(XD n0.Zp ((n0.ZP.length+j':Nat):Int)).isSome=true:=fun j' hj'=>by
     by_cases q:j'<j
     .exact hjs j' q
     .have:j'=j:=by omega
      subst this;rw[<-fX,<-fg,hx];rfl
    have yp:(m.Zw.filter fun z=>decide (z≠y)).length<=m.Zw.length:=List.length_filter_le _ _;have mono:∀(G:Hp) (nn:Nd) (aa:NA) (oo:Ow),ZV oo G wb i nb aa nn->nn.ZP.length=m.ZP.length+1->n0.ZP.length+L+2-gy (hc G ⟨nb,11,al⟩)<n0.ZP.length+L+2-m.ZP.length:=fun G nn aa oo H hh=>by
     have RR:=ZI H.ZQ.2 H.pt.store.len;obtain⟨lp,lc,Gv,uO⟩:=YP.ZM H.pt.ZP;have:gy (hc G ⟨nb,11,al⟩)=nn.ZP.length:=by rw[RR.ZP,Gv];rfl
     rw[this,hh];omega
    by_cases hy:y∈m.Zh
    case neg=>
     have e1:TE m.Zh y = -1:=by unfold TE;rw[if_neg hy]
     have e2:T3 m y=[]:=by unfold T3;rw[if_neg hy]
     have e3:m.Zh.erase y=m.Zh:=List.erase_of_not_mem hy;rw[e2]at g2;have e4:VO m y = { m with ZP:=m.ZP++[y],store:=D,Zw:=m.Zw.filter (fun z=>decide (z≠y)) }:=by unfold VO;rw[e3,<-hDe]
     rw[e4]at g1 g2;rw[br]at g2;simp -implicitDefEqProofs only[go_sem,e1];unfold XB;refine⟨⟨f50,f51,o3,_,XS,_,ts,f',j+1,K9,M9,V9,by omega,fg,by simp[fX];omega,by simp only;omega,hmw,by omega,ZiI,g1,g2⟩,mono _ _ _ _ M9 (by simp)⟩
    have e1:0<=TE m.Zh y:=(Nz _ _).2 hy;have e5:TE m.Zh y=(m.Zh.idxOf y:Nat):=by unfold TE;rw[if_pos hy]
    obtain⟨r,hr⟩:=ZD (m.Zh.idxOf y);have uW:r<m.Zh.length:=by rw[hr];exact List.idxOf_lt_length_of_mem hy
    rw[<-hr]at e5;have e2:T3 m y=[⟨m.me,y.c,y.s,Oj m.store y,I1 m.store y⟩]:=by unfold T3;rw[if_pos hy]
    have e3:m.Zh.erase y=m.Zh.take r++m.Zh.drop (r+1):=by
     rw[List.erase_eq_eraseIdx_of_idxOf,List.eraseIdx_eq_take_drop_succ];exact hr.symm
    rw[e2]at g2;have R9:=ZI M9.ZQ.2 Ly;have z9:=Za M9.ZQ.2;simp -implicitDefEqProofs only[go_sem,e1,e5,f50,f51,f58,R9.Zh,z9];refine (Bq T g9 o3 (.Zh i) _ m.Zh.length r _ M9.pt.Zh K9.Ya (zj _) uW (by omega)).use ?_;rintro v10 g10 ⟨q10,kC⟩;have wl:(m.Zh.erase y).length=m.Zh.length-1:=by rw[e3,bd,List.length_take,List.length_drop];omega
    have Q10:Uc o3 (.Zh i) g10 v10 (m.Zh.erase y):=by
     unfold Uc;rw[wl,e3,YD,<-RT Ny _ _ (by omega),<-TF Ny _ _ (by omega)];exact q10
    obtain⟨p10,c10,rfl,_⟩:=YP.ZM Q10;have b10:=M9.ZQ.Zd kC (by intro e;cases e);obtain⟨g11,w11,M11,mV⟩:=(M9.pt.Lv kC Q10).write kC.Ya b10 ((Y7 b10.2 Ly).Zh (Q p10 _ c10) rfl);have z10:=Za b10.2;have V11:=(V9.Zd kC (by rintro t rfl;simp[Tg.of])).Zd mV (by rintro t rfl;simp[Tg.of]);have x11:=(x9.Zd kC).Zd mV;have ZiJ:=(xB9.Zd kC).Zd mV;have K11:Kp (Ud i) o h o3 g11:=(K9.trans (kC.mono fun t q=>.inr (.inr (.inr (.inr (.inr (.inr q))))))).trans (mV.mono fun t q=>.inr (.inr (.inl q)));have R11:=ZI M11.ZQ.2 Ly;have z11:=Za M11.ZQ.2;have U11:=Xi V11.ZQ.2;have Zrp:=Za V11.ZQ.2;have rx1:hc g11 ⟨g.size,1,al⟩=U (Z J y.c):=Zg x11.2;have rx2:hc g11 ⟨g.size,2,al⟩=U (Z J y.s):=Zg x11.2;have rB:rd g11 ⟨B,0,al⟩ 2=U [Z J c1,Z J c2]:=Zs ZiJ.2 rfl;have Zrs:=Za x11.2;have Zrt:=Za ZiJ.2;simp -implicitDefEqProofs only[go_sem,w11,z10];refine VS.z (g11.size) [17,21] (.p 0 (.p 1 (.p 2 (.p 3 (.p 4 (.q 5 (.p 6 (.p 7 (.p 8 (.q 9 (.p 10 (.q 11 (.p 12 (.q 13 (.q 14 (.p 15 (.s 16 (.w 17 (.p 18 (.p 19 (.p 20 (.w 21 .nil)))))))))))))))))))))) mixed (by kernel_rfl) ?_;simp -implicitDefEqProofs only[go_sem,f50,f51,f58,f5B,U11.ZB,R11.me,rx1,rx2,rB,z11,Zrp,Zrs,Zrt];have AB:=Yc K11.Ya (O (Ha ⟨m.me,y.c,y.s,c1,c2⟩).toArray 50);have V12:=V11.Zu AB;refine Lx (l:=ZB++ts) (x:=⟨m.me,y.c,y.s,c1,c2⟩) V12.ZB AB.Ya Zb (by rw[bd];omega) ?_;intro p13 c13 o13 g13 q13 k13;have sQ:=V12.ZQ.Zd k13 (by intro e;cases e);obtain⟨g14,w14,V14,k14⟩:=V12.gx k13 q13 ((Xi sQ.2).ZbC (Q p13 _ c13) rfl);have z13:=Za sQ.2;simp -implicitDefEqProofs only[go_sem,w14,z13];have M14:=((M11.Zu AB).Zd k13 (by rintro t rfl;simp[Tg.of])).Zd k14 (by rintro t rfl;simp[Tg.of]);have K14:Kp (Ud i) o h o13 g14:=(((K11.trans (ZR AB)).trans (k13.mono fun t q=>.inr (.inl q))).trans (k14.mono fun t q=>.inl q))
    have e4:VO m y = { m with ZP:=m.ZP++[y],store:=D,Zw:=m.Zw.filter (fun z=>decide (z≠y)),Zh:=m.Zh.erase y }:=by unfold VO;rw[<-hDe]
    rw[e4]at g1 g2;rw[<-UX,<-MR]at g2;obtain⟨ZEg,V15⟩:∃A,ZS o13 g14 wb Yr A fl Yj (ZB++(ts++[⟨m.me,y.c,y.s,c1,c2⟩])):=⟨_,by rw[<-bp];exact V14⟩
    rw[<-bp]at g2;unfold XB;refine⟨⟨f50,f51,o13,_,_,_,ts++[⟨m.me,y.c,y.s,c1,c2⟩],f',j+1,K14,M14,V15,by omega,fg,by simp[fX];omega,by simp only;omega,by simp only;omega,by simp;omega,ZiI,g1,g2⟩,mono _ _ _ _ M14 (by simp)⟩
def ZiK(o:Ow)(h:Hp)(wb:Nat)(Yr:Nat->Nat)(fl:List XR)(Yj:Nat->Int)(ZB:List Pk)(h':Hp):Prop:=
 ∃o' XS,Kp gq o h o' h'/\ZS o' h' wb Yr XS fl Yj ZB
theorem gC(h:Hp)(o:Ow)(wb nb:Nat)(Yr:Nat->Nat)(me:Nat)(YW:WA)(fl:List XR)(Yj:Nat->Int)(ZB:List Pk)(b3 b4 b5 b7:Nat)(l:XR)(w5 w:aw)(vs:List Vt)(d:UO o h)(W:ZS o h wb Yr YW fl Yj ZB)(vp:hc h ⟨nb,0,al⟩=U (Z J me))(VZ:nb<h.size)(YB:(am fl)<=1000000000000)(x3:ZY o h b3 (O [Zr wb].toArray 105))(x4:ZY o h b4 (O [Zr nb].toArray 112))(x5:ZY o h b5 (O (Xg l w5).toArray 170))(x7:ZY o h b7 (O [w].toArray 117))(iv:WU o h w vs):
  Zc aI T 152 #[Zr b3,Zr b4,Zr b5,Zr b7] h fun v' h'=>ZiK o h wb Yr (fl++[⟨1,me,l.JU,l.b,S5,vs⟩]) Yj ZB h':=by
 obtain⟨pw,cw,rfl⟩:=iv.ZM;refine Zc.Y8 [_,_,_,_] Tryz.func152 ?_;unfold Zr;have r3:hc h ⟨b3,0,al⟩=U (Zr wb):=Zg x3.2;have r4:hc h ⟨b4,0,al⟩=U (Zr nb):=Zg x4.2;have r5:hc h ⟨b5,1,al⟩=U (Z J l.JU):=Zg x5.2;have r6:rd h ⟨b5,3,al⟩ 2=U [Z J l.b.r,Z J l.b.n]:=by rw[Yh x5.2 (by simp[Xg])];rfl
 have r7:hc h ⟨b7,0,al⟩=U (Q pw (am vs) cw):=Zg x7.2;simp -implicitDefEqProofs only[go_sem,r3,r4,r5,r6,r7];refine (Wl T h o wb nb Yr me YW fl Yj ZB l.JU ⟨1,0,0,l.b,S5,vs⟩ _ d W vp VZ iv YB).use ?_;rintro v' h' ⟨o',XS,k,_,W'⟩;simp -implicitDefEqProofs only[go_sem];exact⟨o',XS,k,W'⟩
theorem gD(h:Hp)(o:Ow)(wb nb:Nat)(Yr:Nat->Nat)(me:Nat)(YW:WA)(fl:List XR)(Yj:Nat->Int)(ZB:List Pk)(b3 b4 b5:Nat)(l:XR)(w5:aw)(d:UO o h)(W:ZS o h wb Yr YW fl Yj ZB)(vp:hc h ⟨nb,0,al⟩=U (Z J me))(VZ:nb<h.size)(YB:(am fl)<=1000000000000)(x3:ZY o h b3 (O [Zr wb].toArray 105))(x4:ZY o h b4 (O [Zr nb].toArray 112))(x5:ZY o h b5 (O (Xg l w5).toArray 170)):
  Zc aI T 157 #[Zr b3,Zr b4,Zr b5] h fun v' h'=>ZiK o h wb Yr (fl++[⟨3,me,l.JU,Qh,l.v,[]⟩]) Yj ZB h':=by
 refine Zc.Y8 [_,_,_] Tryz.func157 ?_;unfold Zr;have r3:hc h ⟨b3,0,al⟩=U (Zr wb):=Zg x3.2;have r4:hc h ⟨b4,0,al⟩=U (Zr nb):=Zg x4.2;have r5:hc h ⟨b5,1,al⟩=U (Z J l.JU):=Zg x5.2;have r6:rd h ⟨b5,5,al⟩ 8=U (Zn l.v):=by rw[Yh x5.2 (by simp[Xg])];rfl
 unfold Zn at r6;simp -implicitDefEqProofs only[go_sem,r3,r4,r5,r6];refine (Wl T h o wb nb Yr me YW fl Yj ZB l.JU ⟨3,0,0,Qh,l.v,[]⟩ (Q al 0 0) d W vp VZ (Im.nil _ _ _ _) YB).use ?_;rintro v' h' ⟨o',XS,k,_,W'⟩;simp -implicitDefEqProofs only[go_sem];exact⟨o',XS,k,W'⟩
def ZdK(i:Nat)(t:Tg):Prop:=t=.world\/t=.Zo\/t=.Yf i\/t=.Yw i\/t=.XL i
theorem zm(h:Hp)(o:Ow)(wb i nb:Nat)(Yr:Nat->Nat)(YW:WA)(fl:List XR)(Yj:Nat->Int)(ZB:List Pk)(a:NA)(n:Nd)(acc:V0)(to:Int)(b:Ji)(vs:List Vt)(b6 b4 b9:Nat)(u:aw)(d:UO o h)(N:ZV o h wb i nb a n)(W:ZS o h wb Yr YW fl Yj ZB)(YB:(am fl)<=1000000000000)(x6:Rk o h b6 acc)(x4:ZY o h b4 (O [Zr nb].toArray 112))(x9:ZY o h b9 (O [u].toArray 1))(hu:sE o h wb nb u to b vs):
  Zc aI T 154 #[Zr b6,Zr b4,Zr b9] h fun v' h'=>∃o' a' XS,Kp (ZdK i) o h o' h'/\ZV o' h' wb i nb a' { n with Zy:=acc }/\ZS o' h' wb Yr XS (fl++[⟨1,n.me,to,b,S5,vs⟩]) Yj ZB:=by
 obtain⟨wa,xa,ia⟩:=x6;obtain⟨pa,ca,rfl⟩:=ia.ZM;obtain⟨b3,bL,b5,b7,l,w5,w,rfl,y3,y4,y5,rfl,rfl,y7,iv⟩:=hu;have VZ:=Za N.ZQ.2;refine Zc.Y8 [_,_,_] Tryz.func154 ?_;unfold Zr;have r4:hc h ⟨b4,0,al⟩=U (Zr nb):=Zg x4.2;have r6:rd h ⟨b6,0,al⟩ 3=U [Z J acc.p.r,Z J acc.p.n,Q pa (am acc.l) ca]:=Zs xa.2 rfl;obtain⟨g1,w1,N1,k1⟩:=Z7.write (a:={ a with Xh:=Q pa (am acc.l) ca }) (n:={ n with Zy:=acc }) { N.pt with Xh:=ia } d N.ZQ ((Y7 N.ZQ.2 N.pt.store.len).Zy acc.p.r acc.p.n (Q pa (am acc.l) ca) rfl);have W1:=W.Zd k1 (by rintro t rfl;simp[Tg.of]);have x91:=x9.Zd k1;have r9:hc g1 ⟨b9,0,al⟩=U (WZ 152 [b3,bL,b5,b7]):=Zg x91.2;unfold WZ at r9;simp only[bg]at r9;unfold Zr at r4 r9;simp -implicitDefEqProofs only[go_sem,r4,r6,w1,VZ,r9];have R1:=ZI N1.ZQ.2 N1.pt.store.len;refine (gC T g1 o wb nb Yr n.me YW fl Yj ZB b3 bL b5 b7 l w5 w vs k1.Ya W1 R1.me (Za N1.ZQ.2) YB (y3.Zd k1) (y4.Zd k1) (y5.Zd k1) (y7.Zd k1) (iv.Zd k1)).use ?_;rintro v' h' ⟨o',XS,k,W'⟩;simp -implicitDefEqProofs only[go_sem];exact⟨o',_,XS,(k1.mono fun t q=>.inr (.inr (.inl q))).trans (k.mono fun t q=>q.elim .inl fun q=>.inr (.inl q)),N1.Zd k (by rintro t (rfl|rfl)<;>simp[Tg.of]),W'⟩
theorem zn(h:Hp)(o:Ow)(wb i nb:Nat)(Yr:Nat->Nat)(YW:WA)(fl:List XR)(Yj:Nat->Int)(ZB:List Pk)(a:NA)(n:Nd)(acc:V0)(to:Int)(x:Vt)(b6 b4 b9:Nat)(u:aw)(d:UO o h)(N:ZV o h wb i nb a n)(W:ZS o h wb Yr YW fl Yj ZB)(YB:(am fl)<=1000000000000)(x6:Rk o h b6 acc)(x4:ZY o h b4 (O [Zr nb].toArray 112))(x9:ZY o h b9 (O [u].toArray 1))(hu:sF o h wb nb u to x):
  Zc aI T 160 #[Zr b6,Zr b4,Zr b9] h fun v' h'=>∃o' a' XS,Kp (ZdK i) o h o' h'/\ZV o' h' wb i nb a' { n with Zy:=acc }/\ZS o' h' wb Yr XS (fl++[⟨3,n.me,to,Qh,x,[]⟩]) Yj ZB:=by
 obtain⟨wa,xa,ia⟩:=x6;obtain⟨pa,ca,rfl⟩:=ia.ZM;obtain⟨b3,bL,b5,l,w5,rfl,y3,y4,y5,rfl,rfl⟩:=hu;have VZ:=Za N.ZQ.2;refine Zc.Y8 [_,_,_] Tryz.func160 ?_;unfold Zr;have r4:hc h ⟨b4,0,al⟩=U (Zr nb):=Zg x4.2;have r6:rd h ⟨b6,0,al⟩ 3=U [Z J acc.p.r,Z J acc.p.n,Q pa (am acc.l) ca]:=Zs xa.2 rfl;obtain⟨g1,w1,N1,k1⟩:=Z7.write (a:={ a with Xh:=Q pa (am acc.l) ca }) (n:={ n with Zy:=acc }) { N.pt with Xh:=ia } d N.ZQ ((Y7 N.ZQ.2 N.pt.store.len).Zy acc.p.r acc.p.n (Q pa (am acc.l) ca) rfl);have W1:=W.Zd k1 (by rintro t rfl;simp[Tg.of]);have x91:=x9.Zd k1;have r9:hc g1 ⟨b9,0,al⟩=U (WZ 157 [b3,bL,b5]):=Zg x91.2;unfold WZ at r9;simp only[bg]at r9;unfold Zr at r4 r9;simp -implicitDefEqProofs only[go_sem,r4,r6,w1,VZ,r9];have R1:=ZI N1.ZQ.2 N1.pt.store.len;refine (gD T g1 o wb nb Yr n.me YW fl Yj ZB b3 bL b5 l w5 k1.Ya W1 R1.me (Za N1.ZQ.2) YB (y3.Zd k1) (y4.Zd k1) (y5.Zd k1)).use ?_;rintro v' h' ⟨o',XS,k,W'⟩;simp -implicitDefEqProofs only[go_sem];exact⟨o',_,XS,(k1.mono fun t q=>.inr (.inr (.inl q))).trans (k.mono fun t q=>q.elim .inl fun q=>.inr (.inl q)),N1.Zd k (by rintro t (rfl|rfl)<;>simp[Tg.of]),W'⟩
theorem UB.ins{k:Int}{w:aw}{vs:List Vt}(iv:WU o h w vs):∀{pv:List (Int × aw)} {pr:List (Int × List Vt)},UB o h pv pr->UB o h (Go.V.ins pv k w) (Go.V.ins pr k vs):=by
 intro pv pr s
 induction s with
 | nil=>exact .cons ⟨rfl,iv⟩ .nil
 | @cons a b l m FY _ ih=>
  obtain⟨a1,a2⟩:=a;obtain⟨b1,b2⟩:=b;obtain⟨rfl,h2⟩:=FY;show D8 _ (if a1=k then (a1,w) :: l else (a1,a2) :: Go.V.ins l k w) (if a1=k then (a1,vs) :: m else (a1,b2) :: Go.V.ins m k vs);by_cases q:a1=k
  .rw[if_pos q,if_pos q];exact .cons ⟨rfl,iv⟩ aab
  .rw[if_neg q,if_neg q];exact .cons ⟨rfl,h2⟩ ih
theorem UB.length{pv:List (Int × aw)}{pr:List (Int × List Vt)}(s:UB o h pv pr):(am pv)=(am pr):=by
 induction s with
 | nil=>rfl
 | cons _ _ ih=>simp[ih]
theorem UB.XD{pv:List (Int × aw)}{pr:List (Int × List Vt)}(s:UB o h pv pr)(k:Int):(Go.V.XD pv k=al/\Go.V.XD pr k=al)\/∃w vs,Go.V.XD pv k=U w/\Go.V.XD pr k=U vs/\WU o h w vs:=by
 induction s with
 | nil=>exact .inl ⟨rfl,rfl⟩
 | @cons a b l m FY _ ih=>
  obtain⟨a1,a2⟩:=a;obtain⟨b1,b2⟩:=b;obtain⟨rfl,h2⟩:=FY;unfold Go.V.XD;by_cases q:a1=k
  .rw[if_pos q,if_pos q];exact .inr ⟨_,_,rfl,rfl,h2⟩
  .rw[if_neg q,if_neg q];exact ih
theorem YZ.gE{i:Nat}{ra:RA}{r:Q9}(s:YZ o i h ra r)(d:UO o h){k:Int}{w:aw}{vs:List Vt}(iv:WU o h w vs):
  Kp (fun t=>t=.Yw i) o h o (h.setIfInBounds ra.pb (XJ (ins ra.pv k w)))/\YZ o i (h.setIfInBounds ra.pb (XJ (ins ra.pv k w))) { ra with pv:=ins ra.pv k w } { r with Yw:=ins r.Yw k vs }:=by
 have kk:Kp (fun t=>t=.Yw i) o h o (h.setIfInBounds ra.pb (XJ (ins ra.pv k w))):=(Kp.refl d (fun t=>t=.Yw i)).set s.Yw.1 rfl _;exact⟨kk,s.ZQ.Zd kk MI,⟨s.Yw.1,ZE s.Yw.2⟩,UB.Zd (UB.ins iv s.Rj) kk,s.Xf.Zd kk MI,s.JV.Zd kk MI,s.T5.Zd kk (fun _ e=>by cases e),s.keys⟩
theorem Z7.kD{o':Ow}{h':Hp}{wb i nb:Nat}{a:NA}{n:Nd}(s:Z7 o h wb i nb a n)(k:Kp (fun t=>t=.XL i) o h o' h')(hp:n.Z8=al):Z7 o' h' wb i nb a n:=
 ⟨s.data.Zd k,s.Xh.Zd k,s.Zi.Zd k (fun t ht=>by rcases ht with rfl|rfl|rfl|rfl|⟨z,rfl⟩<;>intro e<;>cases e),s.Zp.Zd k MI,s.ZP.Zd k MI,s.Zw.Zd k MI,s.Zh.Zd k MI,s.Zt.Zd k MI,by
  have:=s.Z8;rw[hp]at this ⊢;exact this,s.store⟩
theorem Lz{n:Nd}{a:NA}{ra ra':RA}(r:Option Q9)(h:a.Zi=U ra)(hb:ra'.rb=ra.rb):Xy { n with Zi:=r } { a with Zi:=U ra' } = Xy n a:=by
 unfold Xy Wb;simp only[h,Ok,hb]
def Zry(i:Nat)(t:Tg):Prop:=t=.Yf i\/t=.Yw i\/t=.XL i
theorem zo(h:Hp)(o:Ow)(wb i nb:Nat)(a:NA)(n:Nd)(acc:V0)(vs:List Vt)(cur:Bool)(v:aw)(d:UO o h)(N:ZV o h wb i nb a n)(hp:n.Z8=al)(hv:ZiC o h i nb a.Zi v acc vs cur):
  ∃b6 b4 b7 b5,v=WZ 161 [b6,b4,b7,b5]/\Zc aI T 161 #[Zr b6,Zr b4,Zr b7,Zr b5] h fun v' h'=>∃o' a',Kp (Zry i) o h o' h'/\ZV o' h' wb i nb a' { n with Zy:=acc,Zi:=if cur=true then n.Zi.map (fun r=>{ r with Yw:=ins r.Yw n.me vs }) else n.Zi }:=by
 obtain⟨b6,b4,b7,b5,w,rb,rfl,⟨wa,xa,ia⟩,x4,x7,iv,x5,ZiL⟩:=hv;obtain⟨pa,ca,rfl⟩:=ia.ZM;obtain⟨pw,cw,rfl⟩:=iv.ZM;refine⟨b6,b4,b7,b5,rfl,?_⟩;have VZ:=Za N.ZQ.2;refine Zc.Y8 [_,_,_,_] Tryz.func161 ?_;unfold Zr;have r4:hc h ⟨b4,0,al⟩=U (Zr nb):=Zg x4.2;have r6:rd h ⟨b6,0,al⟩ 3=U [Z J acc.p.r,Z J acc.p.n,Q pa (am acc.l) ca]:=Zs xa.2 rfl;obtain⟨g1,w1,N1,k1⟩:=Z7.write (a:={ a with Xh:=Q pa (am acc.l) ca }) (n:={ n with Zy:=acc }) { N.pt with Xh:=ia } d N.ZQ ((Y7 N.ZQ.2 N.pt.store.len).Zy acc.p.r acc.p.n (Q pa (am acc.l) ca) rfl);unfold Zr at r4;simp -implicitDefEqProofs only[go_sem,r4,r6,w1,VZ];have y4:=x4.Zd k1;have y5:=x5.Zd k1;have y7:=x7.Zd k1;have q4:hc g1 ⟨b4,0,al⟩=U (Zr nb):=Zg y4.2;have q5:hc g1 ⟨b5,0,al⟩=U (Zr rb):=Zg y5.2;have q7:hc g1 ⟨b7,0,al⟩=U (Q pw (am vs) cw):=Zg y7.2;unfold Zr at q4 q5;have l4:=Za y4.2;have l5:=Za y5.2;have l7:=Za y7.2;have R1:=ZI N1.ZQ.2 N1.pt.store.len;have lnb:=Za N1.ZQ.2;have zp:=iv.Zd k1;refine VS.z (g1.size) [9] (.q 0 (.p 1 (.p 2 (.q 3 (.q 4 (.p 5 (.p 6 (.q 7 (.q 8 (.w 9 .nil)))))))))) mixed po ?_
 cases cur with
 | true=>
  obtain⟨ra,MB,rfl⟩:=ZiL;have hR:=N1.pt.Zi;have kE:({ a with Xh:=Q pa (am acc.l) ca }:NA).Zi=U ra:=MB;rw[kE]at hR
  cases hr:n.Zi with
  | none=>rw[show ({ n with Zy:=acc }:Nd).Zi=al from hr]at hR;exact hR.elim
  | some r=>
   rw[show ({ n with Zy:=acc }:Nd).Zi=U r from hr]at hR;have hR:YZ o i g1 ra r:=hR;have rr:hc g1 ⟨ra.rb,2,al⟩=U (.map (U ra.pb)):=Zg hR.ZQ.2;have AC:=Za hR.ZQ.2;simp -implicitDefEqProofs only[go_sem,q4,q5,q7,l4,l5,l7,lnb,R1.me,rr,AC];rw[Jg Lt hR.Yw.2];simp -implicitDefEqProofs only[go_sem];obtain⟨k2,R2⟩:=hR.gE k1.Ya (k:=n.me) zp;have k2':Kp (X6 i) o g1 o _:=k2.mono fun t q=>.inr (.inl q);refine⟨o,{ ({ a with Xh:=Q pa (am acc.l) ca }:NA) with Zi:=U { ra with pv:=ins ra.pv n.me (Q pw (am vs) cw) } },(k1.mono fun t q=>.inl q).trans (k2.mono fun t q=>.inr (.inl q)),?_,?_⟩
   .have:=N1.ZQ.Zd k2 MI;rw[<-Lz (U { r with Yw:=ins r.Yw n.me vs }) kE (ra':={ ra with pv:=ins ra.pv n.me (Q pw (am vs) cw) }) rfl]at this;exact this
   .exact Z7.QO N1.pt k2' kE rfl R2
 | false=>
  obtain⟨cs,pb,pv,y1,y2,y3⟩:=ZiL;have z1:=y1.Zd k1 MI;have z3:=y3.Zd k1 MI;have rr:hc g1 ⟨rb,2,al⟩=U (.map (U pb)):=by rw[Qd z1.2];exact y2
  have AC:=Za z1.2;simp -implicitDefEqProofs only[go_sem,q4,q5,q7,l4,l5,l7,lnb,R1.me,rr,AC];rw[Jg Lt z3.2];simp -implicitDefEqProofs only[go_sem];have k2:Kp (fun t=>t=.XL i) o g1 o (g1.setIfInBounds pb (XJ (ins pv n.me (Q pw (am vs) cw)))):=(Kp.refl k1.Ya (fun t=>t=.XL i)).set z3.1 rfl _;exact⟨o,_,(k1.mono fun t q=>.inl q).trans (k2.mono fun t q=>.inr (.inr q)),N1.ZQ.Zd k2 MI,N1.pt.kD k2 hp⟩
theorem kF(G:Hp)(X Y:Obj):((G.push X).push Y)[G.size]? = U X:=by rw[Zl Dq,Zb]
theorem gs2(G:Hp)(k:Nat)(X Y:Obj):((G.setIfInBounds k X).push Y)[G.size]? = U Y:=by
 have:=Zb (h:=G.setIfInBounds k X) (o:=Y);rwa [bk]at this
theorem mW(G:Hp)(X Y:Obj):((G.push X).push Y)[G.size+1]? = U Y:=by
 have:=Zb (h:=G.push X) (o:=Y);rwa [a0]at this
def gF(B:Nat)(g':Hp)(A C:aw)(p:Ji)(l:List Vt)(b:Ji):Prop:=
 ∃ka kc w1 w2,A=Zr ka/\C=Zr kc/\B<=ka/\B<=kc/\g'[ka]? = U (O (Y0 (if YT p l b=0 then b else ⟨0,0⟩) w1).toArray 119)/\g'[kc]? = U (O [w2].toArray 117) /\
  JD B 168 Zn 8 g' w1 (if YT p l b=0 then l else [])/\JD B 168 Zn 8 g' w2 (if YT p l b=0 then l else [])
def Fv(B:Nat)(g':Hp)(A:aw)(l:List Nat)(n:Int)(E:Int)(add:List Nat):Prop:=
 ∃ka w,A=ao (U ⟨ka,0,al⟩)/\B<=ka/\g'[ka]? = U (O [w,Z J (if E=0 then n else 0)].toArray 114)/\Yd B 5 g' w (if E=0 then l++add else [])
set_option maxHeartbeats 1000000 in
theorem Bw(h:Hp)(o:Ow)(wb i nb:Nat)(Yr:Nat->Nat)(a:NA)(n:Nd)(YW:WA)(fl:List XR)(Yj:Nat->Int)(ZB:List Pk)(l:XR)(w:aw)(d:UO o h)(N:ZV o h wb i nb a n)(W:ZS o h wb Yr YW fl Yj ZB)(iv:WU o h w l.vs)(YB:(am fl)<=1000000000000)(rD:n.Zy.l.length<=1000000)(mM:(am n.data)<=1000000)(tb:Az o h):
  Zc aI T 124 #[Zr wb,Zr nb,az (Xg l w).toArray] h fun v' h'=>∃o' a' XS,Kp (fun t=>t=.world\/t=.Zo\/t=.Yf i) o h o' h'/\ZV o' h' wb i nb a' (XC n l).n/\ZS o' h' wb Yr XS (fl++(XC n l).ls) Yj ZB:=by
 obtain⟨pw,cw,rfl⟩:=iv.ZM;refine Zc.Y8 [_,_,_] Tryz.func124 ?_;unfold Zr Xg;simp -implicitDefEqProofs only[go_sem];obtain⟨h1,YX⟩:=ZD (((h.push (O [Zr wb].toArray 105)).push (O [Zr nb].toArray 112)).push (O (Xg l (Q pw (am l.vs) cw)).toArray 170):Hp);have k1:Kp QC o h o h1:=by rw[YX];exact ((Kp.refl d _).push _ |>.push _).push _
 have s1:h1.size=h.size+3:=by rw[YX];simp
 have d1:∀b,h.size<=b->o b=al:=d;have x3:ZY o h1 h.size (O [Zr wb].toArray 105):=⟨d _ gX,by rw[YX,Zl L6,kF]⟩
 have x4:ZY o h1 (h.size+1) (O [Zr nb].toArray 112):=⟨d _ gX,by rw[YX,Zl Dq,mW]⟩
 have x5:ZY o h1 (h.size+2) (O (Xg l (Q pw (am l.vs) cw)).toArray 170):=⟨d _ gX,by
  have:=Zb (h:=(h.push (O [Zr wb].toArray 105)).push (O [Zr nb].toArray 112)) (o:=O (Xg l (Q pw (am l.vs) cw)).toArray 170);rw[YX];simpa using this⟩
 have e0:((h.push (O [Zr wb].toArray 105)).push (O [Zr nb].toArray 112)).push (O (Xg l (Q pw (am l.vs) cw)).toArray 170)=h1:=YX.symm;unfold Zr Xg at e0;rw[e0];clear e0 YX;have N1:=N.Zu k1;have W1:=W.Zu k1;have zp:=iv.Zd k1;have R1:=ZI N1.ZQ.2 N1.pt.store.len;have Qb:=Za N1.ZQ.2;have l3:=Za x3.2;have l4:=Za x4.2;have l5:=Za x5.2;have r3:hc h1 ⟨h.size,0,al⟩=U (Zr wb):=Zg x3.2;have r4:hc h1 ⟨h.size+1,0,al⟩=U (Zr nb):=Zg x4.2;have r53:rd h1 ⟨h.size+2,3,al⟩ 2=U [Z J l.b.r,Z J l.b.n]:=by rw[Yh x5.2 (by simp[Xg])];rfl
 have r51:hc h1 ⟨h.size+2,1,al⟩=U (Z J l.JU):=Zg x5.2;unfold Zr at r3 r4;have Hg:=R1.Zy;obtain⟨pv,cv,gG⟩:=N1.pt.Xh.ZM;rw[gG]at Hg;have call:∀G,Zf h1.size h1 G->Zc aI T 134 #[az #[Z J n.Zy.p.r,Z J n.Zy.p.n,Q pv n.Zy.l.length cv],az #[Z J l.b.r,Z J l.b.n]] G fun v' h'=>Cv G.size h' v' n.Zy.p n.Zy.l l.b/\Zf G.size G h':=fun G hG=>
  TX T G n.Zy.p _ n.Zy.l l.b (by rw[<-gG];exact N1.pt.Xh.ts.Yb hG) gX
 obtain⟨E,hE⟩:=ZD (YT n.Zy.p n.Zy.l l.b);have wA:∀(G:Hp) (k:Nat) (r m:Int) (p:Option Addr) (L c:Nat),G[k]? = U (O [Z J 0,Z J 0,Q al 0 0].toArray 119)->wr G ⟨k,0,al⟩ [Z J r,Z J m,Q p L c]=U (G.setIfInBounds k (O [Z J r,Z J m,Q p L c].toArray 119)):=fun G k r m p L c hx=>by
  rw[Z2 hx 0 _];rfl
 have wB:∀(G:Hp) (k:Nat) (p:Option Addr) (L c:Nat),G[k]? = U (O [Q al 0 0].toArray 117)->Jb G ⟨k,0,al⟩ (Q p L c)=U (G.setIfInBounds k (O [Q p L c].toArray 117)):=fun G k p L c hx=>by
  rw[Ye hx 0 _];rfl
 refine VS.mono (N:=fun F' g'=>Zf h1.size h1 g'/\F' 3=ao (U ⟨h.size,0,al⟩)/\F' 4=ao (U ⟨h.size+1,0,al⟩)/\F' 5=ao (U ⟨h.size+2,0,al⟩)/\F' 8=Z J E/\gF h1.size g' (F' 6) (F' 7) n.Zy.p n.Zy.l l.b) ?_ ?_ (fun _ _ _ h=>h) (fun _ _ h=>h)
 .refine VS.z (h1.size) [6,13,14] (.q 0 (.p 1 (.p 2 (.q 3 (.p 4 (.q 5 (.or 6 (.p 7 (.p 8 (.p 9 (.p 10 (.or 11 (.s 12 (.w 13 (.w 14 (.p 15 .nil)))) (.s 12 (.s 11 (.w 13 (.w 14 (.p 15 .nil)))))))))) (.or 11 (.or 6 (.p 7 (.p 8 (.p 9 (.p 10 (.s 12 (.w 13 (.w 14 (.p 15 .nil)))))))) (.s 12 (.w 6 (.p 7 (.p 8 (.p 9 (.p 10 (.w 13 (.w 14 (.p 15 .nil)))))))))) (.s 12 (.or 6 (.p 7 (.p 8 (.p 9 (.p 10 (.s 11 (.w 13 (.w 14 (.p 15 .nil)))))))) (.s 11 (.w 6 (.p 7 (.p 8 (.p 9 (.p 10 (.w 13 (.w 14 (.p 15 .nil))))))))))))))))))) mixed po ?_;simp -implicitDefEqProofs only[go_sem,r4,Hg,r53,Qb,l4,l5];unfold gF Zr Y0
  repeat' (first|with_reducible exact Zf.refl _ _|with_reducible exact Zf.push gX _|with_reducible refine be ?_ ?_)
  all_goals first
   | (refine (call h1 (Zf.refl _ _)).use ?_
      rintro _ g5 ⟨⟨w1,w2,rfl,o1,o2⟩,b5⟩;obtain⟨p1,c1,rfl,_⟩:=o1.open;obtain⟨p2,c2,rfl,_⟩:=o2.open;rw[<-hE]at *;have s5:=b5.size;unfold Y0;simp -implicitDefEqProofs only[go_sem,b5];refine⟨⟨_,_,_,_,rfl,rfl,s5,gX,kF _ _ _,mW _ _ _,(o1.push _).push _,(o2.push _).push _⟩,⟨_,_,_,_,rfl,rfl,gX,s5,mW _ _ _,kF _ _ _,(o1.push _).push _,(o2.push _).push _⟩⟩)
   | (refine (call (h1.push (O _ 119)) (Zf.push (av _) _)).use ?_
      rintro _ g5 ⟨⟨w1,w2,rfl,o1,o2⟩,b5⟩;obtain⟨p1,c1,rfl,_⟩:=o1.open;obtain⟨p2,c2,rfl,_⟩:=o2.open;rw[<-hE]at *;have s5:=b5.size;rw[a0]at s5;have B5:Zf h1.size h1 g5:=(Zf.push (av _) _).trans (b5.mono Dq);have xA:=b5.get (k:=h1.size) Dq Zb;have Sf:=wA _ _ (if E=0 then l.b else ⟨0,0⟩).r (if E=0 then l.b else ⟨0,0⟩).n p1 (if E=0 then n.Zy.l else []).length c1 xA;have zA:=Za xA;unfold Y0;simp -implicitDefEqProofs only[go_sem,B5,Sf,zA];exact⟨_,_,_,_,rfl,rfl,av _,gX,by rw[Zl (by simpa using zA)];exact ZE xA,gs2 _ _ _ _,((o1.Z3 Dq _).push _).mono Dq,((o2.Z3 Dq _).push _).mono Dq⟩)
   | (refine (call (h1.push (O _ 117)) (Zf.push (av _) _)).use ?_
      rintro _ g5 ⟨⟨w1,w2,rfl,o1,o2⟩,b5⟩;obtain⟨p1,c1,rfl,_⟩:=o1.open;obtain⟨p2,c2,rfl,_⟩:=o2.open;rw[<-hE]at *;have s5:=b5.size;rw[a0]at s5;have B5:Zf h1.size h1 g5:=(Zf.push (av _) _).trans (b5.mono Dq);have xB:=b5.get (k:=h1.size) Dq Zb;have Hf:=wB _ _ p2 (if E=0 then n.Zy.l else []).length c2 xB;have zB:=Za xB;unfold Y0;simp -implicitDefEqProofs only[go_sem,B5,Hf,zB];exact⟨_,_,_,_,rfl,rfl,gX,av _,gs2 _ _ _ _,by rw[Zl (by simpa using zB)];exact ZE xB,((o1.Z3 Dq _).push _).mono Dq,((o2.Z3 Dq _).push _).mono Dq⟩)
   | (refine (call ((h1.push (O _ 119)).push (O _ 117)) ((Zf.push (av _) _).Yx Dq _)).use ?_
      rintro _ g5 ⟨⟨w1,w2,rfl,o1,o2⟩,b5⟩;obtain⟨p1,c1,rfl,_⟩:=o1.open;obtain⟨p2,c2,rfl,_⟩:=o2.open;rw[<-hE]at *;have s5:=b5.size;rw[a0,a0]at s5;have B5:Zf h1.size h1 g5:=((Zf.push (av _) _).Yx Dq _).trans (b5.mono L6);have xA:=b5.get (k:=h1.size) L6 (kF _ _ _);have xB:=b5.get (k:=h1.size+1) Dq (mW _ _ _);have Sf:=wA _ _ (if E=0 then l.b else ⟨0,0⟩).r (if E=0 then l.b else ⟨0,0⟩).n p1 (if E=0 then n.Zy.l else []).length c1 xA;have zA:=Za xA;have MA:=fun o:Obj=>(Zq (o:=o) (show h1.size≠h1.size+1 by omega)).trans xB;have Hf:=fun o:Obj=>wB _ _ p2 (if E=0 then n.Zy.l else []).length c2 (MA o);have zB:h1.size+1<g5.size:=Za xB;unfold Y0;simp -implicitDefEqProofs only[go_sem,B5,Sf,zA,Hf,zB];exact⟨_,_,_,_,rfl,rfl,gX,gX,(Zq gX).trans (ZE xA),ZE (MA _),((o1.Z3 L6 _).Z3 Dq _).mono L6,((o2.Z3 L6 _).Z3 Dq _).mono L6⟩)
   | (refine (call ((h1.push (O _ 117)).push (O _ 119)) ((Zf.push (av _) _).Yx Dq _)).use ?_
      rintro _ g5 ⟨⟨w1,w2,rfl,o1,o2⟩,b5⟩;obtain⟨p1,c1,rfl,_⟩:=o1.open;obtain⟨p2,c2,rfl,_⟩:=o2.open;rw[<-hE]at *;have s5:=b5.size;rw[a0,a0]at s5;have B5:Zf h1.size h1 g5:=((Zf.push (av _) _).Yx Dq _).trans (b5.mono L6);have xB:=b5.get (k:=h1.size) L6 (kF _ _ _);have xA:=b5.get (k:=h1.size+1) Dq (mW _ _ _);have Sf:=wA _ _ (if E=0 then l.b else ⟨0,0⟩).r (if E=0 then l.b else ⟨0,0⟩).n p1 (if E=0 then n.Zy.l else []).length c1 xA;have zA:=Za xA;have MA:=fun o:Obj=>(Zq (o:=o) (show h1.size+1≠h1.size by omega)).trans xB;have Hf:=fun o:Obj=>wB _ _ p2 (if E=0 then n.Zy.l else []).length c2 (MA o);have zB:h1.size<g5.size:=Za xB;unfold Y0;simp -implicitDefEqProofs only[go_sem,B5,Sf,zA,Hf,zB];exact⟨_,_,_,_,rfl,rfl,gX,gX,(Zq gX).trans (ZE xA),ZE (MA _),((o1.Z3 Dq _).Z3 L6 _).mono L6,((o2.Z3 Dq _).Z3 L6 _).mono L6⟩)
 .rintro F1 g1 ⟨b1,f3,f4,f5,f8,ka,kc,w1,w2,fA,fC,ge1,ge2,yA,yC,o1,o2⟩;rw[<-hE]at yA o1 o2;have kb:=ZN k1.Ya b1;have N2:=N1.Zu kb;have W2:=W1.Zu kb;have K2:Kp QC o h o g1:=k1.Yb b1;have y3:=x3.Zd kb;have y4:=x4.Zd kb;have y5:=x5.Zd kb;have mU:=zp.Zd kb;have aV:=(tb.Zd k1).Zd kb;have R2:=ZI N2.ZQ.2 N2.pt.store.len;have m3:=Za y3.2;have m4:=Za y4.2;have m5:=Za y5.2;have Qj:=Za N2.ZQ.2;have q3:hc g1 ⟨h.size,0,al⟩=U (Zr wb):=Zg y3.2;have q4:hc g1 ⟨h.size+1,0,al⟩=U (Zr nb):=Zg y4.2;have gH:rd g1 ⟨h.size+2,3,al⟩ 2=U [Z J l.b.r,Z J l.b.n]:=by rw[Yh y5.2 (by simp[Xg])];rfl
  have q51:hc g1 ⟨h.size+2,1,al⟩=U (Z J l.JU):=Zg y5.2;unfold Zr at q3 q4;have R2p:=R2.Bp;by_cases e:E=0
  case neg=>
   have eP:XC n l=⟨n,[⟨7,n.me,l.JU,n.Zy.p,S5,[]⟩],[]⟩:=by unfold XC;rw[<-hE,if_pos e]
   rw[eP];simp -implicitDefEqProofs only[go_sem,f8,e];refine VS.z (g1.size) [10] (.q 0 (.q 1 (.p 2 (.q 3 (.q 4 (.p 5 (.p 6 (.p 7 (.q 8 (.p 9 (.w 10 .nil))))))))))) mixed po ?_;simp -implicitDefEqProofs only[go_sem,f3,f4,f5,q3,q4,q51,R2p,m3,m4,m5,Qj];refine (Wl T g1 o wb nb Yr n.me YW fl Yj ZB l.JU ⟨7,0,0,n.Zy.p,S5,[]⟩ (Q al 0 0) K2.Ya W2 R2.me Qj (Im.nil _ _ _ _) YB).use ?_;rintro v' h' ⟨o',XS,k,_,W'⟩;simp -implicitDefEqProofs only[go_sem];exact⟨o',a,XS,(ZR K2).trans (k.mono fun t q=>q.elim .inl fun q=>.inr (.inl q)),N2.Zd k (by rintro t (rfl|rfl)<;>simp[Tg.of]),W'⟩
  rw[if_pos e]at yA o1 o2;have iv7:WU o g1 w2 n.Zy.l:=Im.Ub o2.Zy (fun b hb=>k1.Ya b hb);have iv6:WU o g1 w1 n.Zy.l:=Im.Ub o1.Zy (fun b hb=>k1.Ya b hb);unfold Zr at fA fC;simp -implicitDefEqProofs only[go_sem,f8,e,f3,f4,f5,fC];obtain⟨g2,JK⟩:=ZD (g1.push (O [WZ 152 [h.size,h.size+1,h.size+2,kc]].toArray 1):Hp);have k2:=Yc K2.Ya (O [WZ 152 [h.size,h.size+1,h.size+2,kc]].toArray 1);rw[<-JK]at k2;have K3:Kp QC o h o g2:=K2.trans k2;have x9:ZY o g2 g1.size (O [WZ 152 [h.size,h.size+1,h.size+2,kc]].toArray 1):=⟨K2.Ya _ (av _),by rw[JK];exact Zb⟩
  have e2:g1.push (O [WZ 152 [h.size,h.size+1,h.size+2,kc]].toArray 1)=g2:=JK.symm;unfold WZ at e2;simp only[bg]at e2;unfold Zr at e2;rw[e2];clear e2 JK;have N3:=N2.Zu k2;have W3:=W2.Zu k2;have z3:=y3.Zd k2;have z4:=y4.Zd k2;have z5:=y5.Zd k2;have z6:=(show ZY o g1 ka _ from⟨k1.Ya ka ge1,yA⟩).Zd k2;have z7:=(show ZY o g1 kc _ from⟨k1.Ya kc ge2,yC⟩).Zd k2;have iw7:=iv7.Zd k2;have iw6:=iv6.Zd k2;have tb3:=aV.Zd k2;clear R2 R2p m3 m4 m5 Qj q3 q4 gH q51 R1 Hg Qb l3 l4 l5 r3 r4 r53 r51;have R3:=ZI N3.ZQ.2 N3.pt.store.len;have m3:=Za z3.2;have m4:=Za z4.2;have m5:=Za z5.2;have m9:=Za x9.2;have Ol:=Za N3.ZQ.2;have q4:hc g2 ⟨h.size+1,0,al⟩=U (Zr nb):=Zg z4.2;have gH:rd g2 ⟨h.size+2,3,al⟩ 2=U (JF l.b):=by rw[Yh z5.2 (by simp[Xg])];rfl
  have q9:hc g2 ⟨g1.size,0,al⟩=U (WZ 152 [h.size,h.size+1,h.size+2,kc]):=Zg x9.2;have R3p:rd g2 ⟨nb,4,al⟩ 2=U (JF n.Zy.p):=R3.Bp;unfold Zr at q4;refine VS.q mixed po ?_;simp -implicitDefEqProofs only[go_sem,f4,f5,q4,gH,R3p];by_cases ep:n.Zy.p=l.b
  .have eP:XC n l=⟨n,[⟨1,n.me,l.JU,l.b,S5,n.Zy.l⟩],[]⟩:=by unfold XC;rw[<-hE,if_neg gX,if_pos ep]
   rw[eP];unfold WZ at q9;simp only[bg]at q9;unfold Zr at q9;simp -implicitDefEqProofs only[go_sem,ep,q9];refine (gC T g2 o wb nb Yr n.me YW fl Yj ZB h.size (h.size+1) (h.size+2) kc l _ w2 n.Zy.l K3.Ya W3 R3.me Ol YB z3 z4 z5 z7 iw7).use ?_;rintro v' h' ⟨o',XS,k,W'⟩;simp -implicitDefEqProofs only[go_sem];exact⟨o',a,XS,(ZR K3).trans (k.mono fun t q=>q.elim .inl fun q=>.inr (.inl q)),N3.Zd k (by rintro t (rfl|rfl)<;>simp[Tg.of]),W'⟩
  simp -implicitDefEqProofs only[go_sem,ep];have sW:=R3.tape;obtain⟨pd,cd,Pc⟩:=N3.pt.data.1.ZM;rw[Pc]at sW;obtain⟨E2,kG⟩:=ZD (Q6 n.data n.XW l.b);have call2:∀G,Zf g2.size g2 G->Zc aI T 153 #[az #[Q pd (am n.data) cd,Z J n.XW],az #[Z J l.b.r,Z J l.b.n]] G fun v' h'=>T1 G.size h' v' n.data n.XW E2 (Xt (Q7 l.b))/\Zf G.size G h':=fun G hG=>by
   rw[kG];exact Ln T G _ n.XW n.data l.b (by rw[<-Pc];exact N3.pt.data.bs.Yb hG) gX (tb3.tk.JT hG)
  have wT:∀(G:Hp) (k:Nat) (m:Int) (p:Option Addr) (L c:Nat),G[k]? = U (O [Q al 0 0,Z J 0].toArray 114)->wr G ⟨k,0,al⟩ [Q p L c,Z J m]=U (G.setIfInBounds k (O [Q p L c,Z J m].toArray 114)):=fun G k m p L c hx=>by
   rw[Z2 hx 0 _];rfl
  unfold JF at gH;refine VS.mono (N:=fun F' g'=>Zf g2.size g2 g'/\F' 3=ao (U ⟨h.size,0,al⟩)/\F' 4=ao (U ⟨h.size+1,0,al⟩)/\F' 5=ao (U ⟨h.size+2,0,al⟩)/\F' 6=ao (U ⟨ka,0,al⟩)/\F' 9=ao (U ⟨g1.size,0,al⟩)/\F' 8=Z J E2/\Fv g2.size g' (F' 10) n.data n.XW E2 (Xt (Q7 l.b))) ?_ ?_ (fun _ _ _ h=>h) (fun _ _ h=>h)
  .refine VS.z (g2.size) [6,11] (.q 0 (.p 1 (.p 2 (.q 3 (.p 4 (.q 5 (.or 6 (.p 7 (.p 8 (.p 9 (.s 10 (.w 11 (.p 12 .nil)))))) (.s 10 (.w 6 (.p 7 (.p 8 (.p 9 (.w 11 (.p 12 .nil)))))))))))))) mixed po ?_;simp -implicitDefEqProofs only[go_sem,f3,f4,f5,fA,q4,sW,gH,m4,m5,Ol];unfold Fv
   repeat' (first|with_reducible exact Zf.refl _ _|with_reducible exact Zf.push gX _|with_reducible refine be ?_ ?_)
   all_goals first
    | (refine (call2 g2 (Zf.refl _ _)).use ?_
       rintro _ g5 ⟨⟨w,rfl,o1⟩,b5⟩;obtain⟨p1,c1,rfl,_⟩:=o1.bs.open;have s5:=b5.size;simp -implicitDefEqProofs only[go_sem,b5];exact⟨f3,f4,f5,fA,_,_,rfl,s5,Zb,o1.push _⟩)
    | (refine (call2 (g2.push (O _ 114)) (Zf.push (av _) _)).use ?_
       rintro _ g5 ⟨⟨w,rfl,o1⟩,b5⟩;obtain⟨p1,c1,rfl,_⟩:=o1.bs.open;have B5:Zf g2.size g2 g5:=(Zf.push (av _) _).trans (b5.mono Dq);have xA:=b5.get (k:=g2.size) Dq Zb;have Sf:=wT _ _ (if E2=0 then n.XW else 0) p1 (if E2=0 then n.data++Xt (Q7 l.b) else []).length c1 xA;have zA:=Za xA;simp -implicitDefEqProofs only[go_sem,B5,Sf,zA];exact⟨f3,f4,f5,fA,_,_,rfl,av _,ZE xA,(o1.Z3 Dq _).mono Dq⟩)
  .rintro F2 g3 ⟨b3,f3,f4,f5,f6,f9,f8,kt,wt,fT,ge3,yT,oT⟩;have WV:=ZN K3.Ya b3;have N4:=N3.Zu WV;have W4:=W3.Zu WV;have K4:Kp QC o h o g3:=K3.Yb b3;by_cases e2:E2=0
   case neg=>
    have eP:XC n l=⟨n,[],[]⟩:=by unfold XC;rw[<-hE,if_neg gX,if_neg ep,<-kG,if_pos e2]
    rw[eP,ay];simp -implicitDefEqProofs only[go_sem,f8,e2];exact⟨o,a,YW,ZR K4,N4,W4⟩
   rw[if_pos e2]at yT oT;have u3:=z3.Zd WV;have u4:=z4.Zd WV;have u5:=z5.Zd WV;have u6:=z6.Zd WV;have u7:=z7.Zd WV;have u9:=x9.Zd WV;have iu6:=iw6.Zd WV;have iu7:=iw7.Zd WV;have iT:TD o g3 wt (n.data++Xt (Q7 l.b)):=⟨Im.Ub oT.Zy (fun b hb=>K3.Ya b hb),oT.byte⟩
   have eP:XC n l=⟨{ n with data:=n.data++Xt (Q7 l.b),Z8:=U (.EU ⟨l.b,n.Zy.l⟩ l.JU l.b n.Zy.l) },[],[]⟩:=by unfold XC;rw[<-hE,if_neg gX,if_neg ep,<-kG,if_neg gX]
   rw[eP,ay];clear R3 m3 m4 m5 m9 Ol q4 gH q9 R3p sW;obtain⟨pt,ct,rfl,_⟩:=oT.bs.open;have q4:hc g3 ⟨h.size+1,0,al⟩=U (Zr nb):=Zg u4.2;have qT:rd g3 ⟨kt,0,al⟩ 2=U [Q pt (n.data++Xt (Q7 l.b)).length ct,Z J n.XW]:=Zs yT rfl;have L1:=Za N4.ZQ.2;obtain⟨g4,w4,N5,k5⟩:=Z7.write (a:={ a with data:=Q pt (n.data++Xt (Q7 l.b)).length ct }) (n:={ n with data:=n.data++Xt (Q7 l.b) }) { N4.pt with data:=iT } K4.Ya N4.ZQ ((Y7 N4.ZQ.2 N4.pt.store.len).tape (Q pt (n.data++Xt (Q7 l.b)).length ct) n.XW rfl);have v4:=u4.Zd k5;have q4':hc g4 ⟨h.size+1,0,al⟩=U (Zr nb):=Zg v4.2;have Om:=Za N5.ZQ.2;have pn:UV o g4 wb i nb a.Zi (WZ 154 [ka,h.size+1,g1.size]) (U (.EU ⟨l.b,n.Zy.l⟩ l.JU l.b n.Zy.l)):=
    ⟨ka,h.size+1,g1.size,_,rfl,⟨_,u6.Zd k5,iu6.Zd k5⟩,v4,u9.Zd k5,h.size,h.size+1,h.size+2,kc,l,_,w2,rfl,u3.Zd k5,v4,u5.Zd k5,rfl,rfl,u7.Zd k5,iu7.Zd k5⟩
   obtain⟨g6,w6,N6,k6⟩:=Z7.write (a:={ a with data:=Q pt (n.data++Xt (Q7 l.b)).length ct,Z8:=WZ 154 [ka,h.size+1,g1.size] }) (n:={ n with data:=n.data++Xt (Q7 l.b),Z8:=U (.EU ⟨l.b,n.Zy.l⟩ l.JU l.b n.Zy.l) }) { N5.pt with Z8:=pn } k5.Ya N5.ZQ ((Y7 N5.ZQ.2 N5.pt.store.len).Z8 (WZ 154 [ka,h.size+1,g1.size]) rfl);unfold WZ at w6;simp only[bg]at w6;unfold Zr at q4 q4' w6;simp -implicitDefEqProofs only[go_sem,f8,e2,f4,f6,f9,fT,q4,qT,w4,L1,q4',w6,Om];have K6:Kp (fun t=>t=.world\/t=.Zo\/t=.Yf i) o h o g6:=((ZR K4).trans (k5.mono fun t q=>.inr (.inr q))).trans (k6.mono fun t q=>.inr (.inr q));exact⟨o,_,YW,K6,N6,(W4.Zd k5 (by rintro t rfl;simp[Tg.of])).Zd k6 (by rintro t rfl;simp[Tg.of])⟩
def ZbE(B:Nat)(g':Hp)(A:aw)(p:Ji)(l:List Vt)(x:Vt):Prop:=
 ∃ka w,A=ao (U ⟨ka,0,al⟩)/\B<=ka/\g'[ka]? = U (O (Y0 (if Xk p l x=0 then x.b else ⟨0,0⟩) w).toArray 119)/\JD B 168 Zn 8 g' w (if Xk p l x=0 then Ui l x else [])
set_option maxHeartbeats 1000000 in
theorem sX(h:Hp)(o:Ow)(wb i nb:Nat)(Yr:Nat->Nat)(a:NA)(n:Nd)(YW:WA)(fl:List XR)(Yj:Nat->Int)(ZB:List Pk)(l:XR)(w:aw)(d:UO o h)(N:ZV o h wb i nb a n)(W:ZS o h wb Yr YW fl Yj ZB)(iv:WU o h w l.vs)(YB:(am fl)<=1000000000000)(rD:n.Zy.l.length<=1000000)(mM:(am n.data)<=1000000)(tb:Az o h):
  Zc aI T 126 #[Zr wb,Zr nb,az (Xg l w).toArray] h fun v' h'=>∃o' a' XS,Kp (fun t=>t=.world\/t=.Zo\/t=.Yf i) o h o' h'/\ZV o' h' wb i nb a' (asked n l).n/\ZS o' h' wb Yr XS (fl++(asked n l).ls) Yj ZB:=by
 obtain⟨pw,cw,rfl⟩:=iv.ZM;refine Zc.Y8 [_,_,_] Tryz.func126 ?_;unfold Zr Xg;simp -implicitDefEqProofs only[go_sem];obtain⟨h1,YX⟩:=ZD (((h.push (O [Zr wb].toArray 105)).push (O [Zr nb].toArray 112)).push (O (Xg l (Q pw (am l.vs) cw)).toArray 170):Hp);have k1:Kp QC o h o h1:=by rw[YX];exact ((Kp.refl d _).push _ |>.push _).push _
 have s1:h1.size=h.size+3:=by rw[YX];simp
 have d1:∀b,h.size<=b->o b=al:=d;have x3:ZY o h1 h.size (O [Zr wb].toArray 105):=⟨d _ gX,by rw[YX,Zl L6,kF]⟩
 have x4:ZY o h1 (h.size+1) (O [Zr nb].toArray 112):=⟨d _ gX,by rw[YX,Zl Dq,mW]⟩
 have x5:ZY o h1 (h.size+2) (O (Xg l (Q pw (am l.vs) cw)).toArray 170):=⟨d _ gX,by
  have:=Zb (h:=(h.push (O [Zr wb].toArray 105)).push (O [Zr nb].toArray 112)) (o:=O (Xg l (Q pw (am l.vs) cw)).toArray 170);rw[YX];simpa using this⟩
 have e0:((h.push (O [Zr wb].toArray 105)).push (O [Zr nb].toArray 112)).push (O (Xg l (Q pw (am l.vs) cw)).toArray 170)=h1:=YX.symm;unfold Zr Xg at e0;rw[e0];clear e0 YX;have N1:=N.Zu k1;have W1:=W.Zu k1;have zp:=iv.Zd k1;have R1:=ZI N1.ZQ.2 N1.pt.store.len;have Qb:=Za N1.ZQ.2;have l3:=Za x3.2;have l4:=Za x4.2;have l5:=Za x5.2;have r3:hc h1 ⟨h.size,0,al⟩=U (Zr wb):=Zg x3.2;have r4:hc h1 ⟨h.size+1,0,al⟩=U (Zr nb):=Zg x4.2;have r53:rd h1 ⟨h.size+2,5,al⟩ 8=U (Zn l.v):=by rw[Yh x5.2 (by simp[Xg])];rfl
 have r51:hc h1 ⟨h.size+2,1,al⟩=U (Z J l.JU):=Zg x5.2;unfold Zr at r3 r4;have Hg:=R1.Zy;obtain⟨pv,cv,gG⟩:=N1.pt.Xh.ZM;rw[gG]at Hg;unfold Zn at r53;have call:∀G,Zf h1.size h1 G->Zc aI T 136 #[az #[Z J n.Zy.p.r,Z J n.Zy.p.n,Q pv n.Zy.l.length cv],az (Zn l.v).toArray] G fun v' h'=>fY G.size h' v' n.Zy.p n.Zy.l l.v/\Zf G.size G h':=fun G hG=>
  Ms T G n.Zy.p _ n.Zy.l l.v (by rw[<-gG];exact N1.pt.Xh.ts.Yb hG) gX
 unfold Zn at call;obtain⟨E,hE⟩:=ZD (Xk n.Zy.p n.Zy.l l.v);have wA:∀(G:Hp) (k:Nat) (r m:Int) (p:Option Addr) (L c:Nat),G[k]? = U (O [Z J 0,Z J 0,Q al 0 0].toArray 119)->wr G ⟨k,0,al⟩ [Z J r,Z J m,Q p L c]=U (G.setIfInBounds k (O [Z J r,Z J m,Q p L c].toArray 119)):=fun G k r m p L c hx=>by
  rw[Z2 hx 0 _];rfl
 refine VS.mono (N:=fun F' g'=>Zf h1.size h1 g'/\F' 3=ao (U ⟨h.size,0,al⟩)/\F' 4=ao (U ⟨h.size+1,0,al⟩)/\F' 5=ao (U ⟨h.size+2,0,al⟩)/\F' 7=Z J E/\ZbE h1.size g' (F' 6) n.Zy.p n.Zy.l l.v) ?_ ?_ (fun _ _ _ h=>h) (fun _ _ h=>h)
 .refine VS.z (h1.size) [6,11] (.q 0 (.p 1 (.p 2 (.q 3 (.p 4 (.q 5 (.or 6 (.p 7 (.p 8 (.p 9 (.s 10 (.w 11 (.p 12 .nil)))))) (.s 10 (.w 6 (.p 7 (.p 8 (.p 9 (.w 11 (.p 12 .nil)))))))))))))) mixed po ?_;simp -implicitDefEqProofs only[go_sem,r4,Hg,r53,Qb,l4,l5];unfold ZbE Y0
  repeat' (first|with_reducible exact Zf.refl _ _|with_reducible exact Zf.push gX _|with_reducible refine be ?_ ?_)
  all_goals first
   | (refine (call h1 (Zf.refl _ _)).use ?_
      rintro _ g5 ⟨⟨w1,rfl,o1⟩,b5⟩;obtain⟨p1,c1,rfl,_⟩:=o1.open;rw[<-hE]at *;have s5:=b5.size;unfold Y0;simp -implicitDefEqProofs only[go_sem,b5];exact⟨_,_,rfl,s5,Zb,o1.push _⟩)
   | (refine (call (h1.push (O _ 119)) (Zf.push (av _) _)).use ?_
      rintro _ g5 ⟨⟨w1,rfl,o1⟩,b5⟩;obtain⟨p1,c1,rfl,_⟩:=o1.open;rw[<-hE]at *;have B5:Zf h1.size h1 g5:=(Zf.push (av _) _).trans (b5.mono Dq);have xA:=b5.get (k:=h1.size) Dq Zb;have Sf:=wA _ _ (if E=0 then l.v.b else ⟨0,0⟩).r (if E=0 then l.v.b else ⟨0,0⟩).n p1 (if E=0 then Ui n.Zy.l l.v else []).length c1 xA;have zA:=Za xA;unfold Y0;simp -implicitDefEqProofs only[go_sem,B5,Sf,zA];exact⟨_,_,rfl,av _,ZE xA,(o1.Z3 Dq _).mono Dq⟩)
 .rintro F1 g1 ⟨b1,f3,f4,f5,f8,ka,w1,fA,ge1,yA,o1⟩;rw[<-hE]at yA o1;have kb:=ZN k1.Ya b1;have N2:=N1.Zu kb;have W2:=W1.Zu kb;have K2:Kp QC o h o g1:=k1.Yb b1;have y3:=x3.Zd kb;have y4:=x4.Zd kb;have y5:=x5.Zd kb;have mU:=zp.Zd kb;have aV:=(tb.Zd k1).Zd kb;have R2:=ZI N2.ZQ.2 N2.pt.store.len;have m3:=Za y3.2;have m4:=Za y4.2;have m5:=Za y5.2;have Qj:=Za N2.ZQ.2;have q3:hc g1 ⟨h.size,0,al⟩=U (Zr wb):=Zg y3.2;have q4:hc g1 ⟨h.size+1,0,al⟩=U (Zr nb):=Zg y4.2;have q51:hc g1 ⟨h.size+2,1,al⟩=U (Z J l.JU):=Zg y5.2;unfold Zr at q3 q4;have R2p:=R2.Bp;by_cases e:E=0
  case neg=>
   have eP:asked n l=⟨n,[⟨7,n.me,l.JU,n.Zy.p,S5,[]⟩],[]⟩:=by unfold asked;rw[<-hE,if_pos e]
   rw[eP];simp -implicitDefEqProofs only[go_sem,f8,e];refine VS.z (g1.size) [10] (.q 0 (.q 1 (.p 2 (.q 3 (.q 4 (.p 5 (.p 6 (.p 7 (.q 8 (.p 9 (.w 10 .nil))))))))))) mixed po ?_;simp -implicitDefEqProofs only[go_sem,f3,f4,f5,q3,q4,q51,R2p,m3,m4,m5,Qj];refine (Wl T g1 o wb nb Yr n.me YW fl Yj ZB l.JU ⟨7,0,0,n.Zy.p,S5,[]⟩ (Q al 0 0) K2.Ya W2 R2.me Qj (Im.nil _ _ _ _) YB).use ?_;rintro v' h' ⟨o',XS,k,_,W'⟩;simp -implicitDefEqProofs only[go_sem];exact⟨o',a,XS,(ZR K2).trans (k.mono fun t q=>q.elim .inl fun q=>.inr (.inl q)),N2.Zd k (by rintro t (rfl|rfl)<;>simp[Tg.of]),W'⟩
  rw[if_pos e]at yA o1;have iv6:WU o g1 w1 (Ui n.Zy.l l.v):=Im.Ub o1.Zy (fun b hb=>k1.Ya b hb);simp -implicitDefEqProofs only[go_sem,f8,e,f3,f4,f5];obtain⟨g2,JK⟩:=ZD (g1.push (O [WZ 157 [h.size,h.size+1,h.size+2]].toArray 1):Hp);have k2:=Yc K2.Ya (O [WZ 157 [h.size,h.size+1,h.size+2]].toArray 1);rw[<-JK]at k2;have K3:Kp QC o h o g2:=K2.trans k2;have x9:ZY o g2 g1.size (O [WZ 157 [h.size,h.size+1,h.size+2]].toArray 1):=⟨K2.Ya _ (av _),by rw[JK];exact Zb⟩
  have e2:g1.push (O [WZ 157 [h.size,h.size+1,h.size+2]].toArray 1)=g2:=JK.symm;unfold WZ at e2;simp only[bg]at e2;unfold Zr at e2;rw[e2];clear e2 JK;have N3:=N2.Zu k2;have W3:=W2.Zu k2;have z3:=y3.Zd k2;have z4:=y4.Zd k2;have z5:=y5.Zd k2;have z6:=(show ZY o g1 ka _ from⟨k1.Ya ka ge1,yA⟩).Zd k2;have iw6:=iv6.Zd k2;have tb3:=aV.Zd k2;clear R2 R2p m3 m4 m5 Qj q3 q4 q51 R1 Hg Qb l3 l4 l5 r3 r4 r53 r51;have R3:=ZI N3.ZQ.2 N3.pt.store.len;have m3:=Za z3.2;have m4:=Za z4.2;have m5:=Za z5.2;have m9:=Za x9.2;have Ol:=Za N3.ZQ.2;have q4:hc g2 ⟨h.size+1,0,al⟩=U (Zr nb):=Zg z4.2;have gH:rd g2 ⟨h.size+2,5,al⟩ 8=U (Zn l.v):=by rw[Yh z5.2 (by simp[Xg])];rfl
  have q9:hc g2 ⟨g1.size,0,al⟩=U (WZ 157 [h.size,h.size+1,h.size+2]):=Zg x9.2;have R3v:=R3.Xh;have N3v:=N3.pt.Xh;unfold Zr at q4;unfold Zn at gH;refine VS.mono (N:=fun F' g'=>Zf g2.size g2 g'/\F' 3=ao (U ⟨h.size,0,al⟩)/\F' 4=ao (U ⟨h.size+1,0,al⟩)/\F' 5=ao (U ⟨h.size+2,0,al⟩)/\F' 6=ao (U ⟨ka,0,al⟩)/\F' 8=ao (U ⟨g1.size,0,al⟩)/\F' 41=ba (decide (l.v∈n.Zy.l))) ?_ ?_ (fun _ _ _ h=>h) (fun _ _ h=>h)
  .refine VS.z (g2.size) [7] (.q 0 (.p 1 (.p 2 (.p 3 (.q 4 (.p 5 (.q 6 (.w 7 .nil)))))))) mixed po ?_;simp -implicitDefEqProofs only[go_sem,f3,f4,f5,fA,q4,gH,R3v,m4,m5,Ol];have cv:=Gu T g2 a.Xh n.Zy.l l.v N3v.ts gX;unfold Zn at cv;refine cv.use ?_;rintro _ g5 ⟨rfl,b5⟩;simp -implicitDefEqProofs only[go_sem,b5,f3,f4,f5,fA]
  rintro F1' dn ⟨xt,f3,f4,f5,fA,f9,f41⟩;have Pm:=ZN K3.Ya xt
  replace N3:=N3.Zu Pm
  replace W3:=W3.Zu Pm
  replace K3:=K3.trans Pm
  replace z3:=z3.Zd Pm
  replace z4:=z4.Zd Pm
  replace z5:=z5.Zd Pm
  replace z6:=z6.Zd Pm
  replace iw6:=iw6.Zd Pm
  replace tb3:=tb3.Zd Pm
  replace x9:=x9.Zd Pm
  clear R3 m3 m4 m5 m9 Ol q4 gH q9 R3v N3v;have R3:=ZI N3.ZQ.2 N3.pt.store.len;have m3:=Za z3.2;have m4:=Za z4.2;have m5:=Za z5.2;have m9:=Za x9.2;have Ol:=Za N3.ZQ.2;have q4:hc dn ⟨h.size+1,0,al⟩=U (Zr nb):=Zg z4.2;have gH:rd dn ⟨h.size+2,5,al⟩ 8=U (Zn l.v):=by rw[Yh z5.2 (by simp[Xg])];rfl
  have q9:hc dn ⟨g1.size,0,al⟩=U (WZ 157 [h.size,h.size+1,h.size+2]):=Zg x9.2;unfold Zr at q4;by_cases ep:l.v∈n.Zy.l
  .have eP:asked n l=⟨n,[⟨3,n.me,l.JU,Qh,l.v,[]⟩],[]⟩:=by unfold asked;rw[<-hE,if_neg gX,if_pos ep]
   rw[eP];unfold WZ at q9;simp only[bg]at q9;unfold Zr at q9;simp -implicitDefEqProofs only[go_sem,f41,ep,f9,q9];refine (gD T dn o wb nb Yr n.me YW fl Yj ZB h.size (h.size+1) (h.size+2) l _ K3.Ya W3 R3.me Ol YB z3 z4 z5).use ?_;rintro v' h' ⟨o',XS,k,W'⟩;simp -implicitDefEqProofs only[go_sem];exact⟨o',a,XS,(ZR K3).trans (k.mono fun t q=>q.elim .inl fun q=>.inr (.inl q)),N3.Zd k (by rintro t (rfl|rfl)<;>simp[Tg.of]),W'⟩
  simp -implicitDefEqProofs only[go_sem,f41,ep];have sW:=R3.tape;obtain⟨pd,cd,Pc⟩:=N3.pt.data.1.ZM;rw[Pc]at sW;obtain⟨E2,kG⟩:=ZD (U6 n.data n.XW l.v);have call2:∀G,Zf dn.size dn G->Zc aI T 159 #[az #[Q pd (am n.data) cd,Z J n.XW],az (Zn l.v).toArray] G fun v' h'=>T1 G.size h' v' n.data n.XW E2 (Xt (Ph l.v))/\Zf G.size G h':=fun G hG=>by
   rw[kG];exact rI T G _ n.XW n.data l.v (by rw[<-Pc];exact N3.pt.data.bs.Yb hG) gX (tb3.tk.JT hG)
  have wT:∀(G:Hp) (k:Nat) (m:Int) (p:Option Addr) (L c:Nat),G[k]? = U (O [Q al 0 0,Z J 0].toArray 114)->wr G ⟨k,0,al⟩ [Q p L c,Z J m]=U (G.setIfInBounds k (O [Q p L c,Z J m].toArray 114)):=fun G k m p L c hx=>by
   rw[Z2 hx 0 _];rfl
  unfold Zn at gH call2;refine VS.mono (N:=fun F' g'=>Zf dn.size dn g'/\F' 3=ao (U ⟨h.size,0,al⟩)/\F' 4=ao (U ⟨h.size+1,0,al⟩)/\F' 5=ao (U ⟨h.size+2,0,al⟩)/\F' 6=ao (U ⟨ka,0,al⟩)/\F' 8=ao (U ⟨g1.size,0,al⟩)/\F' 7=Z J E2/\Fv dn.size g' (F' 9) n.data n.XW E2 (Xt (Ph l.v))) ?_ ?_ (fun _ _ _ h=>h) (fun _ _ h=>h)
  .refine VS.z (dn.size) [6,11] (.q 0 (.p 1 (.p 2 (.q 3 (.p 4 (.q 5 (.or 6 (.p 7 (.p 8 (.p 9 (.s 10 (.w 11 (.p 12 .nil)))))) (.s 10 (.w 6 (.p 7 (.p 8 (.p 9 (.w 11 (.p 12 .nil)))))))))))))) mixed po ?_;simp -implicitDefEqProofs only[go_sem,f3,f4,f5,fA,f9,q4,sW,gH,m4,m5,Ol];unfold Fv
   repeat' (first|with_reducible exact Zf.refl _ _|with_reducible exact Zf.push gX _|with_reducible refine be ?_ ?_)
   all_goals first
    | (refine (call2 dn (Zf.refl _ _)).use ?_
       rintro _ g5 ⟨⟨w,rfl,o1⟩,b5⟩;obtain⟨p1,c1,rfl,_⟩:=o1.bs.open;have s5:=b5.size;simp -implicitDefEqProofs only[go_sem,b5];exact⟨f3,f4,f5,fA,f9,_,_,rfl,s5,Zb,o1.push _⟩)
    | (refine (call2 (dn.push (O _ 114)) (Zf.push (av _) _)).use ?_
       rintro _ g5 ⟨⟨w,rfl,o1⟩,b5⟩;obtain⟨p1,c1,rfl,_⟩:=o1.bs.open;have B5:Zf dn.size dn g5:=(Zf.push (av _) _).trans (b5.mono Dq);have xA:=b5.get (k:=dn.size) Dq Zb;have Sf:=wT _ _ (if E2=0 then n.XW else 0) p1 (if E2=0 then n.data++Xt (Ph l.v) else []).length c1 xA;have zA:=Za xA;simp -implicitDefEqProofs only[go_sem,B5,Sf,zA];exact⟨f3,f4,f5,fA,f9,_,_,rfl,av _,ZE xA,(o1.Z3 Dq _).mono Dq⟩)
  .rintro F2 g3 ⟨b3,f3,f4,f5,f6,f9,f8,kt,wt,fT,ge3,yT,oT⟩;have WV:=ZN K3.Ya b3;have N4:=N3.Zu WV;have W4:=W3.Zu WV;have K4:Kp QC o h o g3:=K3.Yb b3;by_cases e2:E2=0
   case neg=>
    have eP:asked n l=⟨n,[],[]⟩:=by unfold asked;rw[<-hE,if_neg gX,if_neg ep,<-kG,if_pos e2]
    rw[eP,ay];simp -implicitDefEqProofs only[go_sem,f8,e2];exact⟨o,a,YW,ZR K4,N4,W4⟩
   rw[if_pos e2]at yT oT;have u3:=z3.Zd WV;have u4:=z4.Zd WV;have u5:=z5.Zd WV;have u6:=z6.Zd WV;have u9:=x9.Zd WV;have iu6:=iw6.Zd WV;have iT:TD o g3 wt (n.data++Xt (Ph l.v)):=⟨Im.Ub oT.Zy (fun b hb=>K3.Ya b hb),oT.byte⟩
   have eP:asked n l=⟨{ n with data:=n.data++Xt (Ph l.v),Z8:=U (.EV ⟨l.v.b,Ui n.Zy.l l.v⟩ l.JU l.v) },[],[]⟩:=by unfold asked;rw[<-hE,if_neg gX,if_neg ep,<-kG,if_neg gX]
   rw[eP,ay];clear R3 m3 m4 m5 m9 Ol q4 gH q9 sW;obtain⟨pt,ct,rfl,_⟩:=oT.bs.open;have q4:hc g3 ⟨h.size+1,0,al⟩=U (Zr nb):=Zg u4.2;have qT:rd g3 ⟨kt,0,al⟩ 2=U [Q pt (n.data++Xt (Ph l.v)).length ct,Z J n.XW]:=Zs yT rfl;have L1:=Za N4.ZQ.2;obtain⟨g4,w4,N5,k5⟩:=Z7.write (a:={ a with data:=Q pt (n.data++Xt (Ph l.v)).length ct }) (n:={ n with data:=n.data++Xt (Ph l.v) }) { N4.pt with data:=iT } K4.Ya N4.ZQ ((Y7 N4.ZQ.2 N4.pt.store.len).tape (Q pt (n.data++Xt (Ph l.v)).length ct) n.XW rfl);have v4:=u4.Zd k5;have q4':hc g4 ⟨h.size+1,0,al⟩=U (Zr nb):=Zg v4.2;have Om:=Za N5.ZQ.2;have pn:UV o g4 wb i nb a.Zi (WZ 160 [ka,h.size+1,g1.size]) (U (.EV ⟨l.v.b,Ui n.Zy.l l.v⟩ l.JU l.v)):=
    ⟨ka,h.size+1,g1.size,_,rfl,⟨_,u6.Zd k5,iu6.Zd k5⟩,v4,u9.Zd k5,h.size,h.size+1,h.size+2,l,_,rfl,u3.Zd k5,v4,u5.Zd k5,rfl,rfl⟩
   obtain⟨g6,w6,N6,k6⟩:=Z7.write (a:={ a with data:=Q pt (n.data++Xt (Ph l.v)).length ct,Z8:=WZ 160 [ka,h.size+1,g1.size] }) (n:={ n with data:=n.data++Xt (Ph l.v),Z8:=U (.EV ⟨l.v.b,Ui n.Zy.l l.v⟩ l.JU l.v) }) { N5.pt with Z8:=pn } k5.Ya N5.ZQ ((Y7 N5.ZQ.2 N5.pt.store.len).Z8 (WZ 160 [ka,h.size+1,g1.size]) rfl);unfold WZ at w6;simp only[bg]at w6;unfold Zr at q4 q4' w6;simp -implicitDefEqProofs only[go_sem,f8,e2,f4,f6,f9,fT,q4,qT,w4,L1,q4',w6,Om];have K6:Kp (fun t=>t=.world\/t=.Zo\/t=.Yf i) o h o g6:=((ZR K4).trans (k5.mono fun t q=>.inr (.inr q))).trans (k6.mono fun t q=>.inr (.inr q));exact⟨o,_,YW,K6,N6,(W4.Zd k5 (by rintro t rfl;simp[Tg.of])).Zd k6 (by rintro t rfl;simp[Tg.of])⟩
theorem Ur.XD{i:Nat}{sv:List (Int × Nat)}{vt:List (Int × List (Int × Unit))}(s:Ur o i h sv vt)(k:Int):(Go.V.XD sv k=al/\Go.V.XD vt k=al)\/∃b l,Go.V.XD sv k=U b/\Go.V.XD vt k=U l/\QN o (.T4 i k) h b (L0 l):=by
 induction s with
 | nil=>exact .inl ⟨rfl,rfl⟩
 | @cons a b l m FY _ ih=>
  obtain⟨a1,a2⟩:=a;obtain⟨b1,b2⟩:=b;obtain⟨rfl,h2⟩:=FY;unfold Go.V.XD;by_cases q:a1=k
  .rw[if_pos q,if_pos q];subst q;exact .inr ⟨_,_,rfl,rfl,h2⟩
  .rw[if_neg q,if_neg q];exact ih
theorem Ur.add{i:Nat}{k:Int}{b:Nat}{l:List (Int × Unit)}(hb:QN o (.T4 i k) h b (L0 l)):∀{sv:List (Int × Nat)} {vt:List (Int × List (Int × Unit))},Ur o i h sv vt->Go.V.XD sv k=al->Ur o i h (ins sv k b) (ins vt k l):=by
 intro sv vt s
 induction s with
 | nil=>intro _;exact .cons ⟨rfl,hb⟩ .nil
 | @cons a b l m FY _ ih=>
  intro hn;obtain⟨a1,a2⟩:=a;obtain⟨b1,b2⟩:=b;obtain⟨rfl,h2⟩:=FY;unfold Go.V.XD at hn;split at hn
  .cases hn
  .rename_i q;unfold ins;rw[if_neg q,if_neg q];exact .cons ⟨rfl,h2⟩ (ih hn)
theorem Ur.put{i:Nat}{h':Hp}{k:Int}{b:Nat}{l':List (Int × Unit)}(kp:Kp (fun t=>t=.T4 i k) o h o h')(hb:QN o (.T4 i k) h' b (L0 l')):∀{sv:List (Int × Nat)} {vt:List (Int × List (Int × Unit))},Ur o i h sv vt->(sv.map (·.1)).Nodup->Go.V.XD sv k=U b->Ur o i h' sv (ins vt k l'):=by
 intro sv vt s
 induction s with
 | nil=>intro _ h;cases h
 | @cons a c l m FY tl ih=>
  intro hn hl;obtain⟨a1,a2⟩:=a;obtain⟨b1,b2⟩:=c;obtain⟨h1,h2⟩:=FY;simp only at h1 h2;subst h1;simp only[bc,bf]at hn;unfold Go.V.XD at hl;unfold ins;by_cases q:a1=k
  .rw[if_pos q]at hl ⊢;subst q;obtain rfl:=Option.some.inj hl;refine .cons ⟨rfl,hb⟩ ?_;have key:∀{l:List (Int × Nat)} {m:List (Int × List (Int × Unit))},Ur o i h l m->a1 ∉ l.map (·.1)->Ur o i h' l m:=by
    intro l m s
    induction s with
    | nil=>intro _;exact .nil
    | @cons x y l m hxy _ ih2=>
     intro hn;simp only[bc,bw,not_or]at hn;exact .cons ⟨hxy.1,hxy.2.Zd kp (by intro e;cases e;exact hn.1 hxy.1.symm)⟩ (ih2 hn.2)
   exact key tl hn.1
  .rw[if_neg q]at hl ⊢;exact .cons ⟨rfl,h2.Zd kp (by intro e;cases e;exact q rfl)⟩ (ih hn.2 hl)
theorem Bx{β:Type}:∀{l:List (Int × β)} {k:Int} {v:β},(l.map (·.1)).Nodup->((ins l k v).map (·.1)).Nodup/\∀x,x∈(ins l k v).map (·.1)->x=k\/x∈l.map (·.1):=by
 intro l
 induction l with
 | nil=>intro k v _;exact⟨by simp[ins],fun x hx=>by simp[ins]at hx;exact .inl hx⟩
 | cons a l ih=>
  intro k v hn;obtain⟨a1,a2⟩:=a;simp only[bc,bf]at hn;unfold ins;by_cases q:a1=k
  .rw[if_pos q];exact⟨by simp only[bc,bf];exact hn,fun x hx=>.inr hx⟩
  .rw[if_neg q];obtain⟨h1,h2⟩:=ih (k:=k) (v:=v) hn.2;refine⟨?_,fun x hx=>?_⟩
   .simp only[bc,bf];exact⟨fun hm=>(h2 _ hm).elim q hn.1,h1⟩
   .simp only[bc,bw]at hx ⊢;rcases hx with hx|hx
    .exact .inr (.inl hx)
    .exact (h2 _ hx).elim .inl fun q=>.inr (.inr q)
theorem zq{β:Type}:∀(l:List (Int × β)) (k:Int) (u v:β),ins (ins l k u) k v=ins l k v:=by
 intro l
 induction l with
 | nil=>intro k u v;unfold ins;simp[ins]
 | cons a l ih=>
  intro k u v;obtain⟨a1,a2⟩:=a;have h1:∀(x:Int) (y z:β) (m:List (Int × β)),ins ((x,y) :: m) k z=if x=k then (x,z) :: m else (x,y) :: ins m k z:=fun _ _ _ _=>rfl
  rw[h1,h1];by_cases q:a1=k
  .rw[if_pos q,if_pos q,h1,if_pos q]
  .rw[if_neg q,if_neg q,h1,if_neg q,ih]
theorem YZ.sY{i:Nat}{ra:RA}{r:Q9}(s:YZ o i h ra r)(d:UO o h){k:Int}{b:Nat}{l l':List (Int × Unit)}(hl:XD ra.sv k=U b)(hb:QN o (.T4 i k) h b (L0 l)):
  Kp (fun t=>t=.T4 i k) o h o (h.setIfInBounds b (XJ (L0 l')))/\YZ o i (h.setIfInBounds b (XJ (L0 l'))) ra { r with JV:=ins r.JV k l' }:=by
 have kk:Kp (fun t=>t=.T4 i k) o h o (h.setIfInBounds b (XJ (L0 l'))):=(Kp.refl d (fun t=>t=.T4 i k)).set hb.1 rfl _;exact⟨kk,s.ZQ.Zd kk MI,s.Yw.Zd kk MI,s.Rj.Zd kk,s.Xf.Zd kk MI,s.JV.Zd kk MI,Ur.put kk ⟨hb.1,ZE hb.2⟩ s.T5 s.keys hl,s.keys⟩
def kH(i:Nat)(t:Tg):Prop:=Ud i t\/X6 i t
set_option maxHeartbeats 1000000 in
theorem LA(h:Hp)(o:Ow)(wb i nb:Nat)(Yr:Nat->Nat)(a:NA)(n:Nd)(YW:WA)(fl:List XR)(Yj:Nat->Int)(ZB:List Pk)(l:XR)(w:aw)(d:UO o h)(N:ZV o h wb i nb a n)(W:ZS o h wb Yr YW fl Yj ZB)(iv:WU o h w l.vs)(hk:n.Zp.length<=100000000000)(hl:n.ZP.length<=100000000000)(ht:(am ZB)<=100000000000)(hq:n.Zw.length<=1000000000000)(hw:n.Zh.length<=1000000000000)(hv:∀r s,n.Zi=U r->((XD r.JV s).getD []).length<=1000000):
  Zc aI T 125 #[Zr wb,Zr nb,az (Xg l w).toArray] h fun v' h'=>∃o' a' XS,Kp (kH i) o h o' h'/\ZV o' h' wb i nb a' (Y6 n l).n/\ZS o' h' wb Yr XS fl Yj (ZB++(Y6 n l).ts):=by
 obtain⟨pw,cw,rfl⟩:=iv.ZM;refine Zc.Y8 [_,_,_] Tryz.func125 ?_;unfold Zr Xg;have VZ:=Za N.ZQ.2;have R:=ZI N.ZQ.2 N.pt.store.len;obtain⟨h1,YX⟩:=ZD (h.push (O (Xg l (Q pw (am l.vs) cw)).toArray 170):Hp);have k1:Kp QC o h o h1:=by rw[YX];exact Yc d _
 have x5:ZY o h1 h.size (O (Xg l (Q pw (am l.vs) cw)).toArray 170):=⟨d _ (av _),by rw[YX];exact Zb⟩
 have e0:=YX.symm;unfold Xg at e0;have N1:=N.Zu k1;have W1:=W.Zu k1;have zp:=iv.Zd k1;have R1:=ZI N1.ZQ.2 N1.pt.store.len;have Qb:=Za N1.ZQ.2;have m5:=Za x5.2;have q0:hc h1 ⟨h.size,0,al⟩=U (Z J l.YI):=Zg x5.2;have q1:hc h1 ⟨h.size,1,al⟩=U (Z J l.JU):=Zg x5.2;have q3:rd h1 ⟨h.size,3,al⟩ 2=U (JF l.b):=by rw[Yh x5.2 (by simp[Xg])];rfl
 have q5:hc h1 ⟨h.size,5,al⟩=U (Z J l.v.ZA):=Zg x5.2;have q6:rd h1 ⟨h.size,6,al⟩ 2=U (JF l.v.b):=by rw[Yh x5.2 (by simp[Xg])];rfl
 have q13:hc h1 ⟨h.size,13,al⟩=U (Q pw (am l.vs) cw):=Zg x5.2;have mX:=N1.pt.Zi;have vw:=R.Zi
 cases hr:n.Zi with
 | none=>
  cases zr:a.Zi with
  | some ra=>rw[hr,zr]at mX;exact mX.elim
  | none=>
   have eP:Y6 n l=⟨n,[],[]⟩:=by unfold Y6;rw[hr]
   rw[zr]at vw;unfold Ok at vw;rw[eP,ay];simp -implicitDefEqProofs only[go_sem,vw];rw[e0];exact⟨o,a,YW,ZR k1,N1,W1⟩
 | some r=>
  cases zr:a.Zi with
  | none=>rw[hr,zr]at mX;exact mX.elim
  | some ra=>
   rw[hr,zr]at mX;have RG:YZ o i h1 ra r:=mX;rw[zr]at vw;unfold Ok Zr at vw;have mrb:=Za RG.ZQ.2;have rr0:rd h1 ⟨ra.rb,0,al⟩ 2=U (JF r.b):=by rw[Yh RG.ZQ.2 (by simp[di])];rfl
   have rr2:hc h1 ⟨ra.rb,2,al⟩=U (.map (U ra.pb)):=Zg RG.ZQ.2;have rr5:hc h1 ⟨ra.rb,5,al⟩=U (.map (U ra.vb)):=Zg RG.ZQ.2;by_cases c1:l.YI=1
   .have c1b:=eq_true c1;simp -implicitDefEqProofs only[go_sem,vw,c1b];rw[e0];refine VS.q mixed po ?_;simp -implicitDefEqProofs only[go_sem,q3,rr0];by_cases c2:l.b=r.b
    .have eP:Y6 n l=⟨ZdC n r l,[],[]⟩:=by unfold Y6;rw[hr];simp only;rw[if_pos c1,if_pos c2]
     rw[eP,ay];have c2b:=eq_true c2;simp -implicitDefEqProofs only[go_sem,c2b];refine VS.z (h1.size) [8] (.p 0 (.p 1 (.p 2 (.q 3 (.p 4 (.q 5 (.p 6 (.q 7 (.w 8 .nil))))))))) mixed po ?_;simp -implicitDefEqProofs only[go_sem,rr2,q1,q13,mrb,m5];rw[Jg Lt RG.Yw.2];simp -implicitDefEqProofs only[go_sem];obtain⟨k2,R2⟩:=RG.gE k1.Ya (k:=l.JU) zp;refine⟨o,{ a with Zi:=U { ra with pv:=ins ra.pv l.JU (Q pw (am l.vs) cw) } },YW,(ZR k1).trans (k2.mono fun t q=>.inr (.inr (.inl q))),⟨?_,?_⟩,W1.Zd k2 (by rintro t rfl;simp[Tg.of])⟩
     .have:=N1.ZQ.Zd k2 MI;rw[<-Lz (U { r with Yw:=ins r.Yw l.JU l.vs }) zr (ra':={ ra with pv:=ins ra.pv l.JU (Q pw (am l.vs) cw) }) rfl]at this;exact this
     .exact Z7.QO N1.pt (k2.mono fun t q=>.inr (.inl q)) zr rfl R2
    .have eP:Y6 n l=⟨n,[],[]⟩:=by unfold Y6;rw[hr];simp only;rw[if_pos c1,if_neg c2]
     rw[eP,ay];simp -implicitDefEqProofs only[go_sem,c2];exact⟨o,a,YW,ZR k1,N1,W1⟩
   .simp -implicitDefEqProofs only[go_sem,vw,c1];rw[e0];refine VS.q mixed po ?_;simp -implicitDefEqProofs only[go_sem,q6,rr0];by_cases c2:l.v.b=r.b
    case neg=>
     have eP:Y6 n l=⟨n,[],[]⟩:=by unfold Y6;rw[hr];simp only;rw[if_neg c1,if_pos c2]
     rw[eP,ay];simp -implicitDefEqProofs only[go_sem,c2];exact⟨o,a,YW,ZR k1,N1,W1⟩
    have eP:Y6 n l=if 5<2*(Sq r l).length then Vu (I3 n r l) l.v.ZA l.v.cm else ⟨I3 n r l,[],[]⟩:=by unfold Y6;rw[hr];simp only;rw[if_neg c1,if_neg (fun q=>q c2)]
    rw[eP];have hvr:=hv r l.v.ZA hr;have c2b:=eq_true c2;have lk:=fun (K:aw->Hp->Prop)=>YK (K:=K) (n:=l.v.ZA) (c:=false) I9 Fp RG.JV.2;rw[XI]at lk;obtain⟨S,hS⟩:=ZD ((XD r.JV l.v.ZA).getD []);have hlen:(am S)<=1000000:=by rw[hS];exact hvr
    have NA1:ZV o h1 wb i nb { a with Zi:=U ra } { n with Zi:=U r }:=by
     have e1:({ a with Zi:=U ra }:NA)=a:=by rw[<-zr]
     have e2:({ n with Zi:=U r }:Nd)=n:=by rw[<-hr]
     rw[e1,e2];exact N1
    have KG:Kp (kH i) o h o h1:=ZR k1;have zu:=vw;rcases RG.T5.XD l.v.ZA with⟨e1,e2⟩|⟨sb,S',e1,e2,hsb⟩
    .have hS0:S=[]:=by rw[hS,e2];rfl
     rw[e1]at lk;simp only[a9,a7,a8,if_false]at lk
     -- the new set
     obtain⟨h2,WT⟩:=ZD (h1.push (XJ []):Hp);have eh2:h1.push (.map #[] 0)=h2:=WT.symm;have k2a:Kp (X6 i) o h1 (XY o h1.size (.T4 i l.v.ZA)) h2:=by
      rw[WT];exact ((Kp.refl k1.Ya _).push _).SK (av _) Dq (.inr (.inr (.inr (.inr ⟨_,rfl⟩))))
     have kx:Kp QC o h1 o h2:=by rw[WT];exact Yc k1.Ya _
     have RGx:=RG.Zd kx (fun _ _ q=>q);have lo:∀b,b<h1.size->XY o h1.size (.T4 i l.v.ZA) b=o b:=fun b hb=>Xp gX;obtain⟨o2,vd⟩:=ZD (XY o h1.size (.T4 i l.v.ZA));rw[<-vd]at k2a lo;have zv:YZ o2 i h2 ra r:=by
      have lt:∀{b:Nat} {x:Obj},h1[b]? = U x->b<h1.size:=Za;refine⟨⟨(lo _ (Za RG.ZQ.2)).trans RG.ZQ.1,RGx.ZQ.2⟩,⟨(lo _ (Za RG.Yw.2)).trans RG.Yw.1,RGx.Yw.2⟩,RG.Rj.Zd k2a,⟨(lo _ (Za RG.Xf.2)).trans RG.Xf.1,RGx.Xf.2⟩,⟨(lo _ (Za RG.JV.2)).trans RG.JV.1,RGx.JV.2⟩,?_,RG.keys⟩;have key:∀{sv:List (Int × Nat)} {vt:List (Int × List (Int × Unit))},Ur o i h1 sv vt->Ur o2 i h2 sv vt:=by
       intro sv vt s
       induction s with
       | nil=>exact .nil
       | cons x _ ih=>exact .cons ⟨x.1,⟨(lo _ (Za x.2.2)).trans x.2.1,(x.2.Zd kx id).2⟩⟩ ih
      exact key RG.T5
     have ms:QN o2 (.T4 i l.v.ZA) h2 h1.size (L0 []):=⟨by rw[vd];exact Xj,by rw[WT];exact Zb⟩
     have ZEn:ra.rb<h2.size:=by have:=kx.size;omega
     simp -implicitDefEqProofs only[go_sem,vw,c2b,q5,rr5,lk,vo];rw[eh2,Jg I9 zv.JV.2];obtain⟨G,hG⟩:=ZD (h2.setIfInBounds ra.vb (XJ (ins (U2 vo ra.sv) l.v.ZA (.map (U h1.size)))));rw[<-hG];obtain⟨j8,ZdL⟩:∃j8:RA,j8 = { ra with sv:=ins ra.sv l.v.ZA h1.size }:=⟨_,rfl⟩
     have kk:Kp (fun t=>t=.JV i) o2 h2 o2 G:=by rw[hG];exact (Kp.refl k2a.Ya (fun t=>t=.JV i)).set zv.JV.1 rfl _
     have RGG:YZ o2 i G j8 { r with JV:=ins r.JV l.v.ZA [] }:=by
      rw[ZdL];refine⟨zv.ZQ.Zd kk MI,zv.Yw.Zd kk MI,zv.Rj.Zd kk,zv.Xf.Zd kk MI,⟨zv.JV.1,?_⟩,(Ur.add ms zv.T5 e1).Zd kk (fun _ e=>by cases e),(Bx RG.keys).1⟩;show G[ra.vb]? = U (XJ (U2 vo (ins ra.sv l.v.ZA h1.size)));rw[hG,ZE zv.JV.2,SI];rfl
     have k2b:Kp (X6 i) o h1 o2 G:=k2a.trans (kk.mono fun t q=>.inr (.inr (.inr (.inl q))));have By:j8.rb=ra.rb:=by rw[ZdL]
     have NG:ZV o2 G wb i nb { a with Zi:=U j8 } { n with Zi:=U { r with JV:=ins r.JV l.v.ZA [] } }:=by
      refine⟨?_,Z7.QO NA1.pt k2b rfl By RGG⟩;have:=NA1.ZQ.Zd k2b (by rintro (q|q|q|q|⟨_,q⟩)<;>cases q);rw[show Xy { n with Zi:=U { r with JV:=ins r.JV l.v.ZA [] } } { a with Zi:=U j8 } = Xy { n with Zi:=U r } { a with Zi:=U ra } from by unfold Xy Wb Ok;simp only[By]];exact this
     have WG:=W1.Zd k2b (by intro t q;rw[My q];simp);have XG:=x5.Zd k2b;have KG2:Kp (kH i) o h o2 G:=(ZR k1).trans (k2b.mono fun t q=>.inr q);have LKS:XD j8.sv l.v.ZA=U h1.size:=by rw[ZdL];simp[fh]
     have SB:QN o2 (.T4 i l.v.ZA) G h1.size (L0 S):=by rw[hS0];exact ms.Zd kk MI
     have Q5:hc G ⟨h.size,5,al⟩=U (Z J l.v.ZA):=Zg XG.2;have Q1:hc G ⟨h.size,1,al⟩=U (Z J l.JU):=Zg XG.2;have RR5:hc G ⟨ra.rb,5,al⟩=U (.map (U j8.vb)):=by rw[<-By];exact Zg RGG.ZQ.2
     have MRB:ra.rb<G.size:=by rw[<-By];exact Za RGG.ZQ.2
     have M5:=Za XG.2;have LK:=fun (K:aw->Hp->Prop)=>YK (K:=K) (n:=l.v.ZA) (c:=false) I9 Fp RGG.JV.2;rw[XI]at LK;simp only[LKS,a5,a4,a8,if_false,vo]at LK;simp -implicitDefEqProofs only[go_sem];refine VS.z (G.size) [9] (.p 0 (.p 1 (.p 2 (.q 3 (.p 4 (.p 6 (.q 7 (.p 8 (.s 5 (.w 9 .nil)))))))))) mixed po ?_;simp -implicitDefEqProofs only[go_sem,zu,c2b,Q5,Q1,RR5,LK,MRB,M5];rw[Jg Fo SB.2];obtain⟨k2,zw⟩:=RGG.sY KG2.Ya (l':=ins S l.JU ()) LKS SB;rw[show XJ (ins (L0 S) l.JU (az #[]))=XJ (L0 (ins S l.JU ())) from by unfold L0;rw[SI]];obtain⟨g2,JK⟩:=ZD (G.setIfInBounds h1.size (XJ (L0 (ins S l.JU ()))));rw[<-JK]at k2 zw ⊢;have eV:({ r with JV:=ins r.JV l.v.ZA (Sq r l) }:Q9) = { ({ r with JV:=ins r.JV l.v.ZA [] }:Q9) with JV:=ins (ins r.JV l.v.ZA []) l.v.ZA (ins S l.JU ()) }:=by unfold Sq;rw[hS,zq]
     have K2:Kp (kH i) o2 G o2 g2:=k2.mono fun t q=>.inr (.inr (.inr (.inr (.inr ⟨_,q⟩))));have N2:ZV o2 g2 wb i nb { a with Zi:=U j8 } (I3 n r l):=by
      refine⟨?_,?_⟩
      .have:=NG.ZQ.Zd k2 MI;exact this
      .have:=Z7.QO NG.pt (k2.mono fun t q=>.inr (.inr (.inr (.inr ⟨_,q⟩)))) rfl rfl zw;unfold I3;rw[eV];exact this
     have W2:=WG.Zd k2 (by rintro t rfl;simp[Tg.of]);have x2:=XG.Zd k2;have p0:rd g2 ⟨h.size,8,al⟩ 5=U l.v.cm.C:=by rw[Yh x2.2 (by simp[Xg])];rfl
     have p5:hc g2 ⟨j8.rb,5,al⟩=U (.map (U j8.vb)):=Zg zw.ZQ.2;rw[By]at p5;have p6:=fun (K:aw->Hp->Prop)=>YK (K:=K) (n:=l.v.ZA) (c:=false) I9 Fp zw.JV.2;rw[XI]at p6;simp only[LKS,a5,a4,a8,if_false]at p6;have SB2:QN o2 (.T4 i l.v.ZA) g2 h1.size (L0 (ins S l.JU ())):=⟨SB.1,by rw[JK];exact ZE SB.2⟩
     have p7:=fun (K:aw->Hp->Prop) (cs:Array Bool) (ty:bn)=>TN (T:=T) (K:=K) (ty:=ty) (cs:=cs) Fo SB2.2;have p8:(L0 (ins S l.JU ())).length=(Sq r l).length:=by unfold L0 Sq;rw[MW,hS]
     rw[p8]at p7;simp -implicitDefEqProofs only[go_sem,zu,c2b,p5,p6,p7,vo];refine (Kq T g2 (Sq r l).length (by unfold Sq;rw[<-hS,P9];split<;>omega)).use ?_;rintro _ _ ⟨rfl,rfl⟩;by_cases c3:5<2*(Sq r l).length
     .rw[if_pos c3];simp -implicitDefEqProofs only[go_sem,c3,p0];refine (He T _ o2 wb i nb Yr _ _ YW fl Yj ZB l.v.ZA l.v.cm k2.Ya N2 W2 hk hl ht hq hw).use ?_;rintro v' h' ⟨o',a',XS,kl,N',W'⟩;simp -implicitDefEqProofs only[go_sem];exact⟨o',a',XS,(KG2.trans K2).trans (kl.mono fun t q=>.inl q),N',W'⟩
     .rw[if_neg c3,ay];simp -implicitDefEqProofs only[go_sem,c3];exact⟨o2,_,YW,KG2.trans K2,N2,W2⟩
    .have hS0:S=S':=by rw[hS,e2];rfl
     subst hS0;rw[e1]at lk;simp only[a5,a4,a8,if_false]at lk;simp -implicitDefEqProofs only[go_sem,c2b,q5,rr5,lk,vo,vw];have VU:=fun (K:aw->Hp->Prop)=>YK (K:=K) (n:=l.v.ZA) (c:=false) I9 Fp RG.JV.2;rw[XI]at VU;simp only[e1,a5,a4,a8,if_false,vo]at VU;refine VS.z (h1.size) [9] (.p 0 (.p 1 (.p 2 (.q 3 (.p 4 (.p 6 (.q 7 (.p 8 (.s 5 (.w 9 .nil)))))))))) mixed po ?_;simp -implicitDefEqProofs only[go_sem,zu,c2b,q5,q1,rr5,VU,mrb,m5];rw[Jg Fo hsb.2];obtain⟨k2,zw⟩:=RG.sY KG.Ya (l':=ins S l.JU ()) e1 hsb;rw[show XJ (ins (L0 S) l.JU (az #[]))=XJ (L0 (ins S l.JU ())) from by unfold L0;rw[SI]];obtain⟨g2,JK⟩:=ZD (h1.setIfInBounds sb (XJ (L0 (ins S l.JU ()))));rw[<-JK]at k2 zw ⊢;have eV:({ r with JV:=ins r.JV l.v.ZA (Sq r l) }:Q9) = { r with JV:=ins r.JV l.v.ZA (ins S l.JU ()) }:=by unfold Sq;rw[hS]
     have K2:Kp (kH i) o h1 o g2:=k2.mono fun t q=>.inr (.inr (.inr (.inr (.inr ⟨_,q⟩))));have N2:ZV o g2 wb i nb { a with Zi:=U ra } (I3 n r l):=by
      refine⟨?_,?_⟩
      .have:=NA1.ZQ.Zd k2 MI;exact this
      .have:=Z7.QO NA1.pt (k2.mono fun t q=>.inr (.inr (.inr (.inr ⟨_,q⟩)))) rfl rfl zw;unfold I3;rw[eV];exact this
     have W2:=W1.Zd k2 (by rintro t rfl;simp[Tg.of]);have x2:=x5.Zd k2;have p0:rd g2 ⟨h.size,8,al⟩ 5=U l.v.cm.C:=by rw[Yh x2.2 (by simp[Xg])];rfl
     have p5:hc g2 ⟨ra.rb,5,al⟩=U (.map (U ra.vb)):=Zg zw.ZQ.2;have p6:=fun (K:aw->Hp->Prop)=>YK (K:=K) (n:=l.v.ZA) (c:=false) I9 Fp zw.JV.2;rw[XI]at p6;simp only[e1,a5,a4,a8,if_false]at p6;have SB2:QN o (.T4 i l.v.ZA) g2 sb (L0 (ins S l.JU ())):=⟨hsb.1,by rw[JK];exact ZE hsb.2⟩
     have p7:=fun (K:aw->Hp->Prop) (cs:Array Bool) (ty:bn)=>TN (T:=T) (K:=K) (ty:=ty) (cs:=cs) Fo SB2.2;have p8:(L0 (ins S l.JU ())).length=(Sq r l).length:=by unfold L0 Sq;rw[MW,hS]
     rw[p8]at p7;simp -implicitDefEqProofs only[go_sem,zu,c2b,p5,p6,p7,vo];refine (Kq T g2 (Sq r l).length (by unfold Sq;rw[<-hS,P9];split<;>omega)).use ?_;rintro _ _ ⟨rfl,rfl⟩;by_cases c3:5<2*(Sq r l).length
     .rw[if_pos c3];simp -implicitDefEqProofs only[go_sem,c3,p0];refine (He T _ o wb i nb Yr _ _ YW fl Yj ZB l.v.ZA l.v.cm k2.Ya N2 W2 hk hl ht hq hw).use ?_;rintro v' h' ⟨o',a',XS,kl,N',W'⟩;simp -implicitDefEqProofs only[go_sem];exact⟨o',a',XS,(KG.trans K2).trans (kl.mono fun t q=>.inl q),N',W'⟩
     .rw[if_neg c3,ay];simp -implicitDefEqProofs only[go_sem,c3];exact⟨o,_,YW,KG.trans K2,N2,W2⟩
def X1(i:Nat)(t:Tg):Prop:=t=.world\/t=.Zo\/t=.ZB\/t.of=U i
theorem Hh{i:Nat}{t:Tg}(h:Ud i t):X1 i t:=by
 rcases h with rfl|rfl|rfl|rfl|rfl|rfl|rfl<;>simp[X1,Tg.of]
theorem Bz{i:Nat}{t:Tg}(h:kH i t):X1 i t:=h.elim Hh fun q=>.inr (.inr (.inr (My q)))
theorem BA(h:Hp)(o:Ow)(wb i nb:Nat)(a:NA)(n:Nd)(l:XR)(w:aw)(d:UO o h)(N:ZV o h wb i nb a n)(iv:WU o h w l.vs):
  Zc aI T 130 #[Zr wb,Zr nb,az (Xg l w).toArray] h fun v' h'=>Kp (fun t=>t=.Yf i) o h o h'/\ZV o h' wb i nb a (Qa n l):=by
 obtain⟨pw,cw,rfl⟩:=iv.ZM;refine Zc.Y8 [_,_,_] Tryz.func130 ?_;unfold Zr Xg;have e0:∃h1:Hp,h1=h.push (O (Xg l (Q pw (am l.vs) cw)).toArray 170):=⟨_,rfl⟩
 obtain⟨h1,YX⟩:=e0;have k1:Kp QC o h o h1:=by rw[YX];exact Yc d _
 have x5:ZY o h1 h.size (O (Xg l (Q pw (am l.vs) cw)).toArray 170):=⟨d _ (av _),by rw[YX];exact Zb⟩
 have e0:=YX.symm;unfold Xg at e0;have N1:=N.Zu k1;have R1:=ZI N1.ZQ.2 N1.pt.store.len;have Qb:=Za N1.ZQ.2;have m5:=Za x5.2;have q3:rd h1 ⟨h.size,3,al⟩ 2=U (JF l.b):=by rw[Yh x5.2 (by simp[Xg])];rfl
 have r7:rd h1 ⟨nb,7,al⟩ 2=U (JF n.YH):=R1.YH;simp -implicitDefEqProofs only[go_sem];rw[e0];refine VS.mono (N:=fun F' g'=>Zf h1.size h1 g'/\F' 1=ao (U ⟨nb,0,al⟩)/\F' 5=ao (U ⟨h.size,0,al⟩)/\F' 12=ba (decide (Y4 n.YH l.b))) ?_ ?_ (fun _ _ _ h=>h) (fun _ _ h=>h)
 .refine VS.z (h1.size) [6] (.p 0 (.q 1 (.p 2 (.p 3 (.p 4 (.q 5 (.w 6 .nil))))))) mixed po ?_;simp -implicitDefEqProofs only[go_sem,q3,r7,Qb,m5];refine (NB T h1 l.b n.YH).use ?_;rintro _ g ⟨rfl,b⟩;simp -implicitDefEqProofs only[go_sem,b]
 .rintro F' g ⟨b,f1,f5,f12⟩;have kb:=ZN k1.Ya b;have N2:=N1.Zu kb;have K2:=k1.trans kb;by_cases c:Y4 n.YH l.b
  .have e:Qa n l = { n with YH:=l.b }:=by unfold Qa;rw[if_pos c]
   rw[e];obtain⟨g2,w2,N3,k3⟩:=Z7.write (n:={ n with YH:=l.b }) (a:=a) { N2.pt with } K2.Ya N2.ZQ ((Y7 N2.ZQ.2 N2.pt.store.len).YH l.b.r l.b.n);have p3:rd g ⟨h.size,3,al⟩ 2=U [Z J l.b.r,Z J l.b.n]:=by rw[Yh (x5.Zd kb).2 (by simp[Xg])];rfl
   have Qj:=Za N2.ZQ.2;simp -implicitDefEqProofs only[go_sem,f1,f5,f12,c,p3,w2,Qj];exact⟨(ZR K2).trans k3,N3⟩
  .have e:Qa n l=n:=by unfold Qa;rw[if_neg c]
   rw[e];simp -implicitDefEqProofs only[go_sem,f12,c];exact⟨ZR K2,N2⟩
theorem kI(h:Hp)(o:Ow)(wb i nb:Nat)(Yr:Nat->Nat)(a:NA)(n:Nd)(YW:WA)(fl:List XR)(Yj:Nat->Int)(ZB:List Pk)(l:XR)(w:aw)(d:UO o h)(N:ZV o h wb i nb a n)(W:ZS o h wb Yr YW fl Yj ZB)(iv:WU o h w l.vs)(hk:n.Zp.length<=100000000000)(hl:n.ZP.length<=100000000000)(ht:(am ZB)<=100000000000)(hq:n.Zw.length<=1000000000000)(hw:n.Zh.length<=1000000000000):
  Zc aI T 129 #[Zr wb,Zr nb,az (Xg l w).toArray] h fun v' h'=>∃o' a' XS,Kp (Ud i) o h o' h'/\ZV o' h' wb i nb a' (Vu n l.v.ZA l.v.cm).n/\ZS o' h' wb Yr XS fl Yj (ZB++(Vu n l.v.ZA l.v.cm).ts):=by
 obtain⟨pw,cw,rfl⟩:=iv.ZM;refine Zc.Y8 [_,_,_] Tryz.func129 ?_;unfold Zr Xg;obtain⟨h1,YX⟩:=ZD (h.push (O (Xg l (Q pw (am l.vs) cw)).toArray 170):Hp);have k1:Kp QC o h o h1:=by rw[YX];exact Yc d _
 have e0:=YX.symm;unfold Xg at e0;simp -implicitDefEqProofs only[go_sem];rw[e0];refine (He T h1 o wb i nb Yr a n YW fl Yj ZB l.v.ZA l.v.cm k1.Ya (N.Zu k1) (W.Zu k1) hk hl ht hq hw).use ?_;rintro v' h' ⟨o',a',XS,k,N',W'⟩;simp -implicitDefEqProofs only[go_sem];exact⟨o',a',XS,(ZR k1).trans k,N',W'⟩
theorem sZ(h:Hp)(o:Ow)(wb i nb:Nat)(a:NA)(n:Nd)(l:XR)(w:aw)(d:UO o h)(N:ZV o h wb i nb a n)(iv:WU o h w l.vs)(hq:n.Zw.length<=1000000000000)(hl:n.ZP.length<=1000000000000):
  Zc aI T 127 #[Zr wb,Zr nb,az (Xg l w).toArray] h fun v' h'=>∃o' a',Kp (ZdH i) o h o' h'/\ZV o' h' wb i nb a' (add n l.v.cm):=by
 obtain⟨pw,cw,rfl⟩:=iv.ZM;refine Zc.Y8 [_,_,_] Tryz.func127 ?_;unfold Zr Xg;obtain⟨h1,YX⟩:=ZD (h.push (O (Xg l (Q pw (am l.vs) cw)).toArray 170):Hp);have k1:Kp QC o h o h1:=by rw[YX];exact Yc d _
 have e0:=YX.symm;unfold Xg at e0;simp -implicitDefEqProofs only[go_sem];rw[e0];refine (sO T h1 o wb i nb a n l.v.cm k1.Ya (N.Zu k1) hq hl).use ?_;rintro v' h' ⟨o',a',k,N'⟩;simp -implicitDefEqProofs only[go_sem];exact⟨o',a',(ZR k1).trans k,N'⟩
theorem td(h:Hp)(o:Ow)(wb i nb:Nat)(Yr:Nat->Nat)(a:NA)(n:Nd)(YW:WA)(fl:List XR)(Yj:Nat->Int)(ZB:List Pk)(l:XR)(w:aw)(d:UO o h)(N:ZV o h wb i nb a n)(W:ZS o h wb Yr YW fl Yj ZB)(iv:WU o h w l.vs)(YB:(am fl)<=1000000000000):
  Zc aI T 128 #[Zr wb,Zr nb,az (Xg l w).toArray] h fun v' h'=>∃o' a' XS,Kp (fun t=>t=.world\/t=.Zo\/t=.Yf i) o h o' h'/\ZV o' h' wb i nb a' (Tx n l).n/\ZS o' h' wb Yr XS (fl++(Tx n l).ls) Yj ZB:=by
 obtain⟨pw,cw,rfl⟩:=iv.ZM;refine Zc.Y8 [_,_,_] Tryz.func128 ?_;unfold Zr Xg;obtain⟨h1,YX⟩:=ZD (h.push (O (Xg l (Q pw (am l.vs) cw)).toArray 170):Hp);have k1:Kp QC o h o h1:=by rw[YX];exact Yc d _
 have x5:ZY o h1 h.size (O (Xg l (Q pw (am l.vs) cw)).toArray 170):=⟨d _ (av _),by rw[YX];exact Zb⟩
 have e0:=YX.symm;have cc:=BA T h1 o wb i nb a n l (Q pw (am l.vs) cw) k1.Ya (N.Zu k1) (iv.Zd k1);unfold Xg at e0;unfold Xg Zr at cc;simp -implicitDefEqProofs only[go_sem];rw[e0];refine cc.use ?_;rintro _ g ⟨k2,N2⟩;have W2:=(W.Zu k1).Zd k2 (by rintro t rfl;simp[Tg.of]);have y5:=x5.Zd k2;have R2:=ZI N2.ZQ.2 N2.pt.store.len;have Qj:=Za N2.ZQ.2;have m5:=Za y5.2;have q5:hc g ⟨h.size,5,al⟩=U (Z J l.v.ZA):=Zg y5.2;have ek:(Qa n l).Zp=n.Zp:=by unfold Qa;split<;>rfl
 have eme:(Qa n l).me=n.me:=by unfold Qa;split<;>rfl
 have lk:=fun (K:aw->Hp->Prop)=>YK (K:=K) (n:=l.v.ZA) (c:=true) TC Nw N2.pt.Zp.2;have VU:=fun (K:aw->Hp->Prop) (x:Obj)=>YK (h:=g.push x) (K:=K) (n:=l.v.ZA) (c:=true) TC Nw ((Zl (Za N2.pt.Zp.2)).trans N2.pt.Zp.2);rw[XI,ek]at lk;simp only[XI,ek]at VU;have gp:∀x:Obj,(g.push x)[g.size]? = U x:=fun x=>Zb;simp -implicitDefEqProofs only[go_sem]
 cases hx:XD n.Zp l.v.ZA with
 | none=>
  have eP:Tx n l=⟨Qa n l,[],[]⟩:=by unfold Tx;rw[hx]
  rw[eP,ay];rw[hx]at lk;simp only[hx,a9,a7,a3,↓reduceIte]at lk VU;refine VS.mono (N:=fun F' g'=>Zf g.size g g'/\F' 7=ba false) ?_ ?_ (fun _ _ _ h=>h) (fun _ _ h=>h)
  .refine VS.z (g.size) [7,12] (.p 0 (.p 1 (.p 2 (.q 3 (.p 4 (.p 5 (.q 6 (.or 7 (.p 8 (.p 9 (.p 10 (.s 11 (.w 12 (.p 13 .nil)))))) (.s 11 (.w 7 (.p 8 (.p 9 (.p 10 (.w 12 (.p 13 .nil))))))))))))))) mixed po ?_;simp -implicitDefEqProofs only[go_sem,R2.Zp,q5,Qj,m5,lk,VU]
   repeat' (first|exact Zf.refl _ _|exact Zf.push (av _) _|refine be ?_ ?_)
  .rintro F' g' ⟨b,f7⟩;simp -implicitDefEqProofs only[go_sem,f7];exact⟨o,a,YW,((ZR k1).trans (k2.mono fun t q=>.inr (.inr q))).Yb b,N2.Zu (ZN k2.Ya b),W2.Zu (ZN k2.Ya b)⟩
 | some y=>
  have eP:Tx n l=⟨Qa n l,[⟨6,n.me,l.JU,Qh,Sp l.v.ZA Qh y,[]⟩],[]⟩:=by unfold Tx;rw[hx]
  rw[eP];rw[hx]at lk;simp only[hx,a5,a4,a6,↓reduceIte]at lk VU;refine VS.mono (N:=fun F' g'=>Zf g.size g g'/\F' 0=ao (U ⟨wb,0,al⟩)/\F' 1=ao (U ⟨nb,0,al⟩)/\F' 5=ao (U ⟨h.size,0,al⟩)/\F' 7=ba true/\F' 6=ao (U ⟨g.size,0,al⟩)/\g'[g.size]? = U (O y.C.toArray 43)) ?_ ?_ (fun _ _ _ h=>h) (fun _ _ h=>h)
  .refine VS.z (g.size) [7,12] (.p 0 (.p 1 (.p 2 (.q 3 (.p 4 (.p 5 (.q 6 (.or 7 (.p 8 (.p 9 (.p 10 (.s 11 (.w 12 (.p 13 .nil)))))) (.s 11 (.w 7 (.p 8 (.p 9 (.p 10 (.w 12 (.p 13 .nil))))))))))))))) mixed po ?_;simp -implicitDefEqProofs only[go_sem,R2.Zp,q5,Qj,m5,lk,VU,Vv]
   repeat' (first|exact Zf.refl _ _|exact Zf.push (av _) _|exact gp _|refine be ?_ ?_)
  .rintro F' g' ⟨b,f0,f1,f5,f7,f6,yy⟩;have kb:=ZN k2.Ya b;have N3:=N2.Zu kb;have W3:=W2.Zu kb;have z5:=y5.Zd kb;have R3:=ZI N3.ZQ.2 N3.pt.store.len;have p1:hc g' ⟨h.size,1,al⟩=U (Z J l.JU):=Zg z5.2;have p5:hc g' ⟨h.size,5,al⟩=U (Z J l.v.ZA):=Zg z5.2;have p6:rd g' ⟨g.size,0,al⟩ 5=U [Z J y.k,Z J y.c,Z J y.s,Z J y.n,Z J y.v]:=Zs yy rfl;simp -implicitDefEqProofs only[go_sem,f0,f1,f5,f7,f6,p1,p5,p6];refine (Wl T g' o wb nb Yr n.me YW fl Yj ZB l.JU ⟨6,0,0,Qh,Sp l.v.ZA Qh y,[]⟩ (Q al 0 0) kb.Ya W3 (by rw[<-eme];exact R3.me) (Za N3.ZQ.2) (Im.nil _ _ _ _) YB).use ?_;rintro v' h' ⟨o',XS,k,_,W'⟩;simp -implicitDefEqProofs only[go_sem];exact⟨o',a,XS,(((ZR k1).trans (k2.mono fun t q=>.inr (.inr q))).trans (ZR kb)).trans (k.mono fun t q=>q.elim .inl fun q=>.inr (.inl q)),N3.Zd k (by rintro t (rfl|rfl)<;>simp[Tg.of]),W'⟩
section
variable {K:aw->Hp->Prop} {X:Hp}
theorem Fw{t e:bn}(ht:fj aI t=U e){b:Nat}(hb:b=X.size){l:List (Int × aw)}{n:Int}{x:aw}:
  MX aI t (.map (U b)) (Z J n) x K (X.push (XJ l))=K undef (X.push (XJ (ins l n x))):=by
 subst hb;rw[Jg ht Zb]
 congr 1
 apply Array.ext_getElem?;intro j;rw[Array.getElem?_setIfInBounds,bo,bo];by_cases hj:X.size=j
 .subst hj;simp
 .rw[if_neg hj,if_neg (fun e=>hj e.symm),if_neg (fun e=>hj e.symm)]
theorem dp{t e:bn}(ht:fj aI t=U e){b:Nat}(hb:b=X.size){n:Int}{x:aw}:
  MX aI t (.map (U b)) (Z J n) x K (X.push (.map #[] 0))=K undef (X.push (XJ [(n,x)])):=Fw (l:=[]) ht hb
theorem dq{t e:bn}{z:aw}(ht:fj aI t=U e)(hz:tzv aI e=U z){b:Nat}(hb:b=X.size){l:List (Int × aw)}{n:Int}{x:aw}(hx:XD l n=U x):
  MV aI t (.map (U b)) (Z J n) false K (X.push (XJ l))=K x (X.push (XJ l)):=by
 subst hb;rw[YK ht hz Zb,hx];rfl
end
theorem BC(n:Nd)(l:XR):(XC n l).ts=[]:=by
 unfold XC
 repeat' split
 all_goals rfl
theorem th(n:Nd)(l:XR):(asked n l).ts=[]:=by
 unfold asked
 repeat' split
 all_goals rfl
theorem ti(n:Nd)(l:XR):(Tx n l).ts=[]:=by
 unfold Tx;split<;>rfl
theorem tj(n:Nd)(s:Int)(x:Cm):(Vu n s x).ls=[]:=rfl
theorem LB(n:Nd)(l:XR):(Y6 n l).ls=[]:=by
 unfold Y6
 repeat' split
 all_goals rfl
set_option maxHeartbeats 1000000 in
theorem kJ(h:Hp)(o:Ow)(wb i nb:Nat)(Yr:Nat->Nat)(a:NA)(n:Nd)(YW:WA)(fl:List XR)(Yj:Nat->Int)(ZB:List Pk)(l:XR)(w:aw)(d:UO o h)(N:ZV o h wb i nb a n)(W:ZS o h wb Yr YW fl Yj ZB)(iv:WU o h w l.vs)(tb:Az o h)(ZxM:0<=l.YI/\l.YI<=7)(YB:(am fl)<=1000000000000)(rD:n.Zy.l.length<=1000000)(mM:(am n.data)<=1000000)(hk:n.Zp.length<=100000000000)(hl:n.ZP.length<=100000000000)(ht:(am ZB)<=100000000000)(hq:n.Zw.length<=1000000000000)(hw:n.Zh.length<=1000000000000)(hv:∀r s,n.Zi=U r->((XD r.JV s).getD []).length<=1000000):
  Zc aI T 98 #[Zr wb,Zr nb,az (Xg l w).toArray] h fun v' h'=>∃o' a' XS,Kp (X1 i) o h o' h'/\ZV o' h' wb i nb a' (Yn n l).n/\ZS o' h' wb Yr XS (fl++(Yn n l).ls) Yj (ZB++(Yn n l).ts):=by
 obtain⟨pw,cw,rfl⟩:=iv.ZM;refine Zc.Y8 [_,_,_] Tryz.func98 ?_;obtain⟨h1,YX⟩:=ZD (h.push (O (Xg l (Q pw (am l.vs) cw)).toArray 170):Hp);have k1:Kp QC o h o h1:=by rw[YX];exact Yc d _
 have x5:ZY o h1 h.size (O (Xg l (Q pw (am l.vs) cw)).toArray 170):=⟨d _ (av _),by rw[YX];exact Zb⟩
 have e0:=YX.symm;have s1:h1.size=h.size+1:=by rw[YX];simp
 obtain⟨M,hM⟩:∃M:List (Int × aw),M=[(0,.func (.func 124) #[] #[]),(1,.func (.func 125) #[] #[]),(2,.func (.func 126) #[] #[]),(3,.func (.func 125) #[] #[]),(4,.func (.func 127) #[] #[]),(5,.func (.func 128) #[] #[]),(6,.func (.func 129) #[] #[]),(7,.func (.func 130) #[] #[])]:=⟨_,rfl⟩
 have k2:Kp QC o h o (h1.push (XJ M)):=k1.push _;have N2:=N.Zu k2;have W2:=W.Zu k2;have mU:=iv.Zd k2;have aV:=tb.Zd k2;have x2:ZY o (h1.push (XJ M)) h.size (O (Xg l (Q pw (am l.vs) cw)).toArray 170):=x5.Zd (Yc k1.Ya _);have d2:UO o (h1.push (XJ M)):=k2.Ya;have q0:hc (h1.push (XJ M)) ⟨h.size,0,al⟩=U (Z J l.YI):=Zg x2.2;have zy:rd (h1.push (XJ M)) ⟨h.size,0,al⟩ 14=U (Xg l (Q pw (am l.vs) cw)):=Zs x2.2 rfl;have eM:ins (ins (ins (ins (ins (ins (ins [((0:Int),Value.func (.func 124) #[] #[])] 1 (.func (.func 125) #[] #[])) 2 (.func (.func 126) #[] #[])) 3 (.func (.func 125) #[] #[])) 4 (.func (.func 127) #[] #[])) 5 (.func (.func 128) #[] #[])) 6 (.func (.func 129) #[] #[])) 7 (.func (.func 130) #[] #[])=M:=by rw[hM];rfl
 have u0:=fun (K:aw->Hp->Prop) (n:Int) (x:aw)=>dp (K:=K) (X:=h1) sy (b:=h1.size) rfl (n:=n) (x:=x);have u1:=fun (K:aw->Hp->Prop) (l:List (Int × aw)) (n:Int) (x:aw)=>Fw (K:=K) (X:=h1) sy (b:=h1.size) rfl (l:=l) (n:=n) (x:=x);have lk:=fun (K:aw->Hp->Prop) (x:aw) (hx:XD M l.YI=U x)=>dq (K:=K) (X:=h1) sy ZiB (b:=h1.size) rfl hx;unfold Zr Xg;unfold Xg at e0 zy;have Hj:l.YI=0\/l.YI=1\/l.YI=2\/l.YI=3\/l.YI=4\/l.YI=5\/l.YI=6\/l.YI=7:=gX;rcases Hj with S8|S8|S8|S8|S8|S8|S8|S8
 .have hf:Yn n l=XC n l:=by unfold Yn;simp[S8]
  rw[hf];have dx:=fun (K:aw->Hp->Prop)=>lk K (.func (.func 124) #[] #[]) (by rw[S8,hM];rfl);have cc:=Bw T _ o wb i nb Yr a n YW fl Yj ZB l _ d2 N2 W2 mU YB rD mM aV;unfold Xg Zr at cc;simp -implicitDefEqProofs only[go_sem,e0,u0,u1,eM,q0,zy,dx];refine cc.use ?_;rintro v' h' ⟨o',a',XS,k,N',W'⟩;simp -implicitDefEqProofs only[go_sem];exact⟨o',a',XS,(ZR k2).trans (k.mono fun t q=>by rcases q with rfl|rfl|rfl<;>simp[X1,Tg.of]),N',by rw[BC,ay];exact W'⟩
 .have hf:Yn n l=Y6 n l:=by unfold Yn;simp[S8]
  rw[hf];have dx:=fun (K:aw->Hp->Prop)=>lk K (.func (.func 125) #[] #[]) (by rw[S8,hM];rfl);have cc:=LA T _ o wb i nb Yr a n YW fl Yj ZB l _ d2 N2 W2 mU hk hl ht hq hw hv;unfold Xg Zr at cc;simp -implicitDefEqProofs only[go_sem,e0,u0,u1,eM,q0,zy,dx];refine cc.use ?_;rintro v' h' ⟨o',a',XS,k,N',W'⟩;simp -implicitDefEqProofs only[go_sem];exact⟨o',a',XS,(ZR k2).trans (k.mono fun t q=>Bz q),N',by rw[LB,ay];exact W'⟩
 .have hf:Yn n l=asked n l:=by unfold Yn;simp[S8]
  rw[hf];have dx:=fun (K:aw->Hp->Prop)=>lk K (.func (.func 126) #[] #[]) (by rw[S8,hM];rfl);have cc:=sX T _ o wb i nb Yr a n YW fl Yj ZB l _ d2 N2 W2 mU YB rD mM aV;unfold Xg Zr at cc;simp -implicitDefEqProofs only[go_sem,e0,u0,u1,eM,q0,zy,dx];refine cc.use ?_;rintro v' h' ⟨o',a',XS,k,N',W'⟩;simp -implicitDefEqProofs only[go_sem];exact⟨o',a',XS,(ZR k2).trans (k.mono fun t q=>by rcases q with rfl|rfl|rfl<;>simp[X1,Tg.of]),N',by rw[th,ay];exact W'⟩
 .have hf:Yn n l=Y6 n l:=by unfold Yn;simp[S8]
  rw[hf];have dx:=fun (K:aw->Hp->Prop)=>lk K (.func (.func 125) #[] #[]) (by rw[S8,hM];rfl);have cc:=LA T _ o wb i nb Yr a n YW fl Yj ZB l _ d2 N2 W2 mU hk hl ht hq hw hv;unfold Xg Zr at cc;simp -implicitDefEqProofs only[go_sem,e0,u0,u1,eM,q0,zy,dx];refine cc.use ?_;rintro v' h' ⟨o',a',XS,k,N',W'⟩;simp -implicitDefEqProofs only[go_sem];exact⟨o',a',XS,(ZR k2).trans (k.mono fun t q=>Bz q),N',by rw[LB,ay];exact W'⟩
 .have hf:Yn n l=⟨add n l.v.cm,[],[]⟩:=by unfold Yn;simp[S8]
  rw[hf];have dx:=fun (K:aw->Hp->Prop)=>lk K (.func (.func 127) #[] #[]) (by rw[S8,hM];rfl);have cc:=sZ T _ o wb i nb a n l _ d2 N2 mU hq gX;unfold Xg Zr at cc;simp -implicitDefEqProofs only[go_sem,e0,u0,u1,eM,q0,zy,dx];refine cc.use ?_;rintro v' h' ⟨o',a',k,N'⟩;simp -implicitDefEqProofs only[go_sem];exact⟨o',a',YW,(ZR k2).trans (k.mono fun t q=>by rcases q with rfl|rfl<;>simp[X1,Tg.of]),N',by rw[ay,ay];exact W2.Zd k (by rintro t (rfl|rfl)<;>simp[Tg.of])⟩
 .have hf:Yn n l=Tx n l:=by unfold Yn;simp[S8]
  rw[hf];have dx:=fun (K:aw->Hp->Prop)=>lk K (.func (.func 128) #[] #[]) (by rw[S8,hM];rfl);have cc:=td T _ o wb i nb Yr a n YW fl Yj ZB l _ d2 N2 W2 mU YB;unfold Xg Zr at cc;simp -implicitDefEqProofs only[go_sem,e0,u0,u1,eM,q0,zy,dx];refine cc.use ?_;rintro v' h' ⟨o',a',XS,k,N',W'⟩;simp -implicitDefEqProofs only[go_sem];exact⟨o',a',XS,(ZR k2).trans (k.mono fun t q=>by rcases q with rfl|rfl|rfl<;>simp[X1,Tg.of]),N',by rw[ti,ay];exact W'⟩
 .have hf:Yn n l=Vu n l.v.ZA l.v.cm:=by unfold Yn;simp[S8]
  rw[hf];have dx:=fun (K:aw->Hp->Prop)=>lk K (.func (.func 129) #[] #[]) (by rw[S8,hM];rfl);have cc:=kI T _ o wb i nb Yr a n YW fl Yj ZB l _ d2 N2 W2 mU hk hl ht hq hw;unfold Xg Zr at cc;simp -implicitDefEqProofs only[go_sem,e0,u0,u1,eM,q0,zy,dx];refine cc.use ?_;rintro v' h' ⟨o',a',XS,k,N',W'⟩;simp -implicitDefEqProofs only[go_sem];exact⟨o',a',XS,(ZR k2).trans (k.mono fun t q=>Hh q),N',by rw[tj,ay];exact W'⟩
 .have hf:Yn n l=⟨Qa n l,[],[]⟩:=by unfold Yn;simp[S8]
  rw[hf];have dx:=fun (K:aw->Hp->Prop)=>lk K (.func (.func 130) #[] #[]) (by rw[S8,hM];rfl);have cc:=BA T _ o wb i nb a n l _ d2 N2 mU;unfold Xg Zr at cc;simp -implicitDefEqProofs only[go_sem,e0,u0,u1,eM,q0,zy,dx];refine cc.use ?_;rintro v' h' ⟨k,N'⟩;simp -implicitDefEqProofs only[go_sem];exact⟨o,a,YW,(ZR k2).trans (k.mono fun t q=>by rw[q];simp[X1,Tg.of]),N',by rw[ay,ay];exact W2.Zd k (by rintro t rfl;simp[Tg.of])⟩
@[go_sem] theorem ZrJ(x:Cm):List.take 5 x.C=x.C:=rfl
def Wc(n:Nd)(r:Q9)(x:Cm):Int:=match free n r x with|some s=>(s:Int)|none=>0
theorem YZ.rr{i:Nat}{ra:RA}{r:Q9}(s:YZ o i h ra r):rd h ⟨ra.rb,0,al⟩ 2=U (JF r.b)/\hc h ⟨ra.rb,2,al⟩=U (.map (U ra.pb))/\hc h ⟨ra.rb,3,al⟩=U (ba r.Rc)/\hc h ⟨ra.rb,4,al⟩=U (.map (U ra.qb))/\hc h ⟨ra.rb,5,al⟩=U (.map (U ra.vb)):=
 ⟨by rw[Yh s.ZQ.2 (by simp[di])];rfl,Zg s.ZQ.2,Zg s.ZQ.2,Zg s.ZQ.2,Zg s.ZQ.2⟩
set_option maxHeartbeats 1000000 in
theorem zC(h:Hp)(o:Ow)(wb i nb:Nat)(a:NA)(n:Nd)(ra:RA)(r:Q9)(x:Cm)(d:UO o h)(N:ZV o h wb i nb a n)(R:YZ o i h ra r)(hl:n.ZP.length<=1000000000000):
  Zc aI T 163 #[Zr nb,Zr ra.rb,Vv x] h fun v' h'=>v'=.tuple #[Z J (Wc n r x),ba (free n r x).isSome]/\Zf h.size h h':=by
 have VZ:=Za N.ZQ.2;have dj:=Za R.ZQ.2;refine Zc.PX [_,_,_] Tryz.func163 ?_;unfold Zr Vv;obtain⟨h1,YX⟩:=ZD (h.push (O x.C.toArray 43):Hp);have k1:Kp QC o h o h1:=by rw[YX];exact Yc d _
 have b1:Zf h.size h h1:=by rw[YX];exact Zf.push (av _) _
 have x1:ZY o h1 h.size (O x.C.toArray 43):=⟨d _ (av _),by rw[YX];exact Zb⟩
 have e0:=YX.symm;have N1:=N.Zu k1;have R1:=R.Zd k1 (fun _ _ q=>q);have P1:=ZI N1.ZQ.2 N1.pt.store.len;have P0:=ZI N.ZQ.2 N.pt.store.len;obtain⟨lp,lc,Gv,uO⟩:=YP.ZM N1.pt.ZP;have P11:=P1.ZP;rw[Gv]at P11;have Qb:=Za N1.ZQ.2;have e3:((n.ZP.length:Nat):Int)=(n.ZP.length:Int):=rfl;simp -implicitDefEqProofs only[go_sem,e0,P11];refine VS.Z9 (fun F g=>Zf h1.size h1 g/\F 0=ao (U ⟨nb,0,al⟩)/\F 1=ao (U ⟨ra.rb,0,al⟩)/\F 5=ao (U ⟨h.size,0,al⟩)/\∃s:Nat,F 8=Z J s/\n.ZP.length<=s/\U7 n r x (40-n.ZP.length) n.ZP.length=U7 n r x (40-s) s)
  (fun F _=>40-(vi (F 8)).toNat) rfl ⟨Zf.refl _ _,rfl,rfl,rfl,n.ZP.length,rfl,av _,rfl⟩ ?_
 rintro F g ⟨hg,f0,f1,f5,s,f8,hs,he⟩;have kg:=ZN k1.Ya hg;have N2:=N1.Zu kg;have R2:=R1.Zd kg (fun _ _ q=>q);have y1:=x1.Zd kg;have P2:=ZI N2.ZQ.2 N2.pt.store.len;obtain⟨_,_,_,q4,_⟩:=R2.rr;have gs:=hg.size;have Qj:=Za N2.ZQ.2;have By:=Za R2.ZQ.2;have bb:Zf h.size h g:=b1.trans (hg.mono b1.size);have eF:free n r x=U7 n r x (40-s) s:=he;by_cases ZL:s<40
 .have ZW:(s:Int)<40:=gX;obtain⟨f,hf⟩:∃f,40-s=f+1:=⟨39-s,gX⟩
  have ef:f=40-(s+1):=gX;rw[hf]at eF he;have Fx:=fun (K:aw->Hp->Prop)=>YK (K:=K) (n:=(s:Int)) (c:=true) TC Nw R2.Xf.2;rw[XI]at Fx;have VU:=fun (K:aw->Hp->Prop) (z:Obj)=>YK (h:=g.push z) (K:=K) (n:=(s:Int)) (c:=true) TC Nw ((Zl (Za N2.pt.Zp.2)).trans N2.pt.Zp.2);simp only[XI]at VU;have fz:∀c:Cm,rd g ⟨h.size,0,al⟩ 5=U x.C:=fun _=>Zs y1.2 rfl;have fx:rd g ⟨h.size,0,al⟩ 5=U x.C:=Zs y1.2 rfl;have hx5:=Za y1.2;have n1:¬h.size=g.size:=gX;have n2:¬h.size=g.size+1:=gX;have n3:¬nb=g.size:=gX;unfold U7 at eF
  cases c1:XD r.Xf (s:Int) with
  | none=>
   simp only[c1,a9,a7,a3,↓reduceIte]at Fx
   cases c2:XD n.Zp (s:Int) with
   | none=>
    simp only[c2,a9,a7,a3,↓reduceIte]at VU;have e4:free n r x=U s:=by rw[eF,if_neg (by rw[c1,c2];simp),if_pos ⟨c1,c2⟩]
    have e5:Wc n r x=s:=by unfold Wc;rw[e4]
    rw[e5,e4];simp -implicitDefEqProofs only[go_sem,f0,f1,f5,f8,ZW,q4,Fx,VU,P2.Zp,n1,n2,n3,fx,Vv,a6];exact (bb.Yx gX _).Yx L6 _
   | some z=>
    simp only[c2,a5,a4,a6,↓reduceIte]at VU;by_cases qz:z=x
    .have e4:free n r x=al:=by rw[eF,if_pos (.inr (by rw[c2,qz]))]
     have e5:Wc n r x=0:=by unfold Wc;rw[e4]
     rw[e5,e4];simp -implicitDefEqProofs only[go_sem,f0,f1,f5,f8,ZW,q4,Fx,VU,P2.Zp,n1,n2,n3,fx,Vv,qz,a3];exact (bb.Yx gX _).Yx L6 _
    .have qz':¬U z=U x:=fun e=>qz (Option.some.inj e);simp -implicitDefEqProofs only[go_sem,f0,f1,f5,f8,ZW,q4,Fx,VU,P2.Zp,n1,n2,n3,fx,Vv,qz];unfold XB;refine⟨⟨(hg.Yx gX _).Yx L6 _,f0,f1,f5,s+1,rfl,gX,?_⟩,?_⟩
     .rw[he,<-ef,U7,if_neg (by rw[c1,c2];simp[qz]),if_neg (by rw[c2];simp)]
     .simp only[vi,Zk,↓reduceIte,f8];omega
  | some y=>
   simp only[c1,a5,a4,a6,↓reduceIte]at Fx;by_cases qy:y=x
   .have e4:free n r x=al:=by rw[eF,if_pos (.inl (by rw[c1,qy]))]
    have e5:Wc n r x=0:=by unfold Wc;rw[e4]
    rw[e5,e4]
    cases c2:XD n.Zp (s:Int) with
    | none=>
     simp only[c2,a9,a7,a3,↓reduceIte]at VU;simp -implicitDefEqProofs only[go_sem,f0,f1,f5,f8,ZW,q4,Fx,VU,P2.Zp,n1,n2,n3,fx,Vv,qy,a3];exact (bb.Yx gX _).Yx L6 _
    | some z=>
     simp only[c2,a5,a4,a6,↓reduceIte]at VU;simp -implicitDefEqProofs only[go_sem,f0,f1,f5,f8,ZW,q4,Fx,VU,P2.Zp,n1,n2,n3,fx,Vv,qy,a3];exact (bb.Yx gX _).Yx L6 _
   .cases c2:XD n.Zp (s:Int) with
    | none=>
     simp only[c2,a9,a7,a3,↓reduceIte]at VU;simp -implicitDefEqProofs only[go_sem,f0,f1,f5,f8,ZW,q4,Fx,VU,P2.Zp,n1,n2,n3,fx,Vv,qy];unfold XB;refine⟨⟨(hg.Yx gX _).Yx L6 _,f0,f1,f5,s+1,rfl,gX,?_⟩,?_⟩
     .rw[he,<-ef,U7,if_neg (by rw[c1,c2];simp[qy]),if_neg (by rw[c1];simp)]
     .simp only[vi,Zk,↓reduceIte,f8];omega
    | some z=>
     simp only[c2,a5,a4,a6,↓reduceIte]at VU;by_cases qz:z=x
     .have e4:free n r x=al:=by rw[eF,if_pos (.inr (by rw[c2,qz]))]
      have e5:Wc n r x=0:=by unfold Wc;rw[e4]
      rw[e5,e4];simp -implicitDefEqProofs only[go_sem,f0,f1,f5,f8,ZW,q4,Fx,VU,P2.Zp,n1,n2,n3,fx,Vv,qy,qz,a3];exact (bb.Yx gX _).Yx L6 _
     ·
      simp -implicitDefEqProofs only[go_sem,f0,f1,f5,f8,ZW,q4,Fx,VU,P2.Zp,n1,n2,n3,fx,Vv,qy,qz];unfold XB;refine⟨⟨(hg.Yx gX _).Yx L6 _,f0,f1,f5,s+1,rfl,gX,?_⟩,?_⟩
      .rw[he,<-ef,U7,if_neg (by rw[c1,c2];simp[qy,qz]),if_neg (by rw[c1];simp)]
      .simp only[vi,Zk,↓reduceIte,f8];omega
 .have YU:¬(s:Int)<40:=gX;have e4:free n r x=al:=by rw[eF,show 40-s=0 by omega];rfl
  have e5:Wc n r x=0:=by unfold Wc;rw[e4]
  rw[e5,e4];simp -implicitDefEqProofs only[go_sem,f8,YU,bb,a3]
end Go.Proofs.YtdpjmhgbmhjniaaGreatDoor
