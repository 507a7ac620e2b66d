/- Part Polg. -/
import Derived.Test.YtkhkmpfenaipaaaGreatDoorPik
import Derived.Test.YtkhkmpfenaipaaaGreatDoorW14
open Go.Value renaming int→j,slice→aa,pointer→ak
open Go.IntKind renaming u64→W,i64→Y,u8→Z
open Go.Obj renaming cells→O
open Go.Proofs.Tryz renaming underlying39→ba
open List renaming length→D,replicate→U,take_of_length_le→am,mem_of_mem_take→ao,append_nil→aw,getD_eq_getElem?_getD→ax,getElem?_eq_getElem→aF,drop_of_length_le→aI,length_set→aL,mem_of_mem_drop→aV,replicate_succ→aW,length_drop→bf
open Nat renaming zero_add→aH,pow_le_pow_right→aS,add_sub_cancel→aX,mul_zero→bb,add_zero→bd,pow_add→bg,le_refl→bh
open Int renaming toNat_natCast→al
open Option renaming some→ae,none→aq
open Array renaming setIfInBounds→Q,getElem?_setIfInBounds→an,size_push→bk
namespace Go.Proofs.YtkhkmpfenaipaaaGreatDoor
open Go Go.V
set_option linter.all false
set_option maxRecDepth 100000
variable{l:List Nat}
def mU(l:List Nat):Nat->List Nat
 | 0=>l
 | i+1=>(mU l i).set (4*i+3) ((mU l i).getD (4*i+3) 0%16)
def rP(l:List Nat):Nat->List Nat
 | 0=>l
 | i+1=>(rP l i).set (4*i+4) ((rP l i).getD (4*i+4) 0/4*4)
theorem EH(l:List Nat):∀i,(mU l i).length=(D l)
 | 0=>rfl
 | i+1=>by rw[mU,aL,EH l i]
theorem EI(l:List Nat):∀i,(rP l i).length=(D l)
 | 0=>rfl
 | i+1=>by rw[rP,aL,EI l i]
theorem Zb3(w:Dg l):∀i,Dg (mU l i)
 | 0=>w
 | i+1=>(Zb3 w i).set _ zK
theorem mV(w:Dg l):∀i,Dg (rP l i)
 | 0=>w
 | i+1=>(mV w i).set _ (by have:=(mV w i).getD (4*i+4);omega)
theorem Zgx(a:(D l)=16):rP (mU l 4) 3=QO l:=by
 match l,a with
 | [a0,a1,a2,a3,a4,a5,a6,a7,a8,a9,a10,a11,a12,a13,a14,a15],_=>rfl
theorem gm(key:List Nat):QO key=QO (key.take 16):=by
 grind [QO,List.map_congr_left,ZbX]
theorem wm{key:List Nat}(a:(D key)=32):rP (mU (key.take 16) 4) 3=QO key:=by
 grind [gm,Zgx]
theorem Mr(w:Dg l)(a:(D l)=16):Jb l<340282366920938463463374607431768211456:=by
 have:=Sd w (n:=16) uh;exact this
theorem Nx(n t:Nat):(aY n t).length=5:=rfl
theorem bC{n t:Nat}(b:n<340282366920938463463374607431768211456)(a:t<=1):Y0 67108864 (aY n t):=
 Y0.Lu uh uh uh uh uh
theorem EJ{n t:Nat}(a:n<340282366920938463463374607431768211456):Xr (aY n t)=n+340282366920938463463374607431768211456*t:=by
 simp only[aY,Xr];omega
def Pv(a x:List Nat):Nat->List Nat
 | 0=>a
 | i+1=>(Pv a x i).set i ((Pv a x i).getD i 0+x.getD i 0)
theorem Ga(a x:List Nat):∀i,(Pv a x i).length=(D a)
 | 0=>rfl
 | i+1=>by rw[Pv,aL,Ga a x i]
theorem rQ{a x:List Nat}{K L:Nat}(c:Y0 K a)(b:Y0 L x)(hK:0<K)(hL:0<L):∀i,Y0 (K+i*L) (Pv a x i)
 | 0=>by rw[Nat.zero_mul];exact c
 | i+1=>by
  have h:=rQ c b hK hL i;have e:=h.getD uh i;have d:=b.getD hL i
  grind [Pv.eq_2,Y0.set,Y0.mono]
theorem Zb4{a x:List Nat}(r:(D a)=5)(q:(D x)=5)(p:Y0 134217728 a)(o:Y0 67108864 x):Y0 268435456 (Pv a x 5)/\Xr (Pv a x 5)=Xr a+Xr x:=by
 obtain⟨n,m,k,i,h,rfl⟩:=Lu r;obtain⟨g,f,d,c,b,rfl⟩:=Lu q;let⟨u,w1,w2,t,s⟩:=p.Zgr;let⟨A,z,y,w,v⟩:=o.Zgr;have e:Pv [n,m,k,i,h] [g,f,d,c,b] 5=[n+g,m+f,k+d,i+c,h+b]:=rfl;rw[e]
 grind [Xr,Y0.Lu]
theorem EK(a b:List Nat):Jb (a++b)=Jb a+256 ^ (D a)*Jb b:=by
 induction a with
 | nil=>simp[Jb]
 | cons x a c=>grind [Jb.eq_2]
theorem mW(n:Nat):Jb (U n 0)=0:=by
 induction n with
 | zero=>rfl
 | succ n a=>rw[aW,Jb,a]
def Qc(l:List Nat):List Nat:=l++[1]++U (16-(D l)) 0
theorem bD(a:(D l)<=16):(Qc l).length=17:=by simp[Qc];omega
theorem wn(c:(D l)<=16):Jb ((Qc l).take 16)+340282366920938463463374607431768211456*(Qc l).getD 16 0=Jb (l++[1]):=by
 by_cases h:(D l)=16
 .grind [Qc,Jb,EK]
 .have a:(Qc l).getD 16 0=0:=by
   unfold Qc;rw[ax,List.getElem?_append_right Fo,List.getElem?_replicate];split<;>rfl
  have b:(Qc l).take 16=(l++[1])++U (15-(D l)) 0:=by
   unfold Qc;rw[List.take_append,am Fo,List.take_replicate]
   congr 2
   simp;omega
  rw[b,a,EK,mW];omega
theorem wo(a:(D l)<=16):(Qc l).getD 16 0<=1:=by
 grind [Qc]
theorem Zb5(w:Dg l):Dg (Qc l):=by
 intro x a;unfold Qc at a;simp only[List.mem_append,List.mem_singleton,List.mem_replicate]at a;rcases a with (h|h)|h
 .exact w x h
 .omega
 .omega
theorem wq(a:(D l)<=16):(l++U (17-(D l)) 0).set (D l) 1=Qc l:=by
 have e:U (17-(D l)) 0=0 :: U (16-(D l)) 0:=by rw[<-aW];congr 1;omega
 grind [Qc]
def KO:List Nat->List Nat->Nat
 | x :: l,y :: k=>(x+y)+67108864*KO l k
 | _,_=>0
theorem gn:∀(l k:List Nat),(D l)=(D k)->KO l k=Xr l+Xr k
 | [],[],_=>rfl
 | x :: l,y :: k,h=>by simp only[KO,Xr];rw[gn l k (by simpa using h)];omega
theorem wu{out:List Nat}{t R:Nat}(w:Dg out)(b:(D out)=16)(h:t=Jb out+256 ^ 16*R):out=(List.range 16).map fun i=>t/256 ^ i%256:=by
 apply List.ext_getElem?;intro i;by_cases hi:i<16
 .rw[List.getElem?_map,List.getElem?_range hi];have e:=mN w i;rw[ax,aF uh]at e;rw[aF uh];simp only[Option.map_some,Option.some.injEq];simp only[Option.getD_some]at e;rw[e,h];have a:256 ^ 16*R=256 ^ i*(256*(256 ^ (15-i)*R)):=by
   rw[<-Nat.mul_assoc 256,<-Nat.mul_assoc,<-Nat.pow_succ',<-bg]
   congr 2;omega
  rw[a,Nat.add_mul_div_left _ _ (Nat.pow_pos uh),Nat.add_mul_mod_self_left]
 grind
theorem Zb6{T v n s B R:Nat}(b:256<=B)(a:B%256=0)(h:T=v+n*(s+B*R)):T=v+n*(s%256)+n*256*(s/256+B/256*R):=by
 grind [Nat.mod_add_div]
theorem ww{i:Nat}(hi:i<4):nth [Value.int Y 3,j Y 7,j Y 11,j Y 15] i=ae (j Y ((4*i+3:Nat):Int)):=by
 match i,hi with
 | 0,_=>rfl
 | 1,_=>rfl
 | 2,_=>rfl
 | 3,_=>rfl
theorem wy{i:Nat}(hi:i<3):nth [Value.int Y 4,j Y 8,j Y 12] i=ae (j Y ((4*i+4:Nat):Int)):=by
 match i,hi with
 | 0,_=>rfl
 | 1,_=>rfl
 | 2,_=>rfl
theorem Zpe(x:Nat)(a:x<256):Y1 .and Z (x:Int) 15=((x%16:Nat):Int):=by
 have h:=Za2 x 15 a HE;have e:x &&& 15=x%16:=Nat.and_two_pow_sub_one_eq_mod x 4
 grind
theorem ZkE(x:Nat)(a:x<256):Y1 .and Z (x:Int) 252=((x/4*4:Nat):Int):=by
 have h:=Za2 x 252 a HE;have e:x &&& 252=x/4*4:=by
  have:∀y:Fin 256,y.val &&& 252=y.val/4*4:=HE;exact this ⟨x,a⟩
 grind
def ZxI:Value->Nat
 | aa _ l _=>l
 | _=>0
theorem wC(n:Nat)(vs:List Nat)(h:(D vs)<=n):XB ((U n 0).map bv) 0 (vs.map bv)=(vs++U (n-(D vs)) 0).map bv:=by
 grind [Wn,List.map_replicate]
theorem mX{M S:List Nat}{i:Nat}(a:i<(D M))(hS:i<(D S)):KO (M.drop i) (S.drop i)=(M.getD i 0+S.getD i 0)+67108864*KO (M.drop (i+1)) (S.drop (i+1)):=by
 grind [List.drop_eq_getElem_cons,KO.eq_1]
theorem Zgy{T v n s b c R:Nat}(h:T=v+n*(s+2 ^ b*(c+67108864*R))):T=v+n*(s+c*2 ^ b+2 ^ (b+26)*R):=by
 grind
theorem wE{b:Nat}(h:b<8):2 ^ b<=128:=by
 have:=aS (show 0<2 by decide) (show b<=7 by omega);exact this
theorem wF{s c b:Nat}(a:s<8*2 ^ b)(hc:c<268435456):s+c*2 ^ b<8*2 ^ (b+26):=by
 have d:c*2 ^ b<=268435455*2 ^ b:=Nat.mul_le_mul_right _ uh
 grind
theorem wG{s b:Nat}(a:s<8*2 ^ b)(hb:8<=b):s/256<8*2 ^ (b-8):=by
 have:2 ^ b=2 ^ (b-8)*256:=by
  have e:b=b-8+8:=uh;rw[e,bg,aX]
 grind
theorem Zb7{T v n s b R:Nat}(hb:8<=b)(h:T=v+256 ^ n*(s+2 ^ b*R)):T=v+256 ^ n*(s%256)+256 ^ (n+1)*(s/256+2 ^ (b-8)*R):=by
 have e:2 ^ b=2 ^ (b-8)*256:=by
  have e:b=b-8+8:=uh;rw[e,bg,aX]
 have a:0<2 ^ (b-8):=Nat.pow_pos uh;have:=Zb6 (B:=2 ^ b) (by rw[e];omega) (by rw[e];omega) h
 grind
theorem mY(l:List Nat)(x:Nat):Jb (l++[x])=Jb l+256 ^ (D l)*x:=by rw[EK];rfl
theorem ZkF:(Ug 16 [Value.int Z 0])=(U 16 0).map bv:=rfl
set_option maxHeartbeats 2000000 in
theorem mZ(T:World)(h:Hp)(v u:Value)(key data:List Nat)(sk:Bs h v key)(sd:Bs h u data)(hk:(D key)=32)(hd:(D data)<=4000)(ck:RT v)(cu:RT u):
  Zg Tryz.prog T 103 #[v,u] h fun v' h'=>YL h.size 5 h' v' (mS key data)/\Zm h.size h h':=by
 have wk:=sk.byte;have wd:=sd.byte;obtain⟨p,c,rfl,fr⟩:=sk.Th;have ck:(D key)<=c:=ck;have eh:(key.take 16).length=16:=aac;have cq:=Mq sk (m:=16) uh c;have eE:(16:Int)<=c:=uh;refine Zg.X8 [_,_] Tryz.func103 ?_;simp -implicitDefEqProofs only[go_sem,eE];refine ZP (E:=5) (B:=h.size) XD ba T8 SU SQ (YL.nil _ _ _) (bh _) (by rw[hk]at sk;simpa using cq) zK ?_;intro v1 h1 o1 b1 _;rw[List.nil_append]at o1;have ee:=o1.Zn;rcases ee with⟨_,hm,_⟩|⟨K,cap,ZT,br,rfl,Kn,Ri,Bu,WF⟩
 .omega
 let⟨L,hL⟩:=ZO (key.take 16);have wL:Dg L:=by rw[hL];exact fun x w=>wk x (ao w)
 have dP:rP (mU L 4) 3=QO key:=by rw[hL];exact wm hk
 rw[<-hL]at eh Kn Ri Bu WF ⊢;clear o1 cq hL;have fC:=Zb Kn;simp -implicitDefEqProofs only[go_sem];refine VS.YC (fun F g=>F 0=aa p (D key) c/\F 1=u/\F 5=aa (ae ⟨K,0,aq⟩) (D L) cap/\F 25=.agg #[j Y 3,j Y 7,j Y 11,j Y 15]/\∃i:Nat,i<=4/\F 26=j Y i/\g=Q h1 K (O ((mU L i).map bv++ZT).toArray 5))
  (fun F _=>4-(vi (F 26)).toNat) rfl ⟨rfl,rfl,rfl,rfl,0,uh,rfl,(VI Kn).symm⟩ ?_
 rintro F g ⟨e,f1,f5,f25,i,hi,f26,rfl⟩;have w:=YB (o:=O ((mU L i).map bv++ZT).toArray 5) Kn;have wA:=Zb3 wL i;have lA:=EH L i;by_cases Ye:i<4
 .have Yh:(i:Int)<4:=uh;have Jy:mU L (i+1)=(mU L i).set (4*i+3) ((mU L i).getD (4*i+3) 0%16):=rfl;let⟨r,hr⟩:=ZO (mU L i);rw[<-hr]at w wA lA Jy ⊢;let⟨G,hG⟩:=ZO (Q h1 K (O (r.map bv++ZT).toArray 5));rw[<-hG]at w ⊢;have n1:=ww Ye;have g1:=Yk w (i:=4*i+3) uh;have x1:=wA.getD (4*i+3);unfold bv at g1;let⟨x,bl⟩:=ZO (r.getD (4*i+3) 0);rw[<-bl]at g1 x1 Jy;have e1:=Zpe x x1;have bp:((4*i+3:Nat):Int)<(D L):=uh;have c1:Uf G ⟨K,4*i+3,aq⟩ (j Z (x%16:Nat))=_:=YN (f:=bv) w (i:=4*i+3) uh (x%16) rfl;simp -implicitDefEqProofs only[go_sem,e,f1,f5,f25,f26,Yh,al,aH,n1,bp,g1,e1,c1];refine⟨⟨e,f1,f5,f25,i+1,Ye,rfl,?_⟩,?_⟩
  .grind
  .simp only[vi,Zu,↓reduceIte,f26];omega
 .have XX:¬(i:Int)<4:=uh;obtain rfl:i=4:=uh;have c4:((4:Nat):Int)=4:=rfl;rw[c4]at f26 XX;let⟨L2,cS⟩:=ZO (mU L 4);rw[<-cS]at w wA lA dP ⊢;have B2:Zm h.size h (Q h1 K (O (L2.map bv++ZT).toArray 5)):=b1.ZA br _;generalize Q h1 K (O (L2.map bv++ZT).toArray 5)=h2 at *;clear cS;simp -implicitDefEqProofs only[go_sem,e,f1,f5,f25,f26,XX];refine VS.YC (fun F g=>F 0=aa p (D key) c/\F 1=u/\F 5=aa (ae ⟨K,0,aq⟩) (D L) cap/\F 36=.agg #[j Y 4,j Y 8,j Y 12]/\∃i:Nat,i<=3/\F 37=j Y i/\g=Q h2 K (O ((rP L2 i).map bv++ZT).toArray 5))
   (fun F _=>3-(vi (F 37)).toNat) rfl ⟨e,f1,f5,rfl,0,uh,rfl,(VI w).symm⟩ ?_
  clear e f1 f5 f25 f26 XX F;rintro F g ⟨e,f1,f5,f36,i,hi,f37,rfl⟩;have rI:=YB (o:=O ((rP L2 i).map bv++ZT).toArray 5) w;have wB:=mV wA i;have lB:=EI L2 i;by_cases Ye:i<3
  .have Yh:(i:Int)<3:=uh;have Jy:rP L2 (i+1)=(rP L2 i).set (4*i+4) ((rP L2 i).getD (4*i+4) 0/4*4):=rfl;let⟨r,hr⟩:=ZO (rP L2 i);rw[<-hr]at rI wB lB Jy ⊢;let⟨G,hG⟩:=ZO (Q h2 K (O (r.map bv++ZT).toArray 5));rw[<-hG]at rI ⊢;have n1:=wy Ye;have g1:=Yk rI (i:=4*i+4) uh;have x1:=wB.getD (4*i+4);unfold bv at g1;let⟨x,bl⟩:=ZO (r.getD (4*i+4) 0);rw[<-bl]at g1 x1 Jy;have e1:=ZkE x x1;have bp:((4*i+4:Nat):Int)<(D L):=uh;have c1:Uf G ⟨K,4*i+4,aq⟩ (j Z (x/4*4:Nat))=_:=YN (f:=bv) rI (i:=4*i+4) uh (x/4*4) rfl;simp -implicitDefEqProofs only[go_sem,e,f1,f5,f36,f37,Yh,al,aH,n1,bp,g1,e1,c1];refine⟨⟨e,f1,f5,f36,i+1,Ye,rfl,?_⟩,?_⟩
   .grind
   .simp only[vi,Zu,↓reduceIte,f37];omega
  .have XX:¬(i:Int)<3:=uh;obtain rfl:i=3:=uh;have c3:((3:Nat):Int)=3:=rfl;rw[c3]at f37 XX;rw[dP]at rI wB lB ⊢;have B3:Zm h.size h (Q h2 K (O ((QO key).map bv++ZT).toArray 5)):=B2.ZA br _;generalize Q h2 K (O ((QO key).map bv++ZT).toArray 5)=h3 at *;have dJ:=CS key;have oc:YL h.size 5 h3 (aa (ae ⟨K,0,aq⟩) (D L) cap) (QO key):=
    ⟨.inr ⟨K,cap,ZT,br,zK,rI,zX,zK,uh⟩,wB⟩
   simp -implicitDefEqProofs only[go_sem,e,f1,f5,f36,f37,XX];refine (IY T _ _ (QO key) 0 oc.bs dJ uh).use ?_;rintro _ h4 ⟨rfl,b4⟩;have B4:Zm h.size h h4:=B3.trans (b4.mono B3.size);have hR:=Mr wB dJ;have cw:Xr (aY (Jb (QO key)) 0)=Jb (QO key):=by rw[EJ hR,bb,bd]
   have bn:=bC (t:=0) hR uh;have P:=Nx (Jb (QO key)) 0;let⟨R,eu⟩:=ZO (aY (Jb (QO key)) 0);rw[<-eu]at cw bn P ⊢;have lR:(R.map uv).length=5:=by simpa using P
   have en:(R.map uv).all YV=true:=by simp[uv,YV]
   have lp:XB [Value.int W 0,j W 0,j W 0,j W 0,j W 0] 0 (R.map uv)=R.map uv:=Yf lR;simp -implicitDefEqProofs only[go_sem,e,f1,f5,f36,f37,lR,en,lp];obtain⟨bR,bt⟩:∃b,b=h4.size:=⟨_,rfl⟩
   obtain⟨s,bG⟩:∃b,b=h4.size+1:=⟨_,rfl⟩
   let⟨H,hH⟩:=ZO (((h4.push (O (R.map uv).toArray 221)).push (O #[j W 0,j W 0,j W 0,j W 0,j W 0] 221)):Hp);have HB:Zm h.size h H:=by rw[hH];exact (B4.Xj B4.size _).Xj (by have:=B4.size;simp;omega) _
   have HR:H[bR]? = ae (Xb R):=by
    rw[hH,bt,ZX zX,Zf];unfold Xb;rw[aw]
   have HA:H[s]? = ae (Xb [0,0,0,0,0]):=by
    have:=Zf (h:=(h4.push (O (R.map uv).toArray 221))) (o:=O #[j W 0,j W 0,j W 0,j W 0,j W 0] 221);rw[bk]at this;rw[hH,bG,this];rfl
   have ft:h.size<=bR:=by have:=B4.size;omega
   rw[<-hH,<-bG,<-bt];have fA:s=bR+1:=uh;clear hH bG bt;have cn:Bs h (F 1) (data.drop (16*0)):=by rw[f1];exact sd
   have dx:RT (F 1):=by rw[f1];exact cu
   refine VS.YC (fun F g=>F 0=aa p (D key) c/\F 10=ak (ae ⟨bR,0,aq⟩)/\F 11=ak (ae ⟨s,0,aq⟩)/\Zm h.size h g/\g[bR]? = ae (Xb R)/\∃(k:Nat) (A:List Nat),16*k<(D data)+16/\Bs h (F 1) (data.drop (16*k))/\RT (F 1)/\g[s]? = ae (Xb A)/\(D A)=5/\Y0 134217728 A/\Xr A%OQ=ZbY (Jb (QO key)) data k)
    (fun F _=>ZxI (F 1)) rfl ⟨e,rfl,rfl,HB,HR,0,[0,0,0,0,0],uh,cn,dx,HA,rfl,Y0.Lu uh uh uh uh uh,rfl⟩ ?_
   clear e f1 f5 f36 f37 XX cn dx F HB HR HA H;rintro F g ⟨e,f10,f11,hg,gR,k,A,fx,s1,a1,gA,C,OL,Vo⟩;let⟨q,d,f1,ej⟩:=s1.open;rw[f1]at s1 a1;have a1:(data.drop (16*k)).length<=d:=a1;have eN:(data.drop (16*k)).length=(D data)-16*k:=bf;by_cases Ye:16*k<(D data)
   .have cx:(0:Int)<((data.drop (16*k)).length:Int):=uh;let⟨rest,EL⟩:=ZO (data.drop (16*k));have ea:Zo6 data k=rest.take 16++[1]:=by rw[EL];rfl
    have Jy:data.drop (16*(k+1))=rest.drop 16:=by rw[EL,List.drop_drop];congr 1
    have eT:Dg rest:=by rw[EL];exact fun x w=>wd x (aV w)
    rw[<-EL]at f1 s1 a1 ej cx eN;clear EL;have ec:(#[Value.int Z 0,j Z 0,j Z 0,j Z 0,j Z 0,j Z 0,j Z 0,j Z 0,j Z 0,j Z 0,j Z 0,j Z 0,j Z 0,j Z 0,j Z 0,j Z 0,j Z 0]:Array Value)=((U 17 0).map bv).toArray:=rfl;simp -implicitDefEqProofs only[go_sem,e,f1,f10,f11,cx,ec];have JD:=Oe rest;refine Ek (E:=5) (E':=223) (c:=(U 17 0).map bv) XD T8 Zf ((s1.YQ hg).YQ (Zm.push (bh _) _)).sl JD Fo ?_;let⟨n,hn⟩:=ZO (min (D rest) 16);have hB:(rest.map bv).take n=(rest.take n).map bv:=List.map_take.symm;have a9:(rest.take n).length=n:=aac;have dE:rest.take n=rest.take 16:=by
     by_cases hc:(D rest)<=16
     .grind
     .grind
    rw[<-hn,hB,wC 17 _ uh,a9,dE];rw[dE]at a9;have dB:Dg (rest.take 16):=fun x w=>eT x (ao w);let⟨B,ey⟩:=ZO (rest.take 16);rw[<-ey]at a9 ea dB ⊢;have dw:(B++U (17-n) 0).set n 1=Qc B:=by rw[<-a9];exact wq uh
    have eM:(n:Int)<17:=uh;have g0:((B++U (17-n) 0).map bv).set n (j Z 1)=(Qc B).map bv:=by rw[<-dw,List.map_set];rfl
    have eL:(B++U (17-n) 0).length=17:=Fo;have eK:=hg.size;have fT:=Zb gR;have fD:=Zb gA;let⟨y,er⟩:=ZO (g.size);have a6:∀o,((g.push o).setIfInBounds y (O ((B++U (17-n) 0).map bv).toArray 223))[bR]? = ae (Xb R):=fun o=>by
     grind
    have a8:∀o,((g.push o).setIfInBounds y (O ((B++U (17-n) 0).map bv).toArray 223))[s]? = ae (Xb A):=fun o=>by
     grind
    have a0:∀o,((g.push o).setIfInBounds y (O ((B++U (17-n) 0).map bv).toArray 223))[y]? = ae (O ((B++U (17-n) 0).map bv++[]).toArray 223):=fun o=>by
     grind
    have a7:∀o,Zm h.size h ((g.push o).setIfInBounds y (O ((B++U (17-n) 0).map bv).toArray 223)):=fun o=>(hg.Xj eK _).ZA uh _;have a5:∀o,((g.push o).setIfInBounds y (O ((B++U (17-n) 0).map bv).toArray 223)).size=y+1:=fun o=>by grind
    rw[<-er];specialize a6 (O ((U 17 0).map bv).toArray 223);specialize a8 (O ((U 17 0).map bv).toArray 223);specialize a0 (O ((U 17 0).map bv).toArray 223);specialize a7 (O ((U 17 0).map bv).toArray 223);specialize a5 (O ((U 17 0).map bv).toArray 223);let⟨G1,de⟩:=ZO (((g.push (O ((U 17 0).map bv).toArray 223)).setIfInBounds y (O ((B++U (17-n) 0).map bv).toArray 223)));rw[<-de]at a6 a8 a0 a7 a5 ⊢;clear de;have c1:Uf G1 ⟨y,n,aq⟩ (j Z 1)=_:=YN (f:=bv) a0 (i:=n) zK 1 rfl;rw[dw]at c1;have bN:=YB (o:=O ((Qc B).map bv++[]).toArray 223) a0;have cR:(Q G1 y (O ((Qc B).map bv++[]).toArray 223))[bR]? = ae (Xb R):=by rw[an,if_neg uh];exact a6
    have dq:(Q G1 y (O ((Qc B).map bv++[]).toArray 223))[s]? = ae (Xb A):=by rw[an,if_neg uh];exact a8
    have Od:Zm h.size h (Q G1 y (O ((Qc B).map bv++[]).toArray 223)):=a7.ZA uh _;have cP:(Q G1 y (O ((Qc B).map bv++[]).toArray 223)).size=y+1:=by rw[Array.size_setIfInBounds,a5]
    let⟨G2,vA⟩:=ZO (Q G1 y (O ((Qc B).map bv++[]).toArray 223));rw[<-vA]at c1 bN cR dq Od cP;clear vA a6 a8 a0 a7 a5;have cr:=bD (l:=B) uh;have cf:=Zb5 dB;have ef:YL h.size 223 G2 (aa (ae ⟨y,0,aq⟩) 17 17) (Qc B):=
     ⟨.inr ⟨y,17,[],uh,by rw[cr],bN,zX,by rw[cr];rfl,uh⟩,cf⟩
    have ed:=Mq ef.bs (m:=16) uh 17;have t17:((Qc B).take 16).length=16:=aac;have c8:=Yk bN (i:=16) uh;unfold bv at c8;have ca:=wo (l:=B) uh;have aC:=wn (l:=B) uh;have wt:=Mr (l:=(Qc B).take 16) (fun x w=>cf x (ao w)) t17;let⟨Yi,bE⟩:=ZO ((Qc B).getD 16 0);rw[<-bE]at c8 ca aC;have em:((Yi:Nat):Int)%18446744073709551616=(Yi:Nat):=uh;simp -implicitDefEqProofs only[go_sem,e,f1,f10,f11,eM,al,eL,c1];refine VS.z (y+1) [] (.p 0 (.p 1 (.q 2 (.p 3 (.p 5 (.s 4 .nil)))))) mixed zI ?_;simp -implicitDefEqProofs only[go_sem,c8,em];refine (IY T _ _ ((Qc B).take 16) Yi ed t17 ca).use ?_;rintro _ G3 ⟨rfl,b3⟩;rw[cP]at b3;have ew:=b3.get (k:=bR) uh cR;have dm:=b3.get (k:=s) uh dq;have eC:Zm h.size h G3:=Od.trans (b3.mono uh);have a2:=EJ (t:=Yi) wt;rw[aC]at a2;have dp:=bC (t:=Yi) wt ca;have cv:=Nx (Jb ((Qc B).take 16)) Yi;let⟨X,hX⟩:=ZO (aY (Jb ((Qc B).take 16)) Yi);rw[<-hX]at a2 dp cv ⊢;rw[<-ea]at a2;have eF:Zm (y+1) G2 G3=True:=eq_true b3;simp -implicitDefEqProofs only[go_sem,eF];refine VS.YC (fun F g=>F 0=aa p (D key) c/\F 1=aa q (D rest) d/\F 10=ak (ae ⟨bR,0,aq⟩)/\F 11=ak (ae ⟨s,0,aq⟩)/\F 66=.agg (X.map uv).toArray/\∃i:Nat,i<=5/\F 67=j Y i/\g=Q G3 s (Xb (Pv A X i)))
     (fun F _=>5-(vi (F 67)).toNat) rfl ⟨e,f1,f10,f11,rfl,0,uh,rfl,(VI dm).symm⟩ ?_
    clear e f1 f10 f11 F gR gA hg;rintro F g' ⟨e,f1,f10,f11,f66,i,hi,f67,rfl⟩;have mR:(Q G3 s (Xb (Pv A X i)))[s]? = ae (Xb (Pv A X i)):=YB dm;have lN:(Pv A X i).length=5:=by rw[Ga,C]
    have wN:=rQ OL dp uh uh i;by_cases mC:i<5
    .have eZ:(i:Int)<5:=uh;have a3:Pv A X (i+1)=(Pv A X i).set i ((Pv A X i).getD i 0+X.getD i 0):=rfl;let⟨r,hr⟩:=ZO (Pv A X i);rw[<-hr]at mR lN wN a3 ⊢;let⟨G,hG⟩:=ZO (Q G3 s (Xb r));rw[<-hG]at mR ⊢;have n1:=bm (l:=X) (i:=i) uh;have g1:=Yk mR (i:=i) uh;unfold uv at g1;have y1:=wN.getD uh i;have y2:=dp.getD uh i;let⟨a,ha⟩:=ZO (r.getD i 0);let⟨b,hb⟩:=ZO (X.getD i 0);rw[<-ha]at g1 y1 a3;rw[<-hb]at n1 y2 a3;have e1:(a:Int)+(b:Int)=((a+b:Nat):Int):=rfl;have e2:((a+b:Nat):Int)%18446744073709551616=((a+b:Nat):Int):=uh;have c2:Uf G ⟨s,i,aq⟩ (j W (a+b:Nat))=_:=YN (f:=uv) mR (i:=i) uh (a+b) rfl;simp -implicitDefEqProofs only[go_sem,e,f1,f10,f11,f66,f67,eZ,al,aH,n1,g1,e1,e2,c2];refine⟨⟨e,f1,f10,f11,f66,i+1,mC,rfl,?_⟩,?_⟩
     .rw[hG,set_set,a3];rfl
     .simp only[vi,Zu,↓reduceIte,f67];omega
    .have dT:¬(i:Int)<5:=uh;obtain rfl:i=5:=uh;have c5:((5:Nat):Int)=5:=rfl;rw[c5]at f67 dT;let⟨b9,cg⟩:=Zb4 C cv OL dp;have a4:(Q G3 s (Xb (Pv A X 5)))[bR]? = ae (Xb R):=by rw[an,if_neg uh];exact ew
     have rF:Zm h.size h (Q G3 s (Xb (Pv A X 5))):=eC.ZA uh _;let⟨N,hN⟩:=ZO (Pv A X 5);rw[<-hN]at mR lN b9 cg a4 rF ⊢;generalize Q G3 s (Xb N)=G4 at *;have r1:=Nw lN mR;have r2:=Nw P a4;have fc:(N.map uv).length=5:=by simpa using lN
     have tN:(N.map uv).take 5=N.map uv:=am uh;have tR:(R.map uv).take 5=R.map uv:=am uh;simp -implicitDefEqProofs only[go_sem,e,f1,f10,f11,f66,f67,dT,r1,r2];refine (fY T G4 N R lN P b9 bn).use ?_;rintro _ G5 ⟨rfl,b5⟩;let⟨w1,w2,w3⟩:=BT lN P b9 bn;let⟨m1,m2,m3,_⟩:=Mp w2 w1;let⟨M,hM⟩:=ZO (Js (Tu N R 5));rw[<-hM]at m1 m2 m3 ⊢;have c7:=b5.get (Zb mR) mR;have fs:=b5.get (Zb a4) a4;have eB:Zm h.size h G5:=rF.trans (b5.mono rF.size);have lM:(M.map uv).length=5:=by simpa using m1
     have bo:(M.map uv).all YV=true:=by simp[uv,YV]
     have w5:=Yr (h:=G5) (b:=s) (l:=(N.map uv)) (by unfold Xb at c7;rw[aw]at c7;exact c7) 0 (M.map uv);rw[if_pos ⟨zK,bo⟩,Yf zK]at w5;have WF:((D rest):Int)<=d:=uh;let⟨mn,fi⟩:=ZO (min 16 (D rest));have eX:(if ((D rest):Int)<16 then ((D rest):Int) else 16)=((mn:Nat):Int):=by split<;>omega
     have eH:(mn:Int)<=(D rest):=uh;have eS:rest.drop mn=data.drop (16*(k+1)):=by
      rw[Jy];by_cases hc:(D rest)<=16
      .grind
      .grind
     have s2:=Mk s1 rfl (k:=mn) uh a1 (d-mn);rw[eS]at s2;have eR:Xr M%OQ=ZbY (Jb (QO key)) data (k+1):=by
      rw[m3,w3,cg,a2,cw,ZbY,<-Vo,Nat.mul_mod,<-Nat.mod_add_mod,<-Nat.mul_mod]
     simp -implicitDefEqProofs only[go_sem,e,f1,f10,f11,w5,lM,eX,eH,al,Vj];refine⟨⟨e,f10,f11,eB.ZA uh _,?_,k+1,M,uh,s2,?_,?_,m1,m2,eR⟩,?_⟩
     .grind
     .show (D rest)-mn<=d-mn;omega
     .grind [Xb]
     .show (D rest)-mn<(D rest);omega
   .have dA:¬(0:Int)<((data.drop (16*k)).length:Int):=uh;have ep:k=((D data)+15)/16:=uh;rw[ep]at Vo;let⟨rest,EL⟩:=ZO (data.drop (16*k));rw[<-EL]at f1 dA;have r1:=Nw C gA;have tA:(A.map uv).take 5=A.map uv:=am (by simp[C]);simp -implicitDefEqProofs only[go_sem,e,f1,f10,f11,dA,r1];refine (fZ T g A C (OL.mono HE)).use ?_;rintro _ g6 ⟨rfl,b6⟩;let⟨m1,m2,m3,m4⟩:=Mp C (OL.mono HE);let⟨q1,q2,q3⟩:=vV m1 m2 m4;rw[m3,Vo]at q3;let⟨M,hM⟩:=ZO (Nv (Js A));rw[<-hM]at q1 q2 q3 ⊢;have b7:=b6.get (Zb gA) gA;have eA:Zm h.size h g6:=hg.trans (b6.mono hg.size);have lM:(M.map uv).length=5:=by simpa using q1
    have fh:(A.map uv).length=5:=by simpa using C
    have bo:(M.map uv).all YV=true:=by simp[uv,YV]
    have w5:=Yr (h:=g6) (b:=s) (l:=(A.map uv)) (by unfold Xb at b7;rw[aw]at b7;exact b7) 0 (M.map uv);rw[if_pos ⟨zK,bo⟩,Yf zK]at w5;have b2:Zm h.size h (Q g6 s (O (M.map uv).toArray 221)):=eA.ZA uh _;have c6:(Q g6 s (O (M.map uv).toArray 221))[s]? = ae (Xb M):=by
     have:=YB (o:=O (M.map uv).toArray 221) b7;unfold Xb;rw[aw];exact this
    let⟨g7,cz⟩:=ZO (Q g6 s (O (M.map uv).toArray 221));rw[<-cz]at w5 b2 c6;clear cz;have sm:Bs g7 (aa (mw p 1 c 16) 16 (c-16)) ((key.drop 16).take 16):=ZkD (sk.YQ b2) rfl uh ck _;have c9:((key.drop 16).take 16).length=16:=by rw[List.length_take,bf];omega
    have u2:(32:Int)<=c:=uh;have cd:Dg ((key.drop 16).take 16):=fun x w=>wk x (aV (ao w));simp -implicitDefEqProofs only[go_sem,e,f1,f10,f11,w5,lM,u2,Vj];refine (IY T _ _ _ 0 sm c9 uh).use ?_;rintro _ z ⟨rfl,b8⟩;have bT:=EJ (t:=0) (Mr cd c9);rw[bb,bd]at bT;have cO:=bC (t:=0) (Mr cd c9) uh;have cN:=Nx (Jb ((key.drop 16).take 16)) 0;let⟨S,hS⟩:=ZO (aY (Jb ((key.drop 16).take 16)) 0);rw[<-hS]at bT cO cN ⊢;clear hS;have c0:=b8.get (Zb c6) c6;have bY:Zm h.size h z:=b2.trans (b8.mono b2.size);have lS:(S.map uv).length=5:=by simpa using cN
    have ek:(S.map uv).all YV=true:=by simp[uv,YV]
    have eg:XB [Value.int W 0,j W 0,j W 0,j W 0,j W 0] 0 (S.map uv)=S.map uv:=Yf lS;simp -implicitDefEqProofs only[go_sem,e,f1,f10,f11,lS,ek,eg,ZkF];have T0:Zgt key data=Xr M+Xr S:=by rw[q3,bT];rfl
    have b0:Zm (z.size+1) (z.push (O (S.map uv).toArray 221)) ((z.push (O (S.map uv).toArray 221)).push (O ((U 16 0).map bv).toArray 5)):=Zm.push zX _;have bW:(z.push (O (S.map uv).toArray 221))[z.size]? = ae (Xb S):=by rw[Zf];unfold Xb;rw[aw]
    have dj:(z.push (O (S.map uv).toArray 221))[s]? = ae (Xb M):=by rw[ZX (Zb c0)];exact c0
    have cT:Zm h.size h (z.push (O (S.map uv).toArray 221)):=bY.Xj bY.size _;have o9:YL (z.size+1) 5 ((z.push (O (S.map uv).toArray 221)).push (O ((U 16 0).map bv).toArray 5)) (aa (ae ⟨z.size+1,0,aq⟩) 0 16) []:=by
     refine⟨.inr ⟨z.size+1,16,(U 16 0).map bv,bh _,rfl,?_,rfl,zX,Nat.zero_le _⟩,fun x w=>by cases w⟩;have:=Zf (h:=z.push (O (S.map uv).toArray 221)) (o:=O ((U 16 0).map bv).toArray 5);rw[bk]at this;exact this
    have eO:=Zb c0;have eP:=bY.size;have ct:(z.push (O (S.map uv).toArray 221)).size=z.size+1:=zX;obtain⟨bS,et⟩:∃b,b=z.size:=⟨_,rfl⟩
    rw[<-et]at b0 bW o9 eO eP ct ⊢;let⟨J,hJ⟩:=ZO (z.push (O (S.map uv).toArray 221));rw[<-hJ]at b0 bW dj cT o9 ct ⊢;clear hJ;refine VS.YC (fun F g=>F 11=ak (ae ⟨s,0,aq⟩)/\F 16=ak (ae ⟨bS,0,aq⟩)/\Zm (bS+1) J g/\∃(i n sum bits:Nat) (out:List Nat),i<=5/\F 87=j Y i/\F 18=j W sum/\F 19=j W bits/\F 20=j Y n/\YL (bS+1) 5 g (F 17) out/\(D out)=n/\bits<8/\26*i=8*n+bits/\sum<8*2 ^ bits/\Zgt key data=Jb out+256 ^ n*(sum+2 ^ bits*KO (M.drop i) (S.drop i)))
     (fun F _=>5-(vi (F 87)).toNat) rfl ⟨f11,rfl,b0,0,0,0,0,[],uh,rfl,rfl,rfl,rfl,o9,rfl,uh,uh,uh,by grind [Jb,gn]⟩ ?_
    clear e f1 f10 f11 F b0 o9;rintro F g' ⟨f11,f16,CT,i,n,sum,bits,out,hi,f87,f18,f19,f20,ho,I,bK,bq,wH,hT⟩;have dv:=CT.get (k:=s) uh dj;have ds:=CT.get (k:=bS) uh bW;have dz:=CT.size;by_cases Ye:i<5
    .have Yh:(i:Int)<5:=uh;rw[mX uh uh]at hT;have g1:=Yk dv (i:=i) uh;have g2:=Yk ds (i:=i) uh;unfold uv at g1 g2;have y1:=q2.getD uh i;have y2:=cO.getD uh i;let⟨a,ha⟩:=ZO (M.getD i 0);let⟨b,hb⟩:=ZO (S.getD i 0);rw[<-ha]at g1 y1 hT;rw[<-hb]at g2 y2 hT;have V:=Zgy hT;have gq:=wF (c:=a+b) wH uh;have p8:=wE bK;have cB:(a+b)*2 ^ bits<=268435455*128:=Nat.mul_le_mul uh p8;have eV:sum<1024:=uh;have e1:(a:Int)+(b:Int)=((a+b:Nat):Int):=rfl;have e2:((a+b:Nat):Int)%18446744073709551616=((a+b:Nat):Int):=uh;have e3:XV W ((a+b:Nat):Int) (bits:Int)=(((a+b)*2 ^ bits:Nat):Int):=by
      rw[FD _ _ uh,Nat.mod_eq_of_lt uh]
     let⟨cc,cA⟩:=ZO ((a+b)*2 ^ bits);rw[<-cA]at e3 cB V gq;have e4:(sum:Int)+(cc:Int)=((sum+cc:Nat):Int):=rfl;have e5:((sum+cc:Nat):Int)%18446744073709551616=((sum+cc:Nat):Int):=uh;have e6:(bits:Int)+26=((bits+26:Nat):Int):=rfl;have e7:((bits+26:Nat):Int)%18446744073709551616=((bits+26:Nat):Int):=uh;have e8:¬(bits:Int)<0:=uh;simp -implicitDefEqProofs only[go_sem,f11,f16,f18,f19,f20,f87,Yh];refine VS.q mixed zI ?_;simp -implicitDefEqProofs only[go_sem,f11,f16,f18,f19,f20,f87,Yh,al,aH,g1,g2,e1,e2,e3,e4,e5,e6,e7,e8];refine VS.YC (fun F g=>F 11=ak (ae ⟨s,0,aq⟩)/\F 16=ak (ae ⟨bS,0,aq⟩)/\F 87=j Y i/\Zm (bS+1) J g/\∃(n sum bits:Nat) (out:List Nat),F 18=j W sum/\F 19=j W bits/\F 20=j Y n/\YL (bS+1) 5 g (F 17) out/\(D out)=n/\bits<34/\26*(i+1)=8*n+bits/\sum<8*2 ^ bits/\Zgt key data=Jb out+256 ^ n*(sum+2 ^ bits*KO (M.drop (i+1)) (S.drop (i+1))))
      (fun F _=>(vi (F 19)).toNat) rfl ⟨f11,f16,f87,CT,n,sum+cc,bits+26,out,rfl,rfl,f20,ho,I,uh,uh,gq,V⟩ ?_
     clear f11 f16 f18 f19 f20 f87 ho I hT V wH gq bq bK CT dv ds dz g1 g2 e3 e4 e5 e6 e7 e8 p8 cB cA eV F cc;clear n sum bits out g';rintro F g' ⟨f11,f16,f87,CT,n,sum,bits,out,f18,f19,f20,ho,I,bK,bq,wH,hT⟩;have dz:=CT.size;by_cases hb:8<=bits
     .have Ck:(8:Int)<=bits:=uh;have eo:(n:Int)<16:=uh;have gq:=wG wH hb;have V:=Zb7 hb hT;have hp:2 ^ bits<=2 ^ 34:=aS HE uh;have IE:sum<18446744073709551616:=Nat.lt_of_lt_of_le wH (Nat.le_trans (Nat.mul_le_mul_left 8 hp) HE);have em:((sum:Nat):Int)%256=((sum%256:Nat):Int):=rfl;have es:Xn W (sum:Int) 8=((sum/256:Nat):Int):=Mo sum 8 HE;have eb:(bits:Int)-8=((bits-8:Nat):Int):=uh;have eD:((bits-8:Nat):Int)%18446744073709551616=((bits-8:Nat):Int):=uh;simp -implicitDefEqProofs only[go_sem,f11,f16,f18,f19,f20,f87,Ck,eo,em];have hX:sum%256<256:=uh;refine ZP (E:=5) (B:=bS+1) XD ba T8 SU SQ (ho.push _) Fo (Bs.one hX 1) Fo ?_;intro v' h' IS QW _;simp -implicitDefEqProofs only[go_sem,f11,f16,f18,f19,f20,f87,es,eb,eD];refine⟨⟨f11,f16,f87,(CT.Xj uh _).trans QW,n+1,sum/256,bits-8,out++[sum%256],rfl,rfl,rfl,IS,by simp[I],uh,uh,gq,?_⟩,?_⟩
      .rw[V,mY,I]
      .simp only[vi,Zu,↓reduceIte,Nat.reduceEqDiff,f19];omega
     .have Ck:¬(8:Int)<=bits:=uh;have e9:(i:Int)+1=((i+1:Nat):Int):=rfl;simp -implicitDefEqProofs only[go_sem,f11,f16,f18,f19,f20,f87,Ck,e9];refine⟨⟨f11,f16,CT,i+1,n,sum,bits,out,Ye,rfl,f18,f19,f20,ho,I,uh,bq,wH,hT⟩,?_⟩;simp only[vi,Zu,↓reduceIte,f87];omega
    .have XX:¬(i:Int)<5:=uh;obtain rfl:i=5:=uh;have c5:((5:Nat):Int)=5:=rfl;rw[c5]at f87 XX;obtain rfl:n=16:=uh;have e0:KO (M.drop 5) (S.drop 5)=0:=by rw[aI uh,aI uh];rfl
     rw[e0,bb,bd]at hT;have eU:=wu ho.byte I hT;have ei:mS key data=out:=eU.symm;simp -implicitDefEqProofs only[go_sem,f11,f16,f18,f19,f20,f87,XX];rw[ei];exact⟨ho.mono uh,cT.trans (CT.mono uh)⟩
theorem gv(T:World)(h:Hp)(v u:Value)(key data:List Nat)(f:Bs h v key)(g:Bs h u data)(s:RT v)(r:RT u):
  Zg Tryz.prog T 84 #[v,u] h fun k h'=>ZbZ h.size h' k key data/\Zm h.size h h':=by
 obtain⟨p,c,rfl,m⟩:=f.open;obtain⟨q,d,rfl,n⟩:=g.open;refine Zg.X8 [_,_] Tryz.func84 ?_;unfold ZbZ;by_cases i:(D key)=32
 .by_cases o:4000<(D data)
  .have a:4000<((D data):Int):=uh;have b:((D key):Int)=32:=uh;have e:Ry key data=1:=by unfold Ry;rw[if_pos (.inr o)]
   rw[e];simp -implicitDefEqProofs only[go_sem,a,b];exact⟨_,rfl,YL.nil _ _ _⟩
  .have a:¬4000<((D data):Int):=uh;have b:((D key):Int)=32:=uh;have e:Ry key data=0:=by unfold Ry;rw[if_neg uh]
   rw[e,if_pos rfl];simp -implicitDefEqProofs only[go_sem,a,b];refine (mZ T _ _ _ key data f g i uh s r).use ?_;rintro v1 w ⟨t,x⟩;simp -implicitDefEqProofs only[go_sem]
   grind
 .have b:¬((D key):Int)=32:=uh;have e:Ry key data=1:=by unfold Ry;rw[if_pos (.inl i)]
  rw[e];simp -implicitDefEqProofs only[go_sem,b];exact⟨_,rfl,YL.nil _ _ _⟩
end Go.Proofs.YtkhkmpfenaipaaaGreatDoor
