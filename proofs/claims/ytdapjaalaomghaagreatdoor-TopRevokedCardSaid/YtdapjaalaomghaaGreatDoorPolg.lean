/- Part Polg. -/
import Derived.Test.YtdapjaalaomghaaGreatDoorPik
import Derived.Test.YtdapjaalaomghaaGreatDoorW14
open Go.Value renaming int→j,slice→ab,pointer→am
open Go.IntKind renaming u64→U,i64→W,u8→Y
open Go.Obj renaming cells→O
open Go.Proofs.Tryz renaming underlying26→b7
open List renaming length→D,replicate→Q,getD_eq_getElem?_getD→Z,take_of_length_le→ae,getElem?_append_right→ao,append_nil→aq,getElem?_eq_getElem→aU,drop_of_length_le→ba,mem_of_mem_take→bb,append_assoc→bf,drop_eq_getElem_cons→bg,getElem?_replicate→bl,length_set→bo,getElem?_eq_none→br,mem_of_mem_drop→bP,replicate_succ→bQ,length_drop→cd,drop_zero→cf
open Nat renaming mul_assoc→be,pow_add→bh,zero_add→bn,mul_add→bt,le_refl→bx,pow_le_pow_right→bG,add_assoc→b0,add_sub_cancel→b2,mul_zero→b9,add_zero→ca
open Int renaming toNat_natCast→aw
open Option renaming some→al,none→bd
open Array renaming getElem?_setIfInBounds→aa,size_setIfInBounds→bk,size_push→bp
namespace Go.Proofs.YtdapjaalaomghaaGreatDoor
open Go Go.V
set_option linter.all false
set_option maxRecDepth 100000
variable{l:List Nat}
def iZ(l:List Nat):Nat->List Nat
 | 0=>l
 | i+1=>(iZ l i).set (4*i+3) ((iZ l i).getD (4*i+3) 0%16)
def mq(l:List Nat):Nat->List Nat
 | 0=>l
 | i+1=>(mq l i).set (4*i+4) ((mq l i).getD (4*i+4) 0/4*4)
theorem Fb(l:List Nat):∀i,(iZ l i).length=(D l)
 | 0=>rfl
 | i+1=>by rw[iZ,bo,Fb l i]
theorem Fc(l:List Nat):∀i,(mq l i).length=(D l)
 | 0=>rfl
 | i+1=>by rw[mq,bo,Fc l i]
theorem i6(w:Dg l):∀i,Dg (iZ l i)
 | 0=>w
 | i+1=>(i6 w i).set _ (by have:=(i6 w i).getD (4*i+3);omega)
theorem i7(w:Dg l):∀i,Dg (mq l i)
 | 0=>w
 | i+1=>(i7 w i).set _ (by have:=(i7 w i).getD (4*i+4);omega)
theorem ZcZ(hl:(D l)=16):mq (iZ l 4) 3=Qr l:=by
 match l,hl with
 | [a0,a1,a2,a3,a4,a5,a6,a7,a8,a9,a10,a11,a12,a13,a14,a15],_=>rfl
theorem bz(key:List Nat):Qr key=Qr (key.take 16):=by
 unfold Qr;apply List.map_congr_left;intro i hi;have HN:i<16:=by simpa using hi
 have e:(key.take 16).getD i 0=key.getD i 0:=by
  rw[Z,List.getElem?_take,if_pos HN,Z]
 unfold yh;rw[e]
theorem qm{key:List Nat}(hk:(D key)=32):mq (iZ (key.take 16) 4) 3=Qr key:=by
 rw[bz];exact ZcZ aac
theorem Nf(w:Dg l)(hl:(D l)=16):XX l<340282366920938463463374607431768211456:=by
 have:=TA w (n:=16) nT;exact this
theorem OC(n t:Nat):(Bp n t).length=5:=rfl
theorem BA{n t:Nat}(hn:n<340282366920938463463374607431768211456)(ht:t<=1):YY 67108864 (Bp n t):=
 YY.Hm nT nT nT nT nT
theorem Fe{n t:Nat}(hn:n<340282366920938463463374607431768211456):Y3 (Bp n t)=n+340282366920938463463374607431768211456*t:=by
 simp only[Bp,Y3];omega
def Rm(a x:List Nat):Nat->List Nat
 | 0=>a
 | i+1=>(Rm a x i).set i ((Rm a x i).getD i 0+x.getD i 0)
theorem IF(a x:List Nat):∀i,(Rm a x i).length=(D a)
 | 0=>rfl
 | i+1=>by rw[Rm,bo,IF a x i]
theorem mw{a x:List Nat}{K L:Nat}(wa:YY K a)(wx:YY L x)(hK:0<K)(hL:0<L):∀i,YY (K+i*L) (Rm a x i)
 | 0=>by rw[Nat.zero_mul];exact wa
 | i+1=>by
  have h:=mw wa wx hK hL i;have q1:=h.getD nT i;have q2:=wx.getD hL i;rw[Rm,Nat.add_mul,Nat.one_mul];exact (h.mono nT).set _ _ nT
theorem yp{a x:List Nat}(ha:(D a)=5)(hx:(D x)=5)(wa:YY 134217728 a)(wx:YY 67108864 x):YY 268435456 (Rm a x 5)/\Y3 (Rm a x 5)=Y3 a+Y3 x:=by
 obtain⟨a0,a1,a2,a3,a4,rfl⟩:=Hm ha;obtain⟨x0,x1,x2,x3,x4,rfl⟩:=Hm hx;obtain⟨w0,w1,w2,w3,w4⟩:=wa.ZcT;obtain⟨u0,u1,u2,u3,u4⟩:=wx.ZcT;have e:Rm [a0,a1,a2,a3,a4] [x0,x1,x2,x3,x4] 5=[a0+x0,a1+x1,a2+x2,a3+x3,a4+x4]:=rfl;rw[e];exact⟨YY.Hm nT nT nT nT nT,by simp only[Y3];omega⟩
theorem Ff(a b:List Nat):XX (a++b)=XX a+256 ^ (D a)*XX b:=by
 induction a with
 | nil=>simp[XX]
 | cons x a ih=>simp only[List.cons_append,XX,ih,List.length_cons,Nat.pow_succ,bt,b0];congr 2;rw[<-be,Nat.mul_comm 256]
theorem i9(n:Nat):XX (Q n 0)=0:=by
 induction n with
 | zero=>rfl
 | succ n ih=>rw[bQ,XX,ih]
def X6(l:List Nat):List Nat:=l++[1]++Q (16-(D l)) 0
theorem BC(hl:(D l)<=16):(X6 l).length=17:=by simp[X6];omega
theorem qn(hl:(D l)<=16):XX ((X6 l).take 16)+340282366920938463463374607431768211456*(X6 l).getD 16 0=XX (l++[1]):=by
 by_cases h:(D l)=16
 .have e1:(X6 l).take 16=l:=by unfold X6;rw[bf,List.take_left' h]
  have e2:(X6 l).getD 16 0=1:=by
   unfold X6;rw[Z,bf,ao nT,h];rfl
  rw[e1,e2,Ff,h];rfl
 .have e2:(X6 l).getD 16 0=0:=by
   unfold X6;rw[Z,ao Ig,bl];split<;>rfl
  have e1:(X6 l).take 16=(l++[1])++Q (15-(D l)) 0:=by
   unfold X6;rw[List.take_append,ae Ig,List.take_replicate]
   congr 2
   simp;omega
  rw[e1,e2,Ff,i9];omega
theorem qo(hl:(D l)<=16):(X6 l).getD 16 0<=1:=by
 by_cases h:(D l)=16
 .have e2:(X6 l).getD 16 0=1:=by
   unfold X6;rw[Z,bf,ao nT,h];rfl
  omega
 .have e2:(X6 l).getD 16 0=0:=by
   unfold X6;rw[Z,ao Ig,bl];split<;>rfl
  omega
theorem yq(w:Dg l):Dg (X6 l):=by
 intro x hx;unfold X6 at hx;simp only[List.mem_append,List.mem_singleton,List.mem_replicate]at hx;rcases hx with (h|h)|h
 .exact w x h
 .omega
 .omega
theorem qp(hl:(D l)<=16):(l++Q (17-(D l)) 0).set (D l) 1=X6 l:=by
 have e:Q (17-(D l)) 0=0 :: Q (16-(D l)) 0:=by rw[<-bQ];congr 1;omega
 rw[e,List.set_append_right _ _ (bx _),Nat.sub_self,List.set_cons_zero];unfold X6;rw[bf];rfl
def Lw:List Nat->List Nat->Nat
 | x :: l,y :: k=>(x+y)+67108864*Lw l k
 | _,_=>0
theorem bB:∀(l k:List Nat),(D l)=(D k)->Lw l k=Y3 l+Y3 k
 | [],[],_=>rfl
 | x :: l,y :: k,h=>by simp only[Lw,Y3];rw[bB l k (by simpa using h)];omega
theorem qr{out:List Nat}{t R:Nat}(w:Dg out)(hl:(D out)=16)(h:t=XX out+256 ^ 16*R):out=(List.range 16).map fun i=>t/256 ^ i%256:=by
 apply List.ext_getElem?;intro i;by_cases hi:i<16
 .rw[List.getElem?_map,List.getElem?_range hi];have e:=iN w i;rw[Z,aU nT]at e;rw[aU nT];simp only[Option.map_some,Option.some.injEq];simp only[Option.getD_some]at e;rw[e,h];have e2:256 ^ 16*R=256 ^ i*(256*(256 ^ (15-i)*R)):=by
   rw[<-be 256,<-be,<-Nat.pow_succ',<-bh]
   congr 2;omega
  rw[e2,Nat.add_mul_div_left _ _ (Nat.pow_pos nT),Nat.add_mul_mod_self_left]
 .rw[br nT,br Ig]
theorem yu{T v n s B R:Nat}(hB:256<=B)(hd:B%256=0)(h:T=v+n*(s+B*R)):T=v+n*(s%256)+n*256*(s/256+B/256*R):=by
 have e:s+B*R=s%256+256*(s/256+B/256*R):=by
  have e1:B=256*(B/256):=nT;have e2:B*R=256*(B/256*R):=by rw[<-be,<-e1]
  have e3:=Nat.mod_add_div s 256;rw[bt,e2];omega
 rw[h,e,bt,<-be,<-b0]
theorem qs{i:Nat}(hi:i<4):nth [Value.int W 3,j W 7,j W 11,j W 15] i=al (j W ((4*i+3:Nat):Int)):=by
 match i,hi with
 | 0,_=>rfl
 | 1,_=>rfl
 | 2,_=>rfl
 | 3,_=>rfl
theorem qt{i:Nat}(hi:i<3):nth [Value.int W 4,j W 8,j W 12] i=al (j W ((4*i+4:Nat):Int)):=by
 match i,hi with
 | 0,_=>rfl
 | 1,_=>rfl
 | 2,_=>rfl
theorem ZlC(x:Nat)(hx:x<256):YN .and Y (x:Int) 15=((x%16:Nat):Int):=by
 have h:=wo x 15 hx Iw;have e:x &&& 15=x%16:=Nat.and_two_pow_sub_one_eq_mod x 4;rw[e]at h;exact h
theorem ZgZ(x:Nat)(hx:x<256):YN .and Y (x:Int) 252=((x/4*4:Nat):Int):=by
 have h:=wo x 252 hx Iw;have e:x &&& 252=x/4*4:=by
  have:∀y:Fin 256,y.val &&& 252=y.val/4*4:=Iw;exact this ⟨x,hx⟩
 rw[e]at h;exact h
def Zts:Value->Nat
 | ab _ l _=>l
 | _=>0
theorem qu(n:Nat)(vs:List Nat)(h:(D vs)<=n):Y8 ((Q n 0).map bv) 0 (vs.map bv)=(vs++Q (n-(D vs)) 0).map bv:=by
 rw[UU _ _ (by simpa using h),List.length_map,<-List.map_drop,List.drop_replicate,List.map_append]
theorem ja{M S:List Nat}{i:Nat}(hM:i<(D M))(hS:i<(D S)):Lw (M.drop i) (S.drop i)=(M.getD i 0+S.getD i 0)+67108864*Lw (M.drop (i+1)) (S.drop (i+1)):=by
 rw[bg hM,bg hS,Lw,Z,Z,aU hM,aU hS];rfl
theorem Zc0{T v n s b c R:Nat}(h:T=v+n*(s+2 ^ b*(c+67108864*R))):T=v+n*(s+c*2 ^ b+2 ^ (b+26)*R):=by
 rw[h,bt (2 ^ b),Nat.mul_comm (2 ^ b) c,bh,<-be (2 ^ b),b0]
theorem qv{b:Nat}(h:b<8):2 ^ b<=128:=by
 have:=bG (show 0<2 by decide) (show b<=7 by omega);exact this
theorem qw{s c b:Nat}(hs:s<8*2 ^ b)(hc:c<268435456):s+c*2 ^ b<8*2 ^ (b+26):=by
 have h1:c*2 ^ b<=268435455*2 ^ b:=Nat.mul_le_mul_right _ nT;rw[bh];have:2 ^ 26=67108864:=rfl;rw[this];omega
theorem qx{s b:Nat}(hs:s<8*2 ^ b)(hb:8<=b):s/256<8*2 ^ (b-8):=by
 have:2 ^ b=2 ^ (b-8)*256:=by
  have e:b=b-8+8:=nT;rw[e,bh,b2]
 rw[this]at hs;omega
theorem yv{T v n s b R:Nat}(hb:8<=b)(h:T=v+256 ^ n*(s+2 ^ b*R)):T=v+256 ^ n*(s%256)+256 ^ (n+1)*(s/256+2 ^ (b-8)*R):=by
 have e:2 ^ b=2 ^ (b-8)*256:=by
  have e:b=b-8+8:=nT;rw[e,bh,b2]
 have hp:0<2 ^ (b-8):=Nat.pow_pos nT;have:=yu (B:=2 ^ b) (by rw[e];omega) (by rw[e];omega) h;rw[show 2 ^ b/256=2 ^ (b-8) by rw[e,Nat.mul_div_cancel _ nT]]at this;rw[Nat.pow_succ];exact this
theorem jc(l:List Nat)(x:Nat):XX (l++[x])=XX l+256 ^ (D l)*x:=by rw[Ff];rfl
theorem Zg0:(Qg 16 [Value.int Y 0])=(Q 16 0).map bv:=rfl
set_option maxHeartbeats 2000000 in
theorem jd(T:World)(h:Hp)(v u:Value)(key data:List Nat)(sk:Bs h v key)(sd:Bs h u data)(hk:(D key)=32)(hd:(D data)<=4000)(ck:PM v)(cu:PM u):
  Zd Tryz.prog T 78 #[v,u] h fun v' h'=>Yx h.size 5 h' v' (iU key data)/\Zj h.size h h':=by
 have wk:=sk.byte;have wd:=sd.byte;obtain⟨p,c,rfl,hkc⟩:=sk.VJ;have ck:(D key)<=c:=ck;have l16:(key.take 16).length=16:=aac;have s16:=Nc sk (m:=16) nT c;have c16:(16:Int)<=c:=nT;refine Zd.XT [_,_] Tryz.func78 ?_;simp -implicitDefEqProofs only[go_sem,c16];refine ZJ (E:=5) (B:=h.size) Xd b7 Tv Si Sh (Yx.nil _ _ _) (bx _) (by rw[hk]at sk;simpa using s16) (by rw[l16];decide) ?_;intro v1 h1 o1 b1 _;rw[List.nil_append]at o1;have o1n:=o1.Zm;rcases o1n with⟨_,hm,_⟩|⟨bc,cap,ZG,hbc,rfl,M7,JS,NB,Vk⟩
 .omega
 obtain⟨L,hL⟩:=ZN (key.take 16);have wL:Dg L:=by rw[hL];exact fun x hx=>wk x (bb hx)
 have ZlD:mq (iZ L 4) 3=Qr key:=by rw[hL];exact qm hk
 rw[<-hL]at l16 M7 JS NB Vk ⊢;clear o1 s16 hL;have ZE9:=Za M7;simp -implicitDefEqProofs only[go_sem];refine VS.Yk (fun F g=>F 0=ab p (D key) c/\F 1=u/\F 5=ab (al ⟨bc,0,bd⟩) (D L) cap/\F 25=.agg #[j W 3,j W 7,j W 11,j W 15]/\∃i:Nat,i<=4/\F 26=j W i/\g=h1.setIfInBounds bc (O ((iZ L i).map bv++ZG).toArray 5))
  (fun F _=>4-(vi (F 26)).toNat) rfl ⟨rfl,rfl,rfl,rfl,0,nT,rfl,(Vo M7).symm⟩ ?_
 rintro F g ⟨f0,f1,f5,f25,i,hi,f26,rfl⟩;have hx:=Yc (o:=O ((iZ L i).map bv++ZG).toArray 5) M7;have wA:=i6 wL i;have lA:=Fb L i;by_cases ZS:i<4
 .have Z7:(i:Int)<4:=nT;have XE:iZ L (i+1)=(iZ L i).set (4*i+3) ((iZ L i).getD (4*i+3) 0%16):=rfl;obtain⟨r,hr⟩:=ZN (iZ L i);rw[<-hr]at hx wA lA XE ⊢;obtain⟨G,hG⟩:=ZN (h1.setIfInBounds bc (O (r.map bv++ZG).toArray 5));rw[<-hG]at hx ⊢;have n1:=qs ZS;have g1:=Z6 hx (i:=4*i+3) nT;have x1:=wA.getD (4*i+3);unfold bv at g1;obtain⟨x,hxx⟩:=ZN (r.getD (4*i+3) 0);rw[<-hxx]at g1 x1 XE;have e1:=ZlC x x1;have hi1:((4*i+3:Nat):Int)<(D L):=nT;have c1:QQ G ⟨bc,4*i+3,bd⟩ (j Y (x%16:Nat))=_:=Yv (f:=bv) hx (i:=4*i+3) nT (x%16) rfl;simp -implicitDefEqProofs only[go_sem,f0,f1,f5,f25,f26,Z7,aw,bn,n1,hi1,g1,e1,c1];refine⟨⟨f0,f1,f5,f25,i+1,ZS,rfl,?_⟩,?_⟩
  .rw[hG,set_set,XE]
  .simp only[vi,Zq,↓reduceIte,f26];omega
 .have Xv:¬(i:Int)<4:=nT;obtain rfl:i=4:=nT;have c4:((4:Nat):Int)=4:=rfl;rw[c4]at f26 Xv;obtain⟨L2,hL2⟩:=ZN (iZ L 4);rw[<-hL2]at hx wA lA ZlD ⊢;have B2:Zj h.size h (h1.setIfInBounds bc (O (L2.map bv++ZG).toArray 5)):=b1.Zs hbc _;generalize h1.setIfInBounds bc (O (L2.map bv++ZG).toArray 5)=h2 at *;clear hL2;simp -implicitDefEqProofs only[go_sem,f0,f1,f5,f25,f26,Xv];refine VS.Yk (fun F g=>F 0=ab p (D key) c/\F 1=u/\F 5=ab (al ⟨bc,0,bd⟩) (D L) cap/\F 36=.agg #[j W 4,j W 8,j W 12]/\∃i:Nat,i<=3/\F 37=j W i/\g=h2.setIfInBounds bc (O ((mq L2 i).map bv++ZG).toArray 5))
   (fun F _=>3-(vi (F 37)).toNat) rfl ⟨f0,f1,f5,rfl,0,nT,rfl,(Vo hx).symm⟩ ?_
  clear f0 f1 f5 f25 f26 Xv F;rintro F g ⟨f0,f1,f5,f36,i,hi,f37,rfl⟩;have iQ:=Yc (o:=O ((mq L2 i).map bv++ZG).toArray 5) hx;have wB:=i7 wA i;have lB:=Fc L2 i;by_cases ZS:i<3
  .have Z7:(i:Int)<3:=nT;have XE:mq L2 (i+1)=(mq L2 i).set (4*i+4) ((mq L2 i).getD (4*i+4) 0/4*4):=rfl;obtain⟨r,hr⟩:=ZN (mq L2 i);rw[<-hr]at iQ wB lB XE ⊢;obtain⟨G,hG⟩:=ZN (h2.setIfInBounds bc (O (r.map bv++ZG).toArray 5));rw[<-hG]at iQ ⊢;have n1:=qt ZS;have g1:=Z6 iQ (i:=4*i+4) nT;have x1:=wB.getD (4*i+4);unfold bv at g1;obtain⟨x,hxx⟩:=ZN (r.getD (4*i+4) 0);rw[<-hxx]at g1 x1 XE;have e1:=ZgZ x x1;have hi1:((4*i+4:Nat):Int)<(D L):=nT;have c1:QQ G ⟨bc,4*i+4,bd⟩ (j Y (x/4*4:Nat))=_:=Yv (f:=bv) iQ (i:=4*i+4) nT (x/4*4) rfl;simp -implicitDefEqProofs only[go_sem,f0,f1,f5,f36,f37,Z7,aw,bn,n1,hi1,g1,e1,c1];refine⟨⟨f0,f1,f5,f36,i+1,ZS,rfl,?_⟩,?_⟩
   .rw[hG,set_set,XE]
   .simp only[vi,Zq,↓reduceIte,f37];omega
  .have Xv:¬(i:Int)<3:=nT;obtain rfl:i=3:=nT;have c3:((3:Nat):Int)=3:=rfl;rw[c3]at f37 Xv;rw[ZlD]at iQ wB lB ⊢;have B3:Zj h.size h (h2.setIfInBounds bc (O ((Qr key).map bv++ZG).toArray 5)):=B2.Zs hbc _;generalize h2.setIfInBounds bc (O ((Qr key).map bv++ZG).toArray 5)=h3 at *;have Zc1:=EW key;have oc:Yx h.size 5 h3 (ab (al ⟨bc,0,bd⟩) (D L) cap) (Qr key):=
    ⟨.inr ⟨bc,cap,ZG,hbc,by rw[l16,Zc1],iQ,uK,by rw[NB,l16,Zc1],nT⟩,wB⟩
   simp -implicitDefEqProofs only[go_sem,f0,f1,f5,f36,f37,Xv];refine (Kw T _ _ (Qr key) 0 oc.bs Zc1 nT).use ?_;rintro _ h4 ⟨rfl,b4⟩;have B4:Zj h.size h h4:=B3.trans (b4.mono B3.size);have hR:=Nf wB Zc1;have hrv:Y3 (Bp (XX (Qr key)) 0)=XX (Qr key):=by rw[Fe hR,b9,ca]
   have hrl:=BA (t:=0) hR nT;have hrn:=OC (XX (Qr key)) 0;obtain⟨R,hRR⟩:=ZN (Bp (XX (Qr key)) 0);rw[<-hRR]at hrv hrl hrn ⊢;have lR:(R.map uv).length=5:=by simpa using hrn
   have hoR:(R.map uv).all YD=true:=by simp[uv,YD]
   have lp:Y8 [Value.int U 0,j U 0,j U 0,j U 0,j U 0] 0 (R.map uv)=R.map uv:=Z4 lR;simp -implicitDefEqProofs only[go_sem,f0,f1,f5,f36,f37,lR,hoR,lp];obtain⟨bR,hbR⟩:∃b,b=h4.size:=⟨_,rfl⟩
   obtain⟨bA,hbA⟩:∃b,b=h4.size+1:=⟨_,rfl⟩
   obtain⟨H,hH⟩:=ZN (((h4.push (O (R.map uv).toArray 192)).push (O #[j U 0,j U 0,j U 0,j U 0,j U 0] 192)):Hp);have HB:Zj h.size h H:=by rw[hH];exact (B4.YU B4.size _).YU (by have:=B4.size;simp;omega) _
   have HR:H[bR]? = al (YT R):=by
    rw[hH,hbR,ZI uK,Zc];unfold YT;rw[aq]
   have HA:H[bA]? = al (YT [0,0,0,0,0]):=by
    have:=Zc (h:=(h4.push (O (R.map uv).toArray 192))) (o:=O #[j U 0,j U 0,j U 0,j U 0,j U 0] 192);rw[bp]at this;rw[hH,hbA,this];rfl
   have ZlF:h.size<=bR:=by have:=B4.size;omega
   rw[<-hH,<-hbA,<-hbR];have ZFc:bA=bR+1:=nT;clear hH hbA hbR;have sd0:Bs h (F 1) (data.drop (16*0)):=by rw[f1];exact sd
   have cu0:PM (F 1):=by rw[f1];exact cu
   refine VS.Yk (fun F g=>F 0=ab p (D key) c/\F 10=am (al ⟨bR,0,bd⟩)/\F 11=am (al ⟨bA,0,bd⟩)/\Zj h.size h g/\g[bR]? = al (YT R)/\∃(k:Nat) (A:List Nat),16*k<(D data)+16/\Bs h (F 1) (data.drop (16*k))/\PM (F 1)/\g[bA]? = al (YT A)/\(D A)=5/\YY 134217728 A/\Y3 A%Rl=yi (XX (Qr key)) data k)
    (fun F _=>Zts (F 1)) rfl ⟨f0,rfl,rfl,HB,HR,0,[0,0,0,0,0],nT,sd0,cu0,HA,rfl,YY.Hm nT nT nT nT nT,rfl⟩ ?_
   clear f0 f1 f5 f36 f37 Xv sd0 cu0 F HB HR HA H;rintro F g ⟨f0,f10,f11,hg,gR,k,A,ZFd,s1,yw,gA,lA5,PC,Up⟩;obtain⟨q,d,f1,hqc⟩:=s1.open;rw[f1]at s1 yw;have yw:(data.drop (16*k)).length<=d:=yw;have Ztw:(data.drop (16*k)).length=(D data)-16*k:=cd;by_cases ZS:16*k<(D data)
   .have hgt:(0:Int)<((data.drop (16*k)).length:Int):=nT;obtain⟨rest,Fg⟩:=ZN (data.drop (16*k));have wG:Zlu data k=rest.take 16++[1]:=by rw[Fg];rfl
    have XE:data.drop (16*(k+1))=rest.drop 16:=by rw[Fg,List.drop_drop];congr 1
    have ZlG:Dg rest:=by rw[Fg];exact fun x hx=>wd x (bP hx)
    rw[<-Fg]at f1 s1 yw hqc hgt Ztw;clear Fg;have z17:(#[Value.int Y 0,j Y 0,j Y 0,j Y 0,j Y 0,j Y 0,j Y 0,j Y 0,j Y 0,j Y 0,j Y 0,j Y 0,j Y 0,j Y 0,j Y 0,j Y 0,j Y 0]:Array Value)=((Q 17 0).map bv).toArray:=rfl;simp -implicitDefEqProofs only[go_sem,f0,f1,f10,f11,hgt,z17];have XW:=RP rest;refine GG (E:=5) (E':=194) (c:=(Q 17 0).map bv) Xd Tv Zc ((s1.Yz hg).Yz (Zj.push (bx _) _)).sl XW Ig ?_;obtain⟨n,hn⟩:=ZN (min (D rest) 16);have hB:(rest.map bv).take n=(rest.take n).map bv:=List.map_take.symm;have hBl:(rest.take n).length=n:=aac;have ZlH:rest.take n=rest.take 16:=by
     by_cases hc:(D rest)<=16
     .rw[ae nT,ae nT]
     .rw[hn,Nat.min_eq_right nT]
    rw[<-hn,hB,qu 17 _ nT,hBl,ZlH];rw[ZlH]at hBl;have ZlI:Dg (rest.take 16):=fun x hx=>ZlG x (bb hx);obtain⟨B,hBB⟩:=ZN (rest.take 16);rw[<-hBB]at hBl wG ZlI ⊢;have e17:(B++Q (17-n) 0).set n 1=X6 B:=by rw[<-hBl];exact qp nT
    have Ztx:(n:Int)<17:=nT;have Zzd:((B++Q (17-n) 0).map bv).set n (j Y 1)=(X6 B).map bv:=by rw[<-e17,List.map_set];rfl
    have ZlJ:(B++Q (17-n) 0).length=17:=Ig;have Zty:=hg.size;have Zze:=Za gR;have Zzf:=Za gA;obtain⟨bw,hbw⟩:=ZN (g.size);have hGR:∀o,((g.push o).setIfInBounds bw (O ((B++Q (17-n) 0).map bv).toArray 194))[bR]? = al (YT R):=fun o=>by
     rw[aa,if_neg nT,ZI nT];exact gR
    have hGA:∀o,((g.push o).setIfInBounds bw (O ((B++Q (17-n) 0).map bv).toArray 194))[bA]? = al (YT A):=fun o=>by
     rw[aa,if_neg nT,ZI nT];exact gA
    have hGW:∀o,((g.push o).setIfInBounds bw (O ((B++Q (17-n) 0).map bv).toArray 194))[bw]? = al (O ((B++Q (17-n) 0).map bv++[]).toArray 194):=fun o=>by
     rw[aq,hbw];exact Yc Zc
    have hGB:∀o,Zj h.size h ((g.push o).setIfInBounds bw (O ((B++Q (17-n) 0).map bv).toArray 194)):=fun o=>(hg.YU Zty _).Zs nT _;have hGS:∀o,((g.push o).setIfInBounds bw (O ((B++Q (17-n) 0).map bv).toArray 194)).size=bw+1:=fun o=>by rw[bk,bp,hbw]
    rw[<-hbw];specialize hGR (O ((Q 17 0).map bv).toArray 194);specialize hGA (O ((Q 17 0).map bv).toArray 194);specialize hGW (O ((Q 17 0).map bv).toArray 194);specialize hGB (O ((Q 17 0).map bv).toArray 194);specialize hGS (O ((Q 17 0).map bv).toArray 194);obtain⟨G1,um⟩:=ZN (((g.push (O ((Q 17 0).map bv).toArray 194)).setIfInBounds bw (O ((B++Q (17-n) 0).map bv).toArray 194)));rw[<-um]at hGR hGA hGW hGB hGS ⊢;clear um;have c1:QQ G1 ⟨bw,n,bd⟩ (j Y 1)=_:=Yv (f:=bv) hGW (i:=n) (by rw[ZlJ];omega) 1 rfl;rw[e17]at c1;have hW2:=Yc (o:=O ((X6 B).map bv++[]).toArray 194) hGW;have hR2:(G1.setIfInBounds bw (O ((X6 B).map bv++[]).toArray 194))[bR]? = al (YT R):=by rw[aa,if_neg nT];exact hGR
    have hA2:(G1.setIfInBounds bw (O ((X6 B).map bv++[]).toArray 194))[bA]? = al (YT A):=by rw[aa,if_neg nT];exact hGA
    have SA:Zj h.size h (G1.setIfInBounds bw (O ((X6 B).map bv++[]).toArray 194)):=hGB.Zs nT _;have hS2:(G1.setIfInBounds bw (O ((X6 B).map bv++[]).toArray 194)).size=bw+1:=by rw[bk,hGS]
    obtain⟨G2,md⟩:=ZN (G1.setIfInBounds bw (O ((X6 B).map bv++[]).toArray 194));rw[<-md]at c1 hW2 hR2 hA2 SA hS2;clear md hGR hGA hGW hGB hGS;have l17:=BC (l:=B) nT;have w17:=yq ZlI;have o17:Yx h.size 194 G2 (ab (al ⟨bw,0,bd⟩) 17 17) (X6 B):=
     ⟨.inr ⟨bw,17,[],nT,by rw[l17],hW2,uK,by rw[l17];rfl,nT⟩,w17⟩
    have s17:=Nc o17.bs (m:=16) nT 17;have t17:((X6 B).take 16).length=16:=aac;have g16:=Z6 hW2 (i:=16) nT;unfold bv at g16;have Zg4:=qo (l:=B) nT;have Hg:=qn (l:=B) nT;have wt:=Nf (l:=(X6 B).take 16) (fun x hx=>w17 x (bb hx)) t17;obtain⟨Z1,Lx⟩:=ZN ((X6 B).getD 16 0);rw[<-Lx]at g16 Zg4 Hg;have em:((Z1:Nat):Int)%18446744073709551616=(Z1:Nat):=nT;simp -implicitDefEqProofs only[go_sem,f0,f1,f10,f11,Ztx,aw,ZlJ,c1];refine VS.w (bw+1) [] (.q 0 (.q 1 (.q 2 (.q 3 (.q 5 (.s 4 .nil)))))) mixed uj ?_;simp -implicitDefEqProofs only[go_sem,g16,em];refine (Kw T _ _ ((X6 B).take 16) Z1 s17 t17 Zg4).use ?_;rintro _ G3 ⟨rfl,b3⟩;rw[hS2]at b3;have hR3:=b3.get (k:=bR) nT hR2;have hA3:=b3.get (k:=bA) nT hA2;have uo:Zj h.size h G3:=SA.trans (b3.mono nT);have hxv:=Fe (t:=Z1) wt;rw[Hg]at hxv;have BD:=BA (t:=Z1) wt Zg4;have hxn:=OC (XX ((X6 B).take 16)) Z1;obtain⟨X,hX⟩:=ZN (Bp (XX ((X6 B).take 16)) Z1);rw[<-hX]at hxv BD hxn ⊢;rw[<-wG]at hxv;have b3T:Zj (bw+1) G2 G3=True:=eq_true b3;simp -implicitDefEqProofs only[go_sem,b3T];refine VS.Yk (fun F g=>F 0=ab p (D key) c/\F 1=ab q (D rest) d/\F 10=am (al ⟨bR,0,bd⟩)/\F 11=am (al ⟨bA,0,bd⟩)/\F 66=.agg (X.map uv).toArray/\∃i:Nat,i<=5/\F 67=j W i/\g=G3.setIfInBounds bA (YT (Rm A X i)))
     (fun F _=>5-(vi (F 67)).toNat) rfl ⟨f0,f1,f10,f11,rfl,0,nT,rfl,(Vo hA3).symm⟩ ?_
    clear f0 f1 f10 f11 F gR gA hg;rintro F g' ⟨f0,f1,f10,f11,f66,i,hi,f67,rfl⟩;have fB:(G3.setIfInBounds bA (YT (Rm A X i)))[bA]? = al (YT (Rm A X i)):=Yc hA3;have lN:(Rm A X i).length=5:=by rw[IF,lA5]
    have wN:=mw PC BD nT nT i;by_cases iC:i<5
    .have xN:(i:Int)<5:=nT;have hnx:Rm A X (i+1)=(Rm A X i).set i ((Rm A X i).getD i 0+X.getD i 0):=rfl;obtain⟨r,hr⟩:=ZN (Rm A X i);rw[<-hr]at fB lN wN hnx ⊢;obtain⟨G,hG⟩:=ZN (G3.setIfInBounds bA (YT r));rw[<-hG]at fB ⊢;have n1:=Bv (l:=X) (i:=i) nT;have g1:=Z6 fB (i:=i) nT;unfold uv at g1;have y1:=wN.getD nT i;have y2:=BD.getD nT i;obtain⟨a,ha⟩:=ZN (r.getD i 0);obtain⟨b,hb⟩:=ZN (X.getD i 0);rw[<-ha]at g1 y1 hnx;rw[<-hb]at n1 y2 hnx;have e1:(a:Int)+(b:Int)=((a+b:Nat):Int):=rfl;have e2:((a+b:Nat):Int)%18446744073709551616=((a+b:Nat):Int):=nT;have c2:QQ G ⟨bA,i,bd⟩ (j U (a+b:Nat))=_:=Yv (f:=uv) fB (i:=i) nT (a+b) rfl;simp -implicitDefEqProofs only[go_sem,f0,f1,f10,f11,f66,f67,xN,aw,bn,n1,g1,e1,e2,c2];refine⟨⟨f0,f1,f10,f11,f66,i+1,iC,rfl,?_⟩,?_⟩
     .rw[hG,set_set,hnx];rfl
     .simp only[vi,Zq,↓reduceIte,f67];omega
    .have ZcP:¬(i:Int)<5:=nT;obtain rfl:i=5:=nT;have c5:((5:Nat):Int)=5:=rfl;rw[c5]at f67 ZcP;obtain⟨wN5,vN5⟩:=yp lA5 hxn PC BD;have hR4:(G3.setIfInBounds bA (YT (Rm A X 5)))[bR]? = al (YT R):=by rw[aa,if_neg nT];exact hR3
     have EU:Zj h.size h (G3.setIfInBounds bA (YT (Rm A X 5))):=uo.Zs nT _;obtain⟨N,hN⟩:=ZN (Rm A X 5);rw[<-hN]at fB lN wN5 vN5 hR4 EU ⊢;generalize G3.setIfInBounds bA (YT N)=G4 at *;have r1:=Oz lN fB;have r2:=Oz hrn hR4;have lNm:(N.map uv).length=5:=by simpa using lN
     have tN:(N.map uv).take 5=N.map uv:=ae nT;have tR:(R.map uv).take 5=R.map uv:=ae nT;simp -implicitDefEqProofs only[go_sem,f0,f1,f10,f11,f66,f67,ZcP,r1,r2];refine (bi T G4 N R lN hrn wN5 hrl).use ?_;rintro _ G5 ⟨rfl,b5⟩;obtain⟨w1,w2,w3⟩:=DI lN hrn wN5 hrl;obtain⟨m1,m2,m3,_⟩:=Nb w2 w1;obtain⟨M,hM⟩:=ZN (X3 (VY N R 5));rw[<-hM]at m1 m2 m3 ⊢;have hA5:=b5.get (Za fB) fB;have hR5:=b5.get (Za hR4) hR4;have hB5:Zj h.size h G5:=EU.trans (b5.mono EU.size);have lM:(M.map uv).length=5:=by simpa using m1
     have hoM:(M.map uv).all YD=true:=by simp[uv,YD]
     have w5:=Yd (h:=G5) (b:=bA) (l:=(N.map uv)) (by unfold YT at hA5;rw[aq]at hA5;exact hA5) 0 (M.map uv);rw[if_pos ⟨by simp[lM,lNm],hoM⟩,Z4 (by simp[lM,lNm])]at w5;have Vk:((D rest):Int)<=d:=nT;obtain⟨mn,hmn⟩:=ZN (min 16 (D rest));have xX:(if ((D rest):Int)<16 then ((D rest):Int) else 16)=((mn:Nat):Int):=by split<;>omega
     have ZtE:(mn:Int)<=(D rest):=nT;have ZlM:rest.drop mn=data.drop (16*(k+1)):=by
      rw[XE];by_cases hc:(D rest)<=16
      .rw[ba nT,ba nT]
      .rw[hmn,Nat.min_eq_left nT]
     have s2:=O0 s1 rfl (k:=mn) nT yw (d-mn);rw[ZlM]at s2;have ZlN:Y3 M%Rl=yi (XX (Qr key)) data (k+1):=by
      rw[m3,w3,vN5,hxv,hrv,yi,<-Up,Nat.mul_mod,<-Nat.mod_add_mod,<-Nat.mul_mod]
     simp -implicitDefEqProofs only[go_sem,f0,f1,f10,f11,w5,lM,xX,ZtE,aw,WO];refine⟨⟨f0,f10,f11,hB5.Zs nT _,?_,k+1,M,nT,s2,?_,?_,m1,m2,ZlN⟩,?_⟩
     .rw[aa,if_neg nT];exact hR5
     .show (D rest)-mn<=d-mn;omega
     .have:=Yc (o:=O (M.map uv).toArray 192) hA5;unfold YT;rw[aq];exact this
     .show (D rest)-mn<(D rest);omega
   .have ZlO:¬(0:Int)<((data.drop (16*k)).length:Int):=nT;have hk2:k=((D data)+15)/16:=nT;rw[hk2]at Up;obtain⟨rest,Fg⟩:=ZN (data.drop (16*k));rw[<-Fg]at f1 ZlO;have r1:=Oz lA5 gA;have tA:(A.map uv).take 5=A.map uv:=ae (by simp[lA5]);simp -implicitDefEqProofs only[go_sem,f0,f1,f10,f11,ZlO,r1];refine (bj T g A lA5 (PC.mono Iw)).use ?_;rintro _ g6 ⟨rfl,b6⟩;obtain⟨m1,m2,m3,m4⟩:=Nb lA5 (PC.mono Iw);obtain⟨q1,q2,q3⟩:=qg m1 m2 m4;rw[m3,Up]at q3;obtain⟨M,hM⟩:=ZN (Oy (X3 A));rw[<-hM]at q1 q2 q3 ⊢;have hA6:=b6.get (Za gA) gA;have hB6:Zj h.size h g6:=hg.trans (b6.mono hg.size);have lM:(M.map uv).length=5:=by simpa using q1
    have lAm:(A.map uv).length=5:=by simpa using lA5
    have hoM:(M.map uv).all YD=true:=by simp[uv,YD]
    have w5:=Yd (h:=g6) (b:=bA) (l:=(A.map uv)) (by unfold YT at hA6;rw[aq]at hA6;exact hA6) 0 (M.map uv);rw[if_pos ⟨by simp[lM,lAm],hoM⟩,Z4 (by simp[lM,lAm])]at w5;have hB7:Zj h.size h (g6.setIfInBounds bA (O (M.map uv).toArray 192)):=hB6.Zs nT _;have hA7:(g6.setIfInBounds bA (O (M.map uv).toArray 192))[bA]? = al (YT M):=by
     have:=Yc (o:=O (M.map uv).toArray 192) hA6;unfold YT;rw[aq];exact this
    obtain⟨g7,hg7⟩:=ZN (g6.setIfInBounds bA (O (M.map uv).toArray 192));rw[<-hg7]at w5 hB7 hA7;clear hg7;have sm:Bs g7 (ab (iz p 1 c 16) 16 (c-16)) ((key.drop 16).take 16):=ZgY (sk.Yz hB7) rfl nT ck _;have Zg5:((key.drop 16).take 16).length=16:=by rw[List.length_take,cd];omega
    have u2:(32:Int)<=c:=nT;have wkl:Dg ((key.drop 16).take 16):=fun x hx=>wk x (bP (bb hx));simp -implicitDefEqProofs only[go_sem,f0,f1,f10,f11,w5,lM,u2,WO];refine (Kw T _ _ _ 0 sm Zg5 nT).use ?_;rintro _ g8 ⟨rfl,b8⟩;have hSv:=Fe (t:=0) (Nf wkl Zg5);rw[b9,ca]at hSv;have hSl:=BA (t:=0) (Nf wkl Zg5) nT;have hSn:=OC (XX ((key.drop 16).take 16)) 0;obtain⟨S,hS⟩:=ZN (Bp (XX ((key.drop 16).take 16)) 0);rw[<-hS]at hSv hSl hSn ⊢;clear hS;have hA8:=b8.get (Za hA7) hA7;have hB8:Zj h.size h g8:=hB7.trans (b8.mono hB7.size);have lS:(S.map uv).length=5:=by simpa using hSn
    have hoS:(S.map uv).all YD=true:=by simp[uv,YD]
    have lpS:Y8 [Value.int U 0,j U 0,j U 0,j U 0,j U 0] 0 (S.map uv)=S.map uv:=Z4 lS;simp -implicitDefEqProofs only[go_sem,f0,f1,f10,f11,lS,hoS,lpS,Zg0];have T0:ZcV key data=Y3 M+Y3 S:=by rw[q3,hSv];rfl
    have hB9:Zj (g8.size+1) (g8.push (O (S.map uv).toArray 192)) ((g8.push (O (S.map uv).toArray 192)).push (O ((Q 16 0).map bv).toArray 5)):=Zj.push uK _;have hS9:(g8.push (O (S.map uv).toArray 192))[g8.size]? = al (YT S):=by rw[Zc];unfold YT;rw[aq]
    have hA9:(g8.push (O (S.map uv).toArray 192))[bA]? = al (YT M):=by rw[ZI (Za hA8)];exact hA8
    have hH9:Zj h.size h (g8.push (O (S.map uv).toArray 192)):=hB8.YU hB8.size _;have o9:Yx (g8.size+1) 5 ((g8.push (O (S.map uv).toArray 192)).push (O ((Q 16 0).map bv).toArray 5)) (ab (al ⟨g8.size+1,0,bd⟩) 0 16) []:=by
     refine⟨.inr ⟨g8.size+1,16,(Q 16 0).map bv,bx _,rfl,?_,rfl,uK,Nat.zero_le _⟩,fun x hx=>by cases hx⟩;have:=Zc (h:=g8.push (O (S.map uv).toArray 192)) (o:=O ((Q 16 0).map bv).toArray 5);rw[bp]at this;exact this
    have ZtK:=Za hA8;have ZlQ:=hB8.size;have hz9:(g8.push (O (S.map uv).toArray 192)).size=g8.size+1:=uK;obtain⟨bS,hbS⟩:∃b,b=g8.size:=⟨_,rfl⟩
    rw[<-hbS]at hB9 hS9 o9 ZtK ZlQ hz9 ⊢;obtain⟨J,hJ⟩:=ZN (g8.push (O (S.map uv).toArray 192));rw[<-hJ]at hB9 hS9 hA9 hH9 o9 hz9 ⊢;clear hJ;refine VS.Yk (fun F g=>F 11=am (al ⟨bA,0,bd⟩)/\F 16=am (al ⟨bS,0,bd⟩)/\Zj (bS+1) J g/\∃(i n sum bits:Nat) (out:List Nat),i<=5/\F 87=j W i/\F 18=j U sum/\F 19=j U bits/\F 20=j W n/\Yx (bS+1) 5 g (F 17) out/\(D out)=n/\bits<8/\26*i=8*n+bits/\sum<8*2 ^ bits/\ZcV key data=XX out+256 ^ n*(sum+2 ^ bits*Lw (M.drop i) (S.drop i)))
     (fun F _=>5-(vi (F 87)).toNat) rfl ⟨f11,rfl,hB9,0,0,0,0,[],nT,rfl,rfl,rfl,rfl,o9,rfl,nT,nT,nT,by rw[T0,cf,cf,bB _ _ nT];simp[XX]⟩ ?_
    clear f0 f1 f10 f11 F hB9 o9;rintro F g' ⟨f11,f16,Eu,i,n,sum,bits,out,hi,f87,f18,f19,f20,ho,hol,hb8,hbn,qA,hT⟩;have gA':=Eu.get (k:=bA) nT hA9;have gS':=Eu.get (k:=bS) nT hS9;have ZlS:=Eu.size;by_cases ZS:i<5
    .have Z7:(i:Int)<5:=nT;rw[ja nT nT]at hT;have g1:=Z6 gA' (i:=i) nT;have g2:=Z6 gS' (i:=i) nT;unfold uv at g1 g2;have y1:=q2.getD nT i;have y2:=hSl.getD nT i;obtain⟨a,ha⟩:=ZN (M.getD i 0);obtain⟨b,hb⟩:=ZN (S.getD i 0);rw[<-ha]at g1 y1 hT;rw[<-hb]at g2 y2 hT;have hT2:=Zc0 hT;have bC:=qw (c:=a+b) qA nT;have p8:=qv hb8;have CA:(a+b)*2 ^ bits<=268435455*128:=Nat.mul_le_mul nT p8;have ZtM:sum<1024:=nT;have e1:(a:Int)+(b:Int)=((a+b:Nat):Int):=rfl;have e2:((a+b:Nat):Int)%18446744073709551616=((a+b:Nat):Int):=nT;have e3:Xo U ((a+b:Nat):Int) (bits:Int)=(((a+b)*2 ^ bits:Nat):Int):=by
      rw[HT _ _ nT,Nat.mod_eq_of_lt nT]
     obtain⟨cc,hcc⟩:=ZN ((a+b)*2 ^ bits);rw[<-hcc]at e3 CA hT2 bC;have e4:(sum:Int)+(cc:Int)=((sum+cc:Nat):Int):=rfl;have e5:((sum+cc:Nat):Int)%18446744073709551616=((sum+cc:Nat):Int):=nT;have e6:(bits:Int)+26=((bits+26:Nat):Int):=rfl;have e7:((bits+26:Nat):Int)%18446744073709551616=((bits+26:Nat):Int):=nT;have e8:¬(bits:Int)<0:=nT;simp -implicitDefEqProofs only[go_sem,f11,f16,f18,f19,f20,f87,Z7];refine VS.q mixed uj ?_;simp -implicitDefEqProofs only[go_sem,f11,f16,f18,f19,f20,f87,Z7,aw,bn,g1,g2,e1,e2,e3,e4,e5,e6,e7,e8];refine VS.Yk (fun F g=>F 11=am (al ⟨bA,0,bd⟩)/\F 16=am (al ⟨bS,0,bd⟩)/\F 87=j W i/\Zj (bS+1) J g/\∃(n sum bits:Nat) (out:List Nat),F 18=j U sum/\F 19=j U bits/\F 20=j W n/\Yx (bS+1) 5 g (F 17) out/\(D out)=n/\bits<34/\26*(i+1)=8*n+bits/\sum<8*2 ^ bits/\ZcV key data=XX out+256 ^ n*(sum+2 ^ bits*Lw (M.drop (i+1)) (S.drop (i+1))))
      (fun F _=>(vi (F 19)).toNat) rfl ⟨f11,f16,f87,Eu,n,sum+cc,bits+26,out,rfl,rfl,f20,ho,hol,nT,nT,bC,hT2⟩ ?_
     clear f11 f16 f18 f19 f20 f87 ho hol hT hT2 qA bC hbn hb8 Eu gA' gS' ZlS g1 g2 e3 e4 e5 e6 e7 e8 p8 CA hcc ZtM F cc;clear n sum bits out g';rintro F g' ⟨f11,f16,f87,Eu,n,sum,bits,out,f18,f19,f20,ho,hol,hb8,hbn,qA,hT⟩;have ZlS:=Eu.size;by_cases hb:8<=bits
     .have Gy:(8:Int)<=bits:=nT;have hn1:(n:Int)<16:=nT;have bC:=qx qA hb;have hT2:=yv hb hT;have hp:2 ^ bits<=2 ^ 34:=bG Iw nT;have P9:sum<18446744073709551616:=Nat.lt_of_lt_of_le qA (Nat.le_trans (Nat.mul_le_mul_left 8 hp) Iw);have em:((sum:Nat):Int)%256=((sum%256:Nat):Int):=rfl;have es:XA U (sum:Int) 8=((sum/256:Nat):Int):=Na sum 8 Iw;have eb:(bits:Int)-8=((bits-8:Nat):Int):=nT;have eb2:((bits-8:Nat):Int)%18446744073709551616=((bits-8:Nat):Int):=nT;simp -implicitDefEqProofs only[go_sem,f11,f16,f18,f19,f20,f87,Gy,hn1,em];have hX:sum%256<256:=nT;refine ZJ (E:=5) (B:=bS+1) Xd b7 Tv Si Sh (ho.push _) Ig (Bs.one hX 1) Ig ?_;intro v' h' Me J9 _;simp -implicitDefEqProofs only[go_sem,f11,f16,f18,f19,f20,f87,es,eb,eb2];refine⟨⟨f11,f16,f87,(Eu.YU nT _).trans J9,n+1,sum/256,bits-8,out++[sum%256],rfl,rfl,rfl,Me,by simp[hol],nT,nT,bC,?_⟩,?_⟩
      .rw[hT2,jc,hol]
      .simp only[vi,Zq,↓reduceIte,Nat.reduceEqDiff,f19];omega
     .have Gy:¬(8:Int)<=bits:=nT;have e9:(i:Int)+1=((i+1:Nat):Int):=rfl;simp -implicitDefEqProofs only[go_sem,f11,f16,f18,f19,f20,f87,Gy,e9];refine⟨⟨f11,f16,Eu,i+1,n,sum,bits,out,ZS,rfl,f18,f19,f20,ho,hol,nT,hbn,qA,hT⟩,?_⟩;simp only[vi,Zq,↓reduceIte,f87];omega
    .have Xv:¬(i:Int)<5:=nT;obtain rfl:i=5:=nT;have c5:((5:Nat):Int)=5:=rfl;rw[c5]at f87 Xv;obtain rfl:n=16:=nT;have e0:Lw (M.drop 5) (S.drop 5)=0:=by rw[ba nT,ba nT];rfl
     rw[e0,b9,ca]at hT;have iY:=qr ho.byte hol hT;have htl:iU key data=out:=iY.symm;simp -implicitDefEqProofs only[go_sem,f11,f16,f18,f19,f20,f87,Xv];rw[htl];exact⟨ho.mono nT,hH9.trans (Eu.mono nT)⟩
theorem bD(T:World)(h:Hp)(v u:Value)(key data:List Nat)(sk:Bs h v key)(sd:Bs h u data)(ck:PM v)(cu:PM u):
  Zd Tryz.prog T 63 #[v,u] h fun v' h'=>yj h.size h' v' key data/\Zj h.size h h':=by
 obtain⟨p,c,rfl,hkc⟩:=sk.open;obtain⟨q,d,rfl,hdc⟩:=sd.open;refine Zd.XT [_,_] Tryz.func63 ?_;unfold yj;by_cases hk:(D key)=32
 .by_cases hd:4000<(D data)
  .have hd':4000<((D data):Int):=nT;have NE:((D key):Int)=32:=nT;have e:SL key data=1:=by unfold SL;rw[if_pos (.inr hd)]
   rw[e];simp -implicitDefEqProofs only[go_sem,hd',NE];exact⟨_,rfl,Yx.nil _ _ _⟩
  .have hd':¬4000<((D data):Int):=nT;have NE:((D key):Int)=32:=nT;have e:SL key data=0:=by unfold SL;rw[if_neg nT]
   rw[e,if_pos rfl];simp -implicitDefEqProofs only[go_sem,hd',NE];refine (jd T _ _ _ key data sk sd hk nT ck cu).use ?_;rintro v1 h1 ⟨o1,b1⟩;simp -implicitDefEqProofs only[go_sem];exact⟨⟨_,rfl,o1⟩,b1⟩
 .have NE:¬((D key):Int)=32:=nT;have e:SL key data=1:=by unfold SL;rw[if_pos (.inl hk)]
  rw[e];simp -implicitDefEqProofs only[go_sem,NE];exact⟨_,rfl,Yx.nil _ _ _⟩
end Go.Proofs.YtdapjaalaomghaaGreatDoor
