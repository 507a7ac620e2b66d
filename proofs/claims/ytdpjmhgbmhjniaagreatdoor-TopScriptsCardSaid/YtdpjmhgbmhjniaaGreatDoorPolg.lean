/- Part Polg. -/
import Derived.Test.YtdpjmhgbmhjniaaGreatDoorPik
import Derived.Test.YtdpjmhgbmhjniaaGreatDoorW14
open Go.Value renaming int→j,slice→al,pointer→av
open Go.IntKind renaming u64→U,i64→W,u8→Y
open Go.Obj renaming cells→O
open Go.Proofs.Tryz renaming underlying39→bP
open List renaming length→D,replicate→Q,getD_eq_getElem?_getD→Z,take_of_length_le→am,getElem?_append_right→aw,append_nil→ay,getElem?_eq_getElem→aI,drop_of_length_le→ba,mem_of_mem_take→bb,append_assoc→bf,drop_eq_getElem_cons→bg,getElem?_replicate→bn,length_set→bp,getElem?_eq_none→bx,mem_of_mem_drop→bH,replicate_succ→bJ,length_drop→b0,drop_zero→b2
open Nat renaming mul_assoc→be,pow_add→bh,zero_add→bo,mul_add→bz,le_refl→bD,pow_le_pow_right→bG,add_assoc→bK,add_sub_cancel→bL,mul_zero→bT,add_zero→bV
open Int renaming toNat_natCast→az
open Option renaming some→ao,none→bd
open Array renaming getElem?_setIfInBounds→aa,size_setIfInBounds→bk,size_push→br
namespace Go.Proofs.YtdpjmhgbmhjniaaGreatDoor
open Go Go.V
set_option linter.all false
set_option maxRecDepth 100000
variable{l:List Nat}
def bZ(l:List Nat):Nat->List Nat
 | 0=>l
 | i+1=>(bZ l i).set (4*i+3) ((bZ l i).getD (4*i+3) 0%16)
def fN(l:List Nat):Nat->List Nat
 | 0=>l
 | i+1=>(fN l i).set (4*i+4) ((fN l i).getD (4*i+4) 0/4*4)
theorem IH(l:List Nat):∀i,(bZ l i).length=(D l)
 | 0=>rfl
 | i+1=>by rw[bZ,bp,IH l i]
theorem II(l:List Nat):∀i,(fN l i).length=(D l)
 | 0=>rfl
 | i+1=>by rw[fN,bp,II l i]
theorem ce(w:Dg l):∀i,Dg (bZ l i)
 | 0=>w
 | i+1=>(ce w i).set _ (by have:=(ce w i).getD (4*i+3);omega)
theorem cj(w:Dg l):∀i,Dg (fN l i)
 | 0=>w
 | i+1=>(cj w i).set _ (by have:=(cj w i).getD (4*i+4);omega)
theorem xW(hl:(D l)=16):fN (bZ l 4) 3=Jv l:=by
 match l,hl with
 | [a0,a1,a2,a3,a4,a5,a6,a7,a8,a9,a10,a11,a12,a13,a14,a15],_=>rfl
theorem CL(key:List Nat):Jv key=Jv (key.take 16):=by
 unfold Jv;apply List.map_congr_left;intro i hi;have Av:i<16:=by simpa using hi
 have e:(key.take 16).getD i 0=key.getD i 0:=by
  rw[Z,List.getElem?_take,if_pos Av,Z]
 unfold qs;rw[e]
theorem jE{key:List Nat}(hk:(D key)=32):fN (bZ (key.take 16) 4) 3=Jv key:=by
 rw[CL];exact xW aac
theorem RP(w:Dg l)(hl:(D l)=16):Xl l<340282366920938463463374607431768211456:=by
 have:=WC w (n:=16) gX;exact this
theorem S6(n t:Nat):(Ez n t).length=5:=rfl
theorem EI{n t:Nat}(hn:n<340282366920938463463374607431768211456)(ht:t<=1):YC 67108864 (Ez n t):=
 YC.LV gX gX gX gX gX
theorem IJ{n t:Nat}(hn:n<340282366920938463463374607431768211456):YG (Ez n t)=n+340282366920938463463374607431768211456*t:=by
 simp only[Ez,YG];omega
def To(a x:List Nat):Nat->List Nat
 | 0=>a
 | i+1=>(To a x i).set i ((To a x i).getD i 0+x.getD i 0)
theorem Lg(a x:List Nat):∀i,(To a x i).length=(D a)
 | 0=>rfl
 | i+1=>by rw[To,bp,Lg a x i]
theorem fO{a x:List Nat}{K L:Nat}(wa:YC K a)(wx:YC L x)(hK:0<K)(hL:0<L):∀i,YC (K+i*L) (To a x i)
 | 0=>by rw[Nat.zero_mul];exact wa
 | i+1=>by
  have h:=fO wa wx hK hL i;have q1:=h.getD gX i;have q2:=wx.getD hL i;rw[To,Nat.add_mul,Nat.one_mul];exact (h.mono gX).set _ _ gX
theorem qx{a x:List Nat}(ha:(D a)=5)(hx:(D x)=5)(wa:YC 134217728 a)(wx:YC 67108864 x):YC 268435456 (To a x 5)/\YG (To a x 5)=YG a+YG x:=by
 obtain⟨a0,a1,a2,a3,a4,rfl⟩:=LV ha;obtain⟨x0,x1,x2,x3,x4,rfl⟩:=LV hx;obtain⟨w0,w1,w2,w3,w4⟩:=wa.xM;obtain⟨u0,u1,u2,u3,u4⟩:=wx.xM;have e:To [a0,a1,a2,a3,a4] [x0,x1,x2,x3,x4] 5=[a0+x0,a1+x1,a2+x2,a3+x3,a4+x4]:=rfl;rw[e];exact⟨YC.LV gX gX gX gX gX,by simp only[YG];omega⟩
theorem IK(a b:List Nat):Xl (a++b)=Xl a+256 ^ (D a)*Xl b:=by
 induction a with
 | nil=>simp[Xl]
 | cons x a ih=>simp only[List.cons_append,Xl,ih,List.length_cons,Nat.pow_succ,bz,bK];congr 2;rw[<-be,Nat.mul_comm 256]
theorem cC(n:Nat):Xl (Q n 0)=0:=by
 induction n with
 | zero=>rfl
 | succ n ih=>rw[bJ,Xl,ih]
def Xx(l:List Nat):List Nat:=l++[1]++Q (16-(D l)) 0
theorem EJ(hl:(D l)<=16):(Xx l).length=17:=by simp[Xx];omega
theorem jF(hl:(D l)<=16):Xl ((Xx l).take 16)+340282366920938463463374607431768211456*(Xx l).getD 16 0=Xl (l++[1]):=by
 by_cases h:(D l)=16
 .have e1:(Xx l).take 16=l:=by unfold Xx;rw[bf,List.take_left' h]
  have e2:(Xx l).getD 16 0=1:=by
   unfold Xx;rw[Z,bf,aw gX,h];rfl
  rw[e1,e2,IK,h];rfl
 .have e2:(Xx l).getD 16 0=0:=by
   unfold Xx;rw[Z,aw L6,bn];split<;>rfl
  have e1:(Xx l).take 16=(l++[1])++Q (15-(D l)) 0:=by
   unfold Xx;rw[List.take_append,am L6,List.take_replicate]
   congr 2
   simp;omega
  rw[e1,e2,IK,cC];omega
theorem jG(hl:(D l)<=16):(Xx l).getD 16 0<=1:=by
 by_cases h:(D l)=16
 .have e2:(Xx l).getD 16 0=1:=by
   unfold Xx;rw[Z,bf,aw gX,h];rfl
  omega
 .have e2:(Xx l).getD 16 0=0:=by
   unfold Xx;rw[Z,aw L6,bn];split<;>rfl
  omega
theorem qA(w:Dg l):Dg (Xx l):=by
 intro x hx;unfold Xx at hx;simp only[List.mem_append,List.mem_singleton,List.mem_replicate]at hx;rcases hx with (h|h)|h
 .exact w x h
 .omega
 .omega
theorem jH(hl:(D l)<=16):(l++Q (17-(D l)) 0).set (D l) 1=Xx l:=by
 have e:Q (17-(D l)) 0=0 :: Q (16-(D l)) 0:=by rw[<-bJ];congr 1;omega
 rw[e,List.set_append_right _ _ (bD _),Nat.sub_self,List.set_cons_zero];unfold Xx;rw[bf];rfl
def Nk:List Nat->List Nat->Nat
 | x :: l,y :: k=>(x+y)+67108864*Nk l k
 | _,_=>0
theorem CM:∀(l k:List Nat),(D l)=(D k)->Nk l k=YG l+YG k
 | [],[],_=>rfl
 | x :: l,y :: k,h=>by simp only[Nk,YG];rw[CM l k (by simpa using h)];omega
theorem jI{out:List Nat}{t R:Nat}(w:Dg out)(hl:(D out)=16)(h:t=Xl out+256 ^ 16*R):out=(List.range 16).map fun i=>t/256 ^ i%256:=by
 apply List.ext_getElem?;intro i;by_cases hi:i<16
 .rw[List.getElem?_map,List.getElem?_range hi];have e:=bN w i;rw[Z,aI gX]at e;rw[aI gX];simp only[Option.map_some,Option.some.injEq];simp only[Option.getD_some]at e;rw[e,h];have e2:256 ^ 16*R=256 ^ i*(256*(256 ^ (15-i)*R)):=by
   rw[<-be 256,<-be,<-Nat.pow_succ',<-bh]
   congr 2;omega
  rw[e2,Nat.add_mul_div_left _ _ (Nat.pow_pos gX),Nat.add_mul_mod_self_left]
 .rw[bx gX,bx L6]
theorem qB{T v n s B R:Nat}(hB:256<=B)(hd:B%256=0)(h:T=v+n*(s+B*R)):T=v+n*(s%256)+n*256*(s/256+B/256*R):=by
 have e:s+B*R=s%256+256*(s/256+B/256*R):=by
  have e1:B=256*(B/256):=gX;have e2:B*R=256*(B/256*R):=by rw[<-be,<-e1]
  have e3:=Nat.mod_add_div s 256;rw[bz,e2];omega
 rw[h,e,bz,<-be,<-bK]
theorem jJ{i:Nat}(hi:i<4):nth [Value.int W 3,j W 7,j W 11,j W 15] i=ao (j W ((4*i+3:Nat):Int)):=by
 match i,hi with
 | 0,_=>rfl
 | 1,_=>rfl
 | 2,_=>rfl
 | 3,_=>rfl
theorem jK{i:Nat}(hi:i<3):nth [Value.int W 4,j W 8,j W 12] i=ao (j W ((4*i+4:Nat):Int)):=by
 match i,hi with
 | 0,_=>rfl
 | 1,_=>rfl
 | 2,_=>rfl
theorem Zhr(x:Nat)(hx:x<256):Ym .and Y (x:Int) 15=((x%16:Nat):Int):=by
 have h:=oN x 15 hx MZ;have e:x &&& 15=x%16:=Nat.and_two_pow_sub_one_eq_mod x 4;rw[e]at h;exact h
theorem Zc4(x:Nat)(hx:x<256):Ym .and Y (x:Int) 252=((x/4*4:Nat):Int):=by
 have h:=oN x 252 hx MZ;have e:x &&& 252=x/4*4:=by
  have:∀y:Fin 256,y.val &&& 252=y.val/4*4:=MZ;exact this ⟨x,hx⟩
 rw[e]at h;exact h
def ZpB:Value->Nat
 | al _ l _=>l
 | _=>0
theorem jL(n:Nat)(vs:List Nat)(h:(D vs)<=n):YJ ((Q n 0).map bv) 0 (vs.map bv)=(vs++Q (n-(D vs)) 0).map bv:=by
 rw[Qe _ _ (by simpa using h),List.length_map,<-List.map_drop,List.drop_replicate,List.map_append]
theorem cD{M S:List Nat}{i:Nat}(hM:i<(D M))(hS:i<(D S)):Nk (M.drop i) (S.drop i)=(M.getD i 0+S.getD i 0)+67108864*Nk (M.drop (i+1)) (S.drop (i+1)):=by
 rw[bg hM,bg hS,Nk,Z,Z,aI hM,aI hS];rfl
theorem xX{T v n s b c R:Nat}(h:T=v+n*(s+2 ^ b*(c+67108864*R))):T=v+n*(s+c*2 ^ b+2 ^ (b+26)*R):=by
 rw[h,bz (2 ^ b),Nat.mul_comm (2 ^ b) c,bh,<-be (2 ^ b),bK]
theorem jM{b:Nat}(h:b<8):2 ^ b<=128:=by
 have:=bG (show 0<2 by decide) (show b<=7 by omega);exact this
theorem jN{s c b:Nat}(hs:s<8*2 ^ b)(hc:c<268435456):s+c*2 ^ b<8*2 ^ (b+26):=by
 have h1:c*2 ^ b<=268435455*2 ^ b:=Nat.mul_le_mul_right _ gX;rw[bh];have:2 ^ 26=67108864:=rfl;rw[this];omega
theorem jO{s b:Nat}(hs:s<8*2 ^ b)(hb:8<=b):s/256<8*2 ^ (b-8):=by
 have:2 ^ b=2 ^ (b-8)*256:=by
  have e:b=b-8+8:=gX;rw[e,bh,bL]
 rw[this]at hs;omega
theorem qC{T v n s b R:Nat}(hb:8<=b)(h:T=v+256 ^ n*(s+2 ^ b*R)):T=v+256 ^ n*(s%256)+256 ^ (n+1)*(s/256+2 ^ (b-8)*R):=by
 have e:2 ^ b=2 ^ (b-8)*256:=by
  have e:b=b-8+8:=gX;rw[e,bh,bL]
 have hp:0<2 ^ (b-8):=Nat.pow_pos gX;have:=qB (B:=2 ^ b) (by rw[e];omega) (by rw[e];omega) h;rw[show 2 ^ b/256=2 ^ (b-8) by rw[e,Nat.mul_div_cancel _ gX]]at this;rw[Nat.pow_succ];exact this
theorem cE(l:List Nat)(x:Nat):Xl (l++[x])=Xl l+256 ^ (D l)*x:=by rw[IK];rfl
theorem Zc5:(Jl 16 [Value.int Y 0])=(Q 16 0).map bv:=rfl
set_option maxHeartbeats 2000000 in
theorem cF(T:World)(h:Hp)(v u:Value)(key data:List Nat)(sk:Bs h v key)(sd:Bs h u data)(hk:(D key)=32)(hd:(D data)<=4000)(ck:Sn v)(cu:Sn u):
  Zc Tryz.prog T 137 #[v,u] h fun v' h'=>Yd h.size 5 h' v' (bW key data)/\Zf h.size h h':=by
 have wk:=sk.byte;have wd:=sd.byte;obtain⟨p,c,rfl,hkc⟩:=sk.UM;have ck:(D key)<=c:=ck;have l16:(key.take 16).length=16:=aac;have s16:=RN sk (m:=16) gX c;have c16:(16:Int)<=c:=gX;refine Zc.Y8 [_,_] Tryz.func137 ?_;simp -implicitDefEqProofs only[go_sem,c16];refine ZF (E:=5) (B:=h.size) YN bP WS VC VB (Yd.nil _ _ _) (bD _) (by rw[hk]at sk;simpa using s16) (by rw[l16];decide) ?_;intro v1 h1 o1 b1 _;rw[List.nil_append]at o1;have o1n:=o1.Zy;rcases o1n with⟨_,hm,_⟩|⟨bc,cap,Zx,hbc,rfl,OP,Jm,TM,QQ⟩
 .omega
 obtain⟨L,hL⟩:=ZD (key.take 16);have wL:Dg L:=by rw[hL];exact fun x hx=>wk x (bb hx)
 have Zhs:fN (bZ L 4) 3=Jv key:=by rw[hL];exact jE hk
 rw[<-hL]at l16 OP Jm TM QQ ⊢;clear o1 s16 hL;have ZBS:=Za OP;simp -implicitDefEqProofs only[go_sem];refine VS.Z9 (fun F g=>F 0=al p (D key) c/\F 1=u/\F 5=al (ao ⟨bc,0,bd⟩) (D L) cap/\F 25=.agg #[j W 3,j W 7,j W 11,j W 15]/\∃i:Nat,i<=4/\F 26=j W i/\g=h1.setIfInBounds bc (O ((bZ L i).map bv++Zx).toArray 5))
  (fun F _=>4-(vi (F 26)).toNat) rfl ⟨rfl,rfl,rfl,rfl,0,gX,rfl,(UR OP).symm⟩ ?_
 rintro F g ⟨f0,f1,f5,f25,i,hi,f26,rfl⟩;have hx:=Z1 (o:=O ((bZ L i).map bv++Zx).toArray 5) OP;have wA:=ce wL i;have lA:=IH L i;by_cases ZL:i<4
 .have ZW:(i:Int)<4:=gX;have Y5:bZ L (i+1)=(bZ L i).set (4*i+3) ((bZ L i).getD (4*i+3) 0%16):=rfl;obtain⟨r,hr⟩:=ZD (bZ L i);rw[<-hr]at hx wA lA Y5 ⊢;obtain⟨G,hG⟩:=ZD (h1.setIfInBounds bc (O (r.map bv++Zx).toArray 5));rw[<-hG]at hx ⊢;have n1:=jJ ZL;have g1:=ZX hx (i:=4*i+3) gX;have x1:=wA.getD (4*i+3);unfold bv at g1;obtain⟨x,uT⟩:=ZD (r.getD (4*i+3) 0);rw[<-uT]at g1 x1 Y5;have e1:=Zhr x x1;have hi1:((4*i+3:Nat):Int)<(D L):=gX;have c1:Jb G ⟨bc,4*i+3,bd⟩ (j Y (x%16:Nat))=_:=Yk (f:=bv) hx (i:=4*i+3) gX (x%16) rfl;simp -implicitDefEqProofs only[go_sem,f0,f1,f5,f25,f26,ZW,az,bo,n1,hi1,g1,e1,c1];refine⟨⟨f0,f1,f5,f25,i+1,ZL,rfl,?_⟩,?_⟩
  .rw[hG,set_set,Y5]
  .simp only[vi,Zk,↓reduceIte,f26];omega
 .have YU:¬(i:Int)<4:=gX;obtain rfl:i=4:=gX;have c4:((4:Nat):Int)=4:=rfl;rw[c4]at f26 YU;obtain⟨L2,hL2⟩:=ZD (bZ L 4);rw[<-hL2]at hx wA lA Zhs ⊢;have B2:Zf h.size h (h1.setIfInBounds bc (O (L2.map bv++Zx).toArray 5)):=b1.Zj hbc _;generalize h1.setIfInBounds bc (O (L2.map bv++Zx).toArray 5)=h2 at *;clear hL2;simp -implicitDefEqProofs only[go_sem,f0,f1,f5,f25,f26,YU];refine VS.Z9 (fun F g=>F 0=al p (D key) c/\F 1=u/\F 5=al (ao ⟨bc,0,bd⟩) (D L) cap/\F 36=.agg #[j W 4,j W 8,j W 12]/\∃i:Nat,i<=3/\F 37=j W i/\g=h2.setIfInBounds bc (O ((fN L2 i).map bv++Zx).toArray 5))
   (fun F _=>3-(vi (F 37)).toNat) rfl ⟨f0,f1,f5,rfl,0,gX,rfl,(UR hx).symm⟩ ?_
  clear f0 f1 f5 f25 f26 YU F;rintro F g ⟨f0,f1,f5,f36,i,hi,f37,rfl⟩;have bU:=Z1 (o:=O ((fN L2 i).map bv++Zx).toArray 5) hx;have wB:=cj wA i;have lB:=II L2 i;by_cases ZL:i<3
  .have ZW:(i:Int)<3:=gX;have Y5:fN L2 (i+1)=(fN L2 i).set (4*i+4) ((fN L2 i).getD (4*i+4) 0/4*4):=rfl;obtain⟨r,hr⟩:=ZD (fN L2 i);rw[<-hr]at bU wB lB Y5 ⊢;obtain⟨G,hG⟩:=ZD (h2.setIfInBounds bc (O (r.map bv++Zx).toArray 5));rw[<-hG]at bU ⊢;have n1:=jK ZL;have g1:=ZX bU (i:=4*i+4) gX;have x1:=wB.getD (4*i+4);unfold bv at g1;obtain⟨x,uT⟩:=ZD (r.getD (4*i+4) 0);rw[<-uT]at g1 x1 Y5;have e1:=Zc4 x x1;have hi1:((4*i+4:Nat):Int)<(D L):=gX;have c1:Jb G ⟨bc,4*i+4,bd⟩ (j Y (x/4*4:Nat))=_:=Yk (f:=bv) bU (i:=4*i+4) gX (x/4*4) rfl;simp -implicitDefEqProofs only[go_sem,f0,f1,f5,f36,f37,ZW,az,bo,n1,hi1,g1,e1,c1];refine⟨⟨f0,f1,f5,f36,i+1,ZL,rfl,?_⟩,?_⟩
   .rw[hG,set_set,Y5]
   .simp only[vi,Zk,↓reduceIte,f37];omega
  .have YU:¬(i:Int)<3:=gX;obtain rfl:i=3:=gX;have c3:((3:Nat):Int)=3:=rfl;rw[c3]at f37 YU;rw[Zhs]at bU wB lB ⊢;have B3:Zf h.size h (h2.setIfInBounds bc (O ((Jv key).map bv++Zx).toArray 5)):=B2.Zj hbc _;generalize h2.setIfInBounds bc (O ((Jv key).map bv++Zx).toArray 5)=h3 at *;have xY:=Gi key;have oc:Yd h.size 5 h3 (al (ao ⟨bc,0,bd⟩) (D L) cap) (Jv key):=
    ⟨.inr ⟨bc,cap,Zx,hbc,by rw[l16,xY],bU,Dq,by rw[TM,l16,xY],gX⟩,wB⟩
   simp -implicitDefEqProofs only[go_sem,f0,f1,f5,f36,f37,YU];refine (Mn T _ _ (Jv key) 0 oc.bs xY gX).use ?_;rintro _ h4 ⟨rfl,b4⟩;have B4:Zf h.size h h4:=B3.trans (b4.mono B3.size);have hR:=RP wB xY;have hrv:YG (Ez (Xl (Jv key)) 0)=Xl (Jv key):=by rw[IJ hR,bT,bV]
   have uW:=EI (t:=0) hR gX;have hrn:=S6 (Xl (Jv key)) 0;obtain⟨R,hRR⟩:=ZD (Ez (Xl (Jv key)) 0);rw[<-hRR]at hrv uW hrn ⊢;have lR:(R.map uv).length=5:=by simpa using hrn
   have hoR:(R.map uv).all Yq=true:=by simp[uv,Yq]
   have lp:YJ [Value.int U 0,j U 0,j U 0,j U 0,j U 0] 0 (R.map uv)=R.map uv:=ZZ lR;simp -implicitDefEqProofs only[go_sem,f0,f1,f5,f36,f37,lR,hoR,lp];obtain⟨bR,hbR⟩:∃b,b=h4.size:=⟨_,rfl⟩
   obtain⟨bA,hbA⟩:∃b,b=h4.size+1:=⟨_,rfl⟩
   obtain⟨H,hH⟩:=ZD (((h4.push (O (R.map uv).toArray 276)).push (O #[j U 0,j U 0,j U 0,j U 0,j U 0] 276)):Hp);have HB:Zf h.size h H:=by rw[hH];exact (B4.Yx B4.size _).Yx (by have:=B4.size;simp;omega) _
   have HR:H[bR]? = ao (Yz R):=by
    rw[hH,hbR,Zl Dq,Zb];unfold Yz;rw[ay]
   have HA:H[bA]? = ao (Yz [0,0,0,0,0]):=by
    have:=Zb (h:=(h4.push (O (R.map uv).toArray 276))) (o:=O #[j U 0,j U 0,j U 0,j U 0,j U 0] 276);rw[br]at this;rw[hH,hbA,this];rfl
   have Zhu:h.size<=bR:=by have:=B4.size;omega
   rw[<-hH,<-hbA,<-hbR];have ZBV:bA=bR+1:=gX;clear hH hbA hbR;have sd0:Bs h (F 1) (data.drop (16*0)):=by rw[f1];exact sd
   have cu0:Sn (F 1):=by rw[f1];exact cu
   refine VS.Z9 (fun F g=>F 0=al p (D key) c/\F 10=av (ao ⟨bR,0,bd⟩)/\F 11=av (ao ⟨bA,0,bd⟩)/\Zf h.size h g/\g[bR]? = ao (Yz R)/\∃(k:Nat) (A:List Nat),16*k<(D data)+16/\Bs h (F 1) (data.drop (16*k))/\Sn (F 1)/\g[bA]? = ao (Yz A)/\(D A)=5/\YC 134217728 A/\YG A%Tn=qt (Xl (Jv key)) data k)
    (fun F _=>ZpB (F 1)) rfl ⟨f0,rfl,rfl,HB,HR,0,[0,0,0,0,0],gX,sd0,cu0,HA,rfl,YC.LV gX gX gX gX gX,rfl⟩ ?_
   clear f0 f1 f5 f36 f37 YU sd0 cu0 F HB HR HA H;rintro F g ⟨f0,f10,f11,hg,gR,k,A,ZBW,s1,jP,gA,lA5,Sf,CN⟩;obtain⟨q,d,f1,hqc⟩:=s1.open;rw[f1]at s1 jP;have jP:(data.drop (16*k)).length<=d:=jP;have ZpF:(data.drop (16*k)).length=(D data)-16*k:=b0;by_cases ZL:16*k<(D data)
   .have hgt:(0:Int)<((data.drop (16*k)).length:Int):=gX;obtain⟨rest,IL⟩:=ZD (data.drop (16*k));have H5:Zhi data k=rest.take 16++[1]:=by rw[IL];rfl
    have Y5:data.drop (16*(k+1))=rest.drop 16:=by rw[IL,List.drop_drop];congr 1
    have Zhv:Dg rest:=by rw[IL];exact fun x hx=>wd x (bH hx)
    rw[<-IL]at f1 s1 jP hqc hgt ZpF;clear IL;have z17:(#[Value.int Y 0,j Y 0,j Y 0,j Y 0,j Y 0,j Y 0,j Y 0,j Y 0,j Y 0,j Y 0,j Y 0,j Y 0,j Y 0,j Y 0,j Y 0,j Y 0,j Y 0]:Array Value)=((Q 17 0).map bv).toArray:=rfl;simp -implicitDefEqProofs only[go_sem,f0,f1,f10,f11,hgt,z17];have Xz:=Vz rest;refine KZ (E:=5) (E':=278) (c:=(Q 17 0).map bv) YN WS Zb ((s1.Yb hg).Yb (Zf.push (bD _) _)).sl Xz L6 ?_;obtain⟨n,hn⟩:=ZD (min (D rest) 16);have hB:(rest.map bv).take n=(rest.take n).map bv:=List.map_take.symm;have hBl:(rest.take n).length=n:=aac;have Zhw:rest.take n=rest.take 16:=by
     by_cases hc:(D rest)<=16
     .rw[am gX,am gX]
     .rw[hn,Nat.min_eq_right gX]
    rw[<-hn,hB,jL 17 _ gX,hBl,Zhw];rw[Zhw]at hBl;have Zhx:Dg (rest.take 16):=fun x hx=>Zhv x (bb hx);obtain⟨B,hBB⟩:=ZD (rest.take 16);rw[<-hBB]at hBl H5 Zhx ⊢;have e17:(B++Q (17-n) 0).set n 1=Xx B:=by rw[<-hBl];exact jH gX
    have ZpG:(n:Int)<17:=gX;have Zwk:((B++Q (17-n) 0).map bv).set n (j Y 1)=(Xx B).map bv:=by rw[<-e17,List.map_set];rfl
    have Zhy:(B++Q (17-n) 0).length=17:=L6;have ZpH:=hg.size;have Zwl:=Za gR;have Zwm:=Za gA;obtain⟨bw,jQ⟩:=ZD (g.size);have hGR:∀o,((g.push o).setIfInBounds bw (O ((B++Q (17-n) 0).map bv).toArray 278))[bR]? = ao (Yz R):=fun o=>by
     rw[aa,if_neg gX,Zl gX];exact gR
    have hGA:∀o,((g.push o).setIfInBounds bw (O ((B++Q (17-n) 0).map bv).toArray 278))[bA]? = ao (Yz A):=fun o=>by
     rw[aa,if_neg gX,Zl gX];exact gA
    have hGW:∀o,((g.push o).setIfInBounds bw (O ((B++Q (17-n) 0).map bv).toArray 278))[bw]? = ao (O ((B++Q (17-n) 0).map bv++[]).toArray 278):=fun o=>by
     rw[ay,jQ];exact Z1 Zb
    have hGB:∀o,Zf h.size h ((g.push o).setIfInBounds bw (O ((B++Q (17-n) 0).map bv).toArray 278)):=fun o=>(hg.Yx ZpH _).Zj gX _;have hGS:∀o,((g.push o).setIfInBounds bw (O ((B++Q (17-n) 0).map bv).toArray 278)).size=bw+1:=fun o=>by rw[bk,br,jQ]
    rw[<-jQ];specialize hGR (O ((Q 17 0).map bv).toArray 278);specialize hGA (O ((Q 17 0).map bv).toArray 278);specialize hGW (O ((Q 17 0).map bv).toArray 278);specialize hGB (O ((Q 17 0).map bv).toArray 278);specialize hGS (O ((Q 17 0).map bv).toArray 278);obtain⟨G1,mK⟩:=ZD (((g.push (O ((Q 17 0).map bv).toArray 278)).setIfInBounds bw (O ((B++Q (17-n) 0).map bv).toArray 278)));rw[<-mK]at hGR hGA hGW hGB hGS ⊢;clear mK;have c1:Jb G1 ⟨bw,n,bd⟩ (j Y 1)=_:=Yk (f:=bv) hGW (i:=n) (by rw[Zhy];omega) 1 rfl;rw[e17]at c1;have xh:=Z1 (o:=O ((Xx B).map bv++[]).toArray 278) hGW;have ya:(G1.setIfInBounds bw (O ((Xx B).map bv++[]).toArray 278))[bR]? = ao (Yz R):=by rw[aa,if_neg gX];exact hGR
    have hA2:(G1.setIfInBounds bw (O ((Xx B).map bv++[]).toArray 278))[bA]? = ao (Yz A):=by rw[aa,if_neg gX];exact hGA
    have Sw:Zf h.size h (G1.setIfInBounds bw (O ((Xx B).map bv++[]).toArray 278)):=hGB.Zj gX _;have hS2:(G1.setIfInBounds bw (O ((Xx B).map bv++[]).toArray 278)).size=bw+1:=by rw[bk,hGS]
    obtain⟨G2,fE⟩:=ZD (G1.setIfInBounds bw (O ((Xx B).map bv++[]).toArray 278));rw[<-fE]at c1 xh ya hA2 Sw hS2;clear fE hGR hGA hGW hGB hGS;have l17:=EJ (l:=B) gX;have w17:=qA Zhx;have o17:Yd h.size 278 G2 (al (ao ⟨bw,0,bd⟩) 17 17) (Xx B):=
     ⟨.inr ⟨bw,17,[],gX,by rw[l17],xh,Dq,by rw[l17];rfl,gX⟩,w17⟩
    have s17:=RN o17.bs (m:=16) gX 17;have t17:((Xx B).take 16).length=16:=aac;have g16:=ZX xh (i:=16) gX;unfold bv at g16;have Zc7:=jG (l:=B) gX;have OU:=jF (l:=B) gX;have wt:=RP (l:=(Xx B).take 16) (fun x hx=>w17 x (bb hx)) t17;obtain⟨Z4,jR⟩:=ZD ((Xx B).getD 16 0);rw[<-jR]at g16 Zc7 OU;have em:((Z4:Nat):Int)%18446744073709551616=(Z4:Nat):=gX;simp -implicitDefEqProofs only[go_sem,f0,f1,f10,f11,ZpG,az,Zhy,c1];refine VS.w (bw+1) [] (.q 0 (.q 1 (.q 2 (.q 3 (.q 5 (.s 4 .nil)))))) mixed po ?_;simp -implicitDefEqProofs only[go_sem,g16,em];refine (Mn T _ _ ((Xx B).take 16) Z4 s17 t17 Zc7).use ?_;rintro _ G3 ⟨rfl,b3⟩;rw[hS2]at b3;have hR3:=b3.get (k:=bR) gX ya;have hA3:=b3.get (k:=bA) gX hA2;have hB3:Zf h.size h G3:=Sw.trans (b3.mono gX);have hxv:=IJ (t:=Z4) wt;rw[OU]at hxv;have Ax:=EI (t:=Z4) wt Zc7;have hxn:=S6 (Xl ((Xx B).take 16)) Z4;obtain⟨X,hX⟩:=ZD (Ez (Xl ((Xx B).take 16)) Z4);rw[<-hX]at hxv Ax hxn ⊢;rw[<-H5]at hxv;have b3T:Zf (bw+1) G2 G3=True:=eq_true b3;simp -implicitDefEqProofs only[go_sem,b3T];refine VS.Z9 (fun F g=>F 0=al p (D key) c/\F 1=al q (D rest) d/\F 10=av (ao ⟨bR,0,bd⟩)/\F 11=av (ao ⟨bA,0,bd⟩)/\F 66=.agg (X.map uv).toArray/\∃i:Nat,i<=5/\F 67=j W i/\g=G3.setIfInBounds bA (Yz (To A X i)))
     (fun F _=>5-(vi (F 67)).toNat) rfl ⟨f0,f1,f10,f11,rfl,0,gX,rfl,(UR hA3).symm⟩ ?_
    clear f0 f1 f10 f11 F gR gA hg;rintro F g' ⟨f0,f1,f10,f11,f66,i,hi,f67,rfl⟩;have Aw:(G3.setIfInBounds bA (Yz (To A X i)))[bA]? = ao (Yz (To A X i)):=Z1 hA3;have lN:(To A X i).length=5:=by rw[Lg,lA5]
    have wN:=fO Sf Ax gX gX i;by_cases bE:i<5
    .have qc:(i:Int)<5:=gX;have hnx:To A X (i+1)=(To A X i).set i ((To A X i).getD i 0+X.getD i 0):=rfl;obtain⟨r,hr⟩:=ZD (To A X i);rw[<-hr]at Aw lN wN hnx ⊢;obtain⟨G,hG⟩:=ZD (G3.setIfInBounds bA (Yz r));rw[<-hG]at Aw ⊢;have n1:=ED (l:=X) (i:=i) gX;have g1:=ZX Aw (i:=i) gX;unfold uv at g1;have y1:=wN.getD gX i;have y2:=Ax.getD gX i;obtain⟨a,ha⟩:=ZD (r.getD i 0);obtain⟨b,hb⟩:=ZD (X.getD i 0);rw[<-ha]at g1 y1 hnx;rw[<-hb]at n1 y2 hnx;have e1:(a:Int)+(b:Int)=((a+b:Nat):Int):=rfl;have e2:((a+b:Nat):Int)%18446744073709551616=((a+b:Nat):Int):=gX;have c2:Jb G ⟨bA,i,bd⟩ (j U (a+b:Nat))=_:=Yk (f:=uv) Aw (i:=i) gX (a+b) rfl;simp -implicitDefEqProofs only[go_sem,f0,f1,f10,f11,f66,f67,qc,az,bo,n1,g1,e1,e2,c2];refine⟨⟨f0,f1,f10,f11,f66,i+1,bE,rfl,?_⟩,?_⟩
     .rw[hG,set_set,hnx];rfl
     .simp only[vi,Zk,↓reduceIte,f67];omega
    .have xF:¬(i:Int)<5:=gX;obtain rfl:i=5:=gX;have c5:((5:Nat):Int)=5:=rfl;rw[c5]at f67 xF;obtain⟨wN5,vN5⟩:=qx lA5 hxn Sf Ax;have hR4:(G3.setIfInBounds bA (Yz (To A X 5)))[bR]? = ao (Yz R):=by rw[aa,if_neg gX];exact hR3
     have fJ:Zf h.size h (G3.setIfInBounds bA (Yz (To A X 5))):=hB3.Zj gX _;obtain⟨N,hN⟩:=ZD (To A X 5);rw[<-hN]at Aw lN wN5 vN5 hR4 fJ ⊢;generalize G3.setIfInBounds bA (Yz N)=G4 at *;have r1:=SZ lN Aw;have r2:=SZ hrn hR4;have lNm:(N.map uv).length=5:=by simpa using lN
     have tN:(N.map uv).take 5=N.map uv:=am gX;have tR:(R.map uv).take 5=R.map uv:=am gX;simp -implicitDefEqProofs only[go_sem,f0,f1,f10,f11,f66,f67,xF,r1,r2];refine (CE T G4 N R lN hrn wN5 uW).use ?_;rintro _ G5 ⟨rfl,b5⟩;obtain⟨w1,w2,w3⟩:=G9 lN hrn wN5 uW;obtain⟨m1,m2,m3,_⟩:=RM w2 w1;obtain⟨M,hM⟩:=ZD (Xs (Wj N R 5));rw[<-hM]at m1 m2 m3 ⊢;have hA5:=b5.get (Za Aw) Aw;have hR5:=b5.get (Za hR4) hR4;have hB5:Zf h.size h G5:=fJ.trans (b5.mono fJ.size);have lM:(M.map uv).length=5:=by simpa using m1
     have hoM:(M.map uv).all Yq=true:=by simp[uv,Yq]
     have w5:=Z2 (h:=G5) (b:=bA) (l:=(N.map uv)) (by unfold Yz at hA5;rw[ay]at hA5;exact hA5) 0 (M.map uv);rw[if_pos ⟨by simp[lM,lNm],hoM⟩,ZZ (by simp[lM,lNm])]at w5;have QQ:((D rest):Int)<=d:=gX;obtain⟨mn,uR⟩:=ZD (min 16 (D rest));have qj:(if ((D rest):Int)<16 then ((D rest):Int) else 16)=((mn:Nat):Int):=by split<;>omega
     have ZpL:(mn:Int)<=(D rest):=gX;have ZhC:rest.drop mn=data.drop (16*(k+1)):=by
      rw[Y5];by_cases hc:(D rest)<=16
      .rw[ba gX,ba gX]
      .rw[uR,Nat.min_eq_left gX]
     have s2:=RI s1 rfl (k:=mn) gX jP (d-mn);rw[ZhC]at s2;have ZhD:YG M%Tn=qt (Xl (Jv key)) data (k+1):=by
      rw[m3,w3,vN5,hxv,hrv,qt,<-CN,Nat.mul_mod,<-Nat.mod_add_mod,<-Nat.mul_mod]
     simp -implicitDefEqProofs only[go_sem,f0,f1,f10,f11,w5,lM,qj,ZpL,az,Uv];refine⟨⟨f0,f10,f11,hB5.Zj gX _,?_,k+1,M,gX,s2,?_,?_,m1,m2,ZhD⟩,?_⟩
     .rw[aa,if_neg gX];exact hR5
     .show (D rest)-mn<=d-mn;omega
     .have:=Z1 (o:=O (M.map uv).toArray 276) hA5;unfold Yz;rw[ay];exact this
     .show (D rest)-mn<(D rest);omega
   .have ZhE:¬(0:Int)<((data.drop (16*k)).length:Int):=gX;have hk2:k=((D data)+15)/16:=gX;rw[hk2]at CN;obtain⟨rest,IL⟩:=ZD (data.drop (16*k));rw[<-IL]at f1 ZhE;have r1:=SZ lA5 gA;have tA:(A.map uv).take 5=A.map uv:=am (by simp[lA5]);simp -implicitDefEqProofs only[go_sem,f0,f1,f10,f11,ZhE,r1];refine (CF T g A lA5 (Sf.mono MZ)).use ?_;rintro _ g6 ⟨rfl,b6⟩;obtain⟨m1,m2,m3,m4⟩:=RM lA5 (Sf.mono MZ);obtain⟨q1,q2,q3⟩:=jz m1 m2 m4;rw[m3,CN]at q3;obtain⟨M,hM⟩:=ZD (SY (Xs A));rw[<-hM]at q1 q2 q3 ⊢;have hA6:=b6.get (Za gA) gA;have hB6:Zf h.size h g6:=hg.trans (b6.mono hg.size);have lM:(M.map uv).length=5:=by simpa using q1
    have lAm:(A.map uv).length=5:=by simpa using lA5
    have hoM:(M.map uv).all Yq=true:=by simp[uv,Yq]
    have w5:=Z2 (h:=g6) (b:=bA) (l:=(A.map uv)) (by unfold Yz at hA6;rw[ay]at hA6;exact hA6) 0 (M.map uv);rw[if_pos ⟨by simp[lM,lAm],hoM⟩,ZZ (by simp[lM,lAm])]at w5;have hB7:Zf h.size h (g6.setIfInBounds bA (O (M.map uv).toArray 276)):=hB6.Zj gX _;have hA7:(g6.setIfInBounds bA (O (M.map uv).toArray 276))[bA]? = ao (Yz M):=by
     have:=Z1 (o:=O (M.map uv).toArray 276) hA6;unfold Yz;rw[ay];exact this
    obtain⟨g7,hg7⟩:=ZD (g6.setIfInBounds bA (O (M.map uv).toArray 276));rw[<-hg7]at w5 hB7 hA7;clear hg7;have sm:Bs g7 (al (bB p 1 c 16) 16 (c-16)) ((key.drop 16).take 16):=Zc2 (sk.Yb hB7) rfl gX ck _;have Zc8:((key.drop 16).take 16).length=16:=by rw[List.length_take,b0];omega
    have u2:(32:Int)<=c:=gX;have wkl:Dg ((key.drop 16).take 16):=fun x hx=>wk x (bH (bb hx));simp -implicitDefEqProofs only[go_sem,f0,f1,f10,f11,w5,lM,u2,Uv];refine (Mn T _ _ _ 0 sm Zc8 gX).use ?_;rintro _ g8 ⟨rfl,b8⟩;have hSv:=IJ (t:=0) (RP wkl Zc8);rw[bT,bV]at hSv;have hSl:=EI (t:=0) (RP wkl Zc8) gX;have hSn:=S6 (Xl ((key.drop 16).take 16)) 0;obtain⟨S,hS⟩:=ZD (Ez (Xl ((key.drop 16).take 16)) 0);rw[<-hS]at hSv hSl hSn ⊢;clear hS;have hA8:=b8.get (Za hA7) hA7;have hB8:Zf h.size h g8:=hB7.trans (b8.mono hB7.size);have lS:(S.map uv).length=5:=by simpa using hSn
    have hoS:(S.map uv).all Yq=true:=by simp[uv,Yq]
    have lpS:YJ [Value.int U 0,j U 0,j U 0,j U 0,j U 0] 0 (S.map uv)=S.map uv:=ZZ lS;simp -implicitDefEqProofs only[go_sem,f0,f1,f10,f11,lS,hoS,lpS,Zc5];have T0:xO key data=YG M+YG S:=by rw[q3,hSv];rfl
    have hB9:Zf (g8.size+1) (g8.push (O (S.map uv).toArray 276)) ((g8.push (O (S.map uv).toArray 276)).push (O ((Q 16 0).map bv).toArray 5)):=Zf.push Dq _;have hS9:(g8.push (O (S.map uv).toArray 276))[g8.size]? = ao (Yz S):=by rw[Zb];unfold Yz;rw[ay]
    have hA9:(g8.push (O (S.map uv).toArray 276))[bA]? = ao (Yz M):=by rw[Zl (Za hA8)];exact hA8
    have hH9:Zf h.size h (g8.push (O (S.map uv).toArray 276)):=hB8.Yx hB8.size _;have o9:Yd (g8.size+1) 5 ((g8.push (O (S.map uv).toArray 276)).push (O ((Q 16 0).map bv).toArray 5)) (al (ao ⟨g8.size+1,0,bd⟩) 0 16) []:=by
     refine⟨.inr ⟨g8.size+1,16,(Q 16 0).map bv,bD _,rfl,?_,rfl,Dq,Nat.zero_le _⟩,fun x hx=>by cases hx⟩;have:=Zb (h:=g8.push (O (S.map uv).toArray 276)) (o:=O ((Q 16 0).map bv).toArray 5);rw[br]at this;exact this
    have ZpR:=Za hA8;have ZhF:=hB8.size;have hz9:(g8.push (O (S.map uv).toArray 276)).size=g8.size+1:=Dq;obtain⟨bS,hbS⟩:∃b,b=g8.size:=⟨_,rfl⟩
    rw[<-hbS]at hB9 hS9 o9 ZpR ZhF hz9 ⊢;obtain⟨J,hJ⟩:=ZD (g8.push (O (S.map uv).toArray 276));rw[<-hJ]at hB9 hS9 hA9 hH9 o9 hz9 ⊢;clear hJ;refine VS.Z9 (fun F g=>F 11=av (ao ⟨bA,0,bd⟩)/\F 16=av (ao ⟨bS,0,bd⟩)/\Zf (bS+1) J g/\∃(i n sum bits:Nat) (out:List Nat),i<=5/\F 87=j W i/\F 18=j U sum/\F 19=j U bits/\F 20=j W n/\Yd (bS+1) 5 g (F 17) out/\(D out)=n/\bits<8/\26*i=8*n+bits/\sum<8*2 ^ bits/\xO key data=Xl out+256 ^ n*(sum+2 ^ bits*Nk (M.drop i) (S.drop i)))
     (fun F _=>5-(vi (F 87)).toNat) rfl ⟨f11,rfl,hB9,0,0,0,0,[],gX,rfl,rfl,rfl,rfl,o9,rfl,gX,gX,gX,by rw[T0,b2,b2,CM _ _ gX];simp[Xl]⟩ ?_
    clear f0 f1 f10 f11 F hB9 o9;rintro F g' ⟨f11,f16,Ij,i,n,sum,bits,out,hi,f87,f18,f19,f20,ho,hol,hb8,hbn,jS,hT⟩;have gA':=Ij.get (k:=bA) gX hA9;have gS':=Ij.get (k:=bS) gX hS9;have ZhH:=Ij.size;by_cases ZL:i<5
    .have ZW:(i:Int)<5:=gX;rw[cD gX gX]at hT;have g1:=ZX gA' (i:=i) gX;have g2:=ZX gS' (i:=i) gX;unfold uv at g1 g2;have y1:=q2.getD gX i;have y2:=hSl.getD gX i;obtain⟨a,ha⟩:=ZD (M.getD i 0);obtain⟨b,hb⟩:=ZD (S.getD i 0);rw[<-ha]at g1 y1 hT;rw[<-hb]at g2 y2 hT;have hT2:=xX hT;have CO:=jN (c:=a+b) jS gX;have p8:=jM hb8;have FM:(a+b)*2 ^ bits<=268435455*128:=Nat.mul_le_mul gX p8;have ZpT:sum<1024:=gX;have e1:(a:Int)+(b:Int)=((a+b:Nat):Int):=rfl;have e2:((a+b:Nat):Int)%18446744073709551616=((a+b:Nat):Int):=gX;have e3:YS U ((a+b:Nat):Int) (bits:Int)=(((a+b)*2 ^ bits:Nat):Int):=by
      rw[Kl _ _ gX,Nat.mod_eq_of_lt gX]
     obtain⟨cc,uX⟩:=ZD ((a+b)*2 ^ bits);rw[<-uX]at e3 FM hT2 CO;have e4:(sum:Int)+(cc:Int)=((sum+cc:Nat):Int):=rfl;have e5:((sum+cc:Nat):Int)%18446744073709551616=((sum+cc:Nat):Int):=gX;have e6:(bits:Int)+26=((bits+26:Nat):Int):=rfl;have e7:((bits+26:Nat):Int)%18446744073709551616=((bits+26:Nat):Int):=gX;have e8:¬(bits:Int)<0:=gX;simp -implicitDefEqProofs only[go_sem,f11,f16,f18,f19,f20,f87,ZW];refine VS.q mixed po ?_;simp -implicitDefEqProofs only[go_sem,f11,f16,f18,f19,f20,f87,ZW,az,bo,g1,g2,e1,e2,e3,e4,e5,e6,e7,e8];refine VS.Z9 (fun F g=>F 11=av (ao ⟨bA,0,bd⟩)/\F 16=av (ao ⟨bS,0,bd⟩)/\F 87=j W i/\Zf (bS+1) J g/\∃(n sum bits:Nat) (out:List Nat),F 18=j U sum/\F 19=j U bits/\F 20=j W n/\Yd (bS+1) 5 g (F 17) out/\(D out)=n/\bits<34/\26*(i+1)=8*n+bits/\sum<8*2 ^ bits/\xO key data=Xl out+256 ^ n*(sum+2 ^ bits*Nk (M.drop (i+1)) (S.drop (i+1))))
      (fun F _=>(vi (F 19)).toNat) rfl ⟨f11,f16,f87,Ij,n,sum+cc,bits+26,out,rfl,rfl,f20,ho,hol,gX,gX,CO,hT2⟩ ?_
     clear f11 f16 f18 f19 f20 f87 ho hol hT hT2 jS CO hbn hb8 Ij gA' gS' ZhH g1 g2 e3 e4 e5 e6 e7 e8 p8 FM uX ZpT F cc;clear n sum bits out g';rintro F g' ⟨f11,f16,f87,Ij,n,sum,bits,out,f18,f19,f20,ho,hol,hb8,hbn,jS,hT⟩;have ZhH:=Ij.size;by_cases hb:8<=bits
     .have KP:(8:Int)<=bits:=gX;have hn1:(n:Int)<16:=gX;have CO:=jO jS hb;have hT2:=qC hb hT;have hp:2 ^ bits<=2 ^ 34:=bG MZ gX;have V1:sum<18446744073709551616:=Nat.lt_of_lt_of_le jS (Nat.le_trans (Nat.mul_le_mul_left 8 hp) MZ);have em:((sum:Nat):Int)%256=((sum%256:Nat):Int):=rfl;have es:Xw U (sum:Int) 8=((sum/256:Nat):Int):=RL sum 8 MZ;have eb:(bits:Int)-8=((bits-8:Nat):Int):=gX;have eb2:((bits-8:Nat):Int)%18446744073709551616=((bits-8:Nat):Int):=gX;simp -implicitDefEqProofs only[go_sem,f11,f16,f18,f19,f20,f87,KP,hn1,em];have hX:sum%256<256:=gX;refine ZF (E:=5) (B:=bS+1) YN bP WS VC VB (ho.push _) L6 (Bs.one hX 1) L6 ?_;intro v' h' PW Jc _;simp -implicitDefEqProofs only[go_sem,f11,f16,f18,f19,f20,f87,es,eb,eb2];refine⟨⟨f11,f16,f87,(Ij.Yx gX _).trans Jc,n+1,sum/256,bits-8,out++[sum%256],rfl,rfl,rfl,PW,by simp[hol],gX,gX,CO,?_⟩,?_⟩
      .rw[hT2,cE,hol]
      .simp only[vi,Zk,↓reduceIte,Nat.reduceEqDiff,f19];omega
     .have KP:¬(8:Int)<=bits:=gX;have e9:(i:Int)+1=((i+1:Nat):Int):=rfl;simp -implicitDefEqProofs only[go_sem,f11,f16,f18,f19,f20,f87,KP,e9];refine⟨⟨f11,f16,Ij,i+1,n,sum,bits,out,ZL,rfl,f18,f19,f20,ho,hol,gX,hbn,jS,hT⟩,?_⟩;simp only[vi,Zk,↓reduceIte,f87];omega
    .have YU:¬(i:Int)<5:=gX;obtain rfl:i=5:=gX;have c5:((5:Nat):Int)=5:=rfl;rw[c5]at f87 YU;obtain rfl:n=16:=gX;have e0:Nk (M.drop 5) (S.drop 5)=0:=by rw[ba gX,ba gX];rfl
     rw[e0,bT,bV]at hT;have LW:=jI ho.byte hol hT;have htl:bW key data=out:=LW.symm;simp -implicitDefEqProofs only[go_sem,f11,f16,f18,f19,f20,f87,YU];rw[htl];exact⟨ho.mono gX,hH9.trans (Ij.mono gX)⟩
theorem CP(T:World)(h:Hp)(v u:Value)(key data:List Nat)(sk:Bs h v key)(sd:Bs h u data)(ck:Sn v)(cu:Sn u):
  Zc Tryz.prog T 107 #[v,u] h fun v' h'=>qu h.size h' v' key data/\Zf h.size h h':=by
 obtain⟨p,c,rfl,hkc⟩:=sk.open;obtain⟨q,d,rfl,hdc⟩:=sd.open;refine Zc.Y8 [_,_] Tryz.func107 ?_;unfold qu;by_cases hk:(D key)=32
 .by_cases hd:4000<(D data)
  .have hd':4000<((D data):Int):=gX;have PV:((D key):Int)=32:=gX;have e:VK key data=1:=by unfold VK;rw[if_pos (.inr hd)]
   rw[e];simp -implicitDefEqProofs only[go_sem,hd',PV];exact⟨_,rfl,Yd.nil _ _ _⟩
  .have hd':¬4000<((D data):Int):=gX;have PV:((D key):Int)=32:=gX;have e:VK key data=0:=by unfold VK;rw[if_neg gX]
   rw[e,if_pos rfl];simp -implicitDefEqProofs only[go_sem,hd',PV];refine (cF T _ _ _ key data sk sd hk gX ck cu).use ?_;rintro v1 h1 ⟨o1,b1⟩;simp -implicitDefEqProofs only[go_sem];exact⟨⟨_,rfl,o1⟩,b1⟩
 .have PV:¬((D key):Int)=32:=gX;have e:VK key data=1:=by unfold VK;rw[if_pos (.inl hk)]
  rw[e];simp -implicitDefEqProofs only[go_sem,PV];exact⟨_,rfl,Yd.nil _ _ _⟩
end Go.Proofs.YtdpjmhgbmhjniaaGreatDoor
