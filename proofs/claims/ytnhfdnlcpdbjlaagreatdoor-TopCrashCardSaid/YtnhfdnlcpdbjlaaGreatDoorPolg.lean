/- Part Polg. -/
import Derived.Test.YtnhfdnlcpdbjlaaGreatDoorPik
import Derived.Test.YtnhfdnlcpdbjlaaGreatDoorW14
open Go.Value renaming int→j,slice→ak,pointer→an
open Go.IntKind renaming u64→U,i64→W,u8→Y
open Go.Obj renaming cells→O
open Go.Proofs.Tryz renaming underlying34→b2
open List renaming length→D,replicate→Q,getD_eq_getElem?_getD→Z,take_of_length_le→al,getElem?_append_right→aw,append_nil→aF,getElem?_eq_getElem→aK,drop_of_length_le→aU,mem_of_mem_take→aX,append_assoc→bd,drop_eq_getElem_cons→bf,getElem?_replicate→bj,length_set→bl,getElem?_eq_none→bo,mem_of_mem_drop→bz,replicate_succ→bD,length_drop→ca,drop_zero→cd
open Nat renaming mul_assoc→bb,pow_add→bg,zero_add→bk,mul_add→bp,le_refl→br,pow_le_pow_right→bx,add_assoc→bG,add_sub_cancel→b0,mul_zero→b7,add_zero→b9
open Int renaming toNat_natCast→aI
open Option renaming some→am,none→ba
open Array renaming getElem?_setIfInBounds→aa,size_setIfInBounds→bh,size_push→bn
namespace Go.Proofs.YtnhfdnlcpdbjlaaGreatDoor
open Go Go.V
set_option linter.all false
set_option maxRecDepth 100000
variable{l:List Nat}
def BH(l:List Nat):Nat->List Nat
 | 0=>l
 | i+1=>(BH l i).set (4*i+3) ((BH l i).getD (4*i+3) 0%16)
def kJ(l:List Nat):Nat->List Nat
 | 0=>l
 | i+1=>(kJ l i).set (4*i+4) ((kJ l i).getD (4*i+4) 0/4*4)
theorem Gw(l:List Nat):∀i,(BH l i).length=(D l)
 | 0=>rfl
 | i+1=>by rw[BH,bl,Gw l i]
theorem Gx(l:List Nat):∀i,(kJ l i).length=(D l)
 | 0=>rfl
 | i+1=>by rw[kJ,bl,Gx l i]
theorem ik(w:Dg l):∀i,Dg (BH l i)
 | 0=>w
 | i+1=>(ik w i).set _ (by have:=(ik w i).getD (4*i+3);omega)
theorem il(w:Dg l):∀i,Dg (kJ l i)
 | 0=>w
 | i+1=>(il w i).set _ (by have:=(il w i).getD (4*i+4);omega)
theorem Zco(hl:(D l)=16):kJ (BH l 4) 3=Qh l:=by
 match l,hl with
 | [a0,a1,a2,a3,a4,a5,a6,a7,a8,a9,a10,a11,a12,a13,a14,a15],_=>rfl
theorem aq(key:List Nat):Qh key=Qh (key.take 16):=by
 unfold Qh;apply List.map_congr_left;intro i hi;have ki:i<16:=by simpa using hi
 have e:(key.take 16).getD i 0=key.getD i 0:=by
  rw[Z,List.getElem?_take,if_pos ki,Z]
 unfold xf;rw[e]
theorem oQ{key:List Nat}(hk:(D key)=32):kJ (BH (key.take 16) 4) 3=Qh key:=by
 rw[aq];exact Zco aaa
theorem OR(w:Dg l)(hl:(D l)=16):XU l<340282366920938463463374607431768211456:=by
 have:=VZ w (n:=16) mD;exact this
theorem Oc(n t:Nat):(CA n t).length=5:=rfl
theorem CO{n t:Nat}(hn:n<340282366920938463463374607431768211456)(ht:t<=1):Y4 67108864 (CA n t):=
 Y4.Ma mD mD mD mD mD
theorem Gy{n t:Nat}(hn:n<340282366920938463463374607431768211456):Y8 (CA n t)=n+340282366920938463463374607431768211456*t:=by
 simp only[CA,Y8];omega
def SZ(a x:List Nat):Nat->List Nat
 | 0=>a
 | i+1=>(SZ a x i).set i ((SZ a x i).getD i 0+x.getD i 0)
theorem Ib(a x:List Nat):∀i,(SZ a x i).length=(D a)
 | 0=>rfl
 | i+1=>by rw[SZ,bl,Ib a x i]
theorem kK{a x:List Nat}{K L:Nat}(wa:Y4 K a)(wx:Y4 L x)(hK:0<K)(hL:0<L):∀i,Y4 (K+i*L) (SZ a x i)
 | 0=>by rw[Nat.zero_mul];exact wa
 | i+1=>by
  have h:=kK wa wx hK hL i;have q1:=h.getD mD i;have q2:=wx.getD hL i;rw[SZ,Nat.add_mul,Nat.one_mul];exact (h.mono mD).set _ _ mD
theorem xq{a x:List Nat}(ha:(D a)=5)(hx:(D x)=5)(wa:Y4 134217728 a)(wx:Y4 67108864 x):Y4 268435456 (SZ a x 5)/\Y8 (SZ a x 5)=Y8 a+Y8 x:=by
 obtain⟨a0,a1,a2,a3,a4,rfl⟩:=Ma ha;obtain⟨x0,x1,x2,x3,x4,rfl⟩:=Ma hx;obtain⟨w0,w1,w2,w3,w4⟩:=wa.Zci;obtain⟨u0,u1,u2,u3,u4⟩:=wx.Zci;have e:SZ [a0,a1,a2,a3,a4] [x0,x1,x2,x3,x4] 5=[a0+x0,a1+x1,a2+x2,a3+x3,a4+x4]:=rfl;rw[e];exact⟨Y4.Ma mD mD mD mD mD,by simp only[Y8];omega⟩
theorem Gz(a b:List Nat):XU (a++b)=XU a+256 ^ (D a)*XU b:=by
 induction a with
 | nil=>simp[XU]
 | cons x a ih=>simp only[List.cons_append,XU,ih,List.length_cons,Nat.pow_succ,bp,bG];congr 2;rw[<-bb,Nat.mul_comm 256]
theorem io(n:Nat):XU (Q n 0)=0:=by
 induction n with
 | zero=>rfl
 | succ n ih=>rw[bD,XU,ih]
def X8(l:List Nat):List Nat:=l++[1]++Q (16-(D l)) 0
theorem CP(hl:(D l)<=16):(X8 l).length=17:=by simp[X8];omega
theorem oR(hl:(D l)<=16):XU ((X8 l).take 16)+340282366920938463463374607431768211456*(X8 l).getD 16 0=XU (l++[1]):=by
 by_cases h:(D l)=16
 .have e1:(X8 l).take 16=l:=by unfold X8;rw[bd,List.take_left' h]
  have e2:(X8 l).getD 16 0=1:=by
   unfold X8;rw[Z,bd,aw mD,h];rfl
  rw[e1,e2,Gz,h];rfl
 .have e2:(X8 l).getD 16 0=0:=by
   unfold X8;rw[Z,aw vI,bj];split<;>rfl
  have e1:(X8 l).take 16=(l++[1])++Q (15-(D l)) 0:=by
   unfold X8;rw[List.take_append,al vI,List.take_replicate]
   congr 2
   simp;omega
  rw[e1,e2,Gz,io];omega
theorem oS(hl:(D l)<=16):(X8 l).getD 16 0<=1:=by
 by_cases h:(D l)=16
 .have e2:(X8 l).getD 16 0=1:=by
   unfold X8;rw[Z,bd,aw mD,h];rfl
  omega
 .have e2:(X8 l).getD 16 0=0:=by
   unfold X8;rw[Z,aw vI,bj];split<;>rfl
  omega
theorem xr(w:Dg l):Dg (X8 l):=by
 intro x hx;unfold X8 at hx;simp only[List.mem_append,List.mem_singleton,List.mem_replicate]at hx;rcases hx with (h|h)|h
 .exact w x h
 .omega
 .omega
theorem oU(hl:(D l)<=16):(l++Q (17-(D l)) 0).set (D l) 1=X8 l:=by
 have e:Q (17-(D l)) 0=0 :: Q (16-(D l)) 0:=by rw[<-bD];congr 1;omega
 rw[e,List.set_append_right _ _ (br _),Nat.sub_self,List.set_cons_zero];unfold X8;rw[bd];rfl
def Lb:List Nat->List Nat->Nat
 | x :: l,y :: k=>(x+y)+67108864*Lb l k
 | _,_=>0
theorem ar:∀(l k:List Nat),(D l)=(D k)->Lb l k=Y8 l+Y8 k
 | [],[],_=>rfl
 | x :: l,y :: k,h=>by simp only[Lb,Y8];rw[ar l k (by simpa using h)];omega
theorem oV{out:List Nat}{t R:Nat}(w:Dg out)(hl:(D out)=16)(h:t=XU out+256 ^ 16*R):out=(List.range 16).map fun i=>t/256 ^ i%256:=by
 apply List.ext_getElem?;intro i;by_cases hi:i<16
 .rw[List.getElem?_map,List.getElem?_range hi];have e:=gU w i;rw[Z,aK mD]at e;rw[aK mD];simp only[Option.map_some,Option.some.injEq];simp only[Option.getD_some]at e;rw[e,h];have e2:256 ^ 16*R=256 ^ i*(256*(256 ^ (15-i)*R)):=by
   rw[<-bb 256,<-bb,<-Nat.pow_succ',<-bg]
   congr 2;omega
  rw[e2,Nat.add_mul_div_left _ _ (Nat.pow_pos mD),Nat.add_mul_mod_self_left]
 .rw[bo mD,bo vI]
theorem xt{T v n s B R:Nat}(hB:256<=B)(hd:B%256=0)(h:T=v+n*(s+B*R)):T=v+n*(s%256)+n*256*(s/256+B/256*R):=by
 have e:s+B*R=s%256+256*(s/256+B/256*R):=by
  have e1:B=256*(B/256):=mD;have e2:B*R=256*(B/256*R):=by rw[<-bb,<-e1]
  have e3:=Nat.mod_add_div s 256;rw[bp,e2];omega
 rw[h,e,bp,<-bb,<-bG]
theorem oW{i:Nat}(hi:i<4):nth [Value.int W 3,j W 7,j W 11,j W 15] i=am (j W ((4*i+3:Nat):Int)):=by
 match i,hi with
 | 0,_=>rfl
 | 1,_=>rfl
 | 2,_=>rfl
 | 3,_=>rfl
theorem oX{i:Nat}(hi:i<3):nth [Value.int W 4,j W 8,j W 12] i=am (j W ((4*i+4:Nat):Int)):=by
 match i,hi with
 | 0,_=>rfl
 | 1,_=>rfl
 | 2,_=>rfl
theorem ZkD(x:Nat)(hx:x<256):YL .and Y (x:Int) 15=((x%16:Nat):Int):=by
 have h:=vm x 15 hx KC;have e:x &&& 15=x%16:=Nat.and_two_pow_sub_one_eq_mod x 4;rw[e]at h;exact h
theorem Zgo(x:Nat)(hx:x<256):YL .and Y (x:Int) 252=((x/4*4:Nat):Int):=by
 have h:=vm x 252 hx KC;have e:x &&& 252=x/4*4:=by
  have:∀y:Fin 256,y.val &&& 252=y.val/4*4:=KC;exact this ⟨x,hx⟩
 rw[e]at h;exact h
def ZsF:Value->Nat
 | ak _ l _=>l
 | _=>0
theorem oY(n:Nat)(vs:List Nat)(h:(D vs)<=n):Xd ((Q n 0).map bv) 0 (vs.map bv)=(vs++Q (n-(D vs)) 0).map bv:=by
 rw[Uy _ _ (by simpa using h),List.length_map,<-List.map_drop,List.drop_replicate,List.map_append]
theorem iq{M S:List Nat}{i:Nat}(hM:i<(D M))(hS:i<(D S)):Lb (M.drop i) (S.drop i)=(M.getD i 0+S.getD i 0)+67108864*Lb (M.drop (i+1)) (S.drop (i+1)):=by
 rw[bf hM,bf hS,Lb,Z,Z,aK hM,aK hS];rfl
theorem Zcp{T v n s b c R:Nat}(h:T=v+n*(s+2 ^ b*(c+67108864*R))):T=v+n*(s+c*2 ^ b+2 ^ (b+26)*R):=by
 rw[h,bp (2 ^ b),Nat.mul_comm (2 ^ b) c,bg,<-bb (2 ^ b),bG]
theorem oZ{b:Nat}(h:b<8):2 ^ b<=128:=by
 have:=bx (show 0<2 by decide) (show b<=7 by omega);exact this
theorem ph{s c b:Nat}(hs:s<8*2 ^ b)(hc:c<268435456):s+c*2 ^ b<8*2 ^ (b+26):=by
 have h1:c*2 ^ b<=268435455*2 ^ b:=Nat.mul_le_mul_right _ mD;rw[bg];have:2 ^ 26=67108864:=rfl;rw[this];omega
theorem pj{s b:Nat}(hs:s<8*2 ^ b)(hb:8<=b):s/256<8*2 ^ (b-8):=by
 have:2 ^ b=2 ^ (b-8)*256:=by
  have e:b=b-8+8:=mD;rw[e,bg,b0]
 rw[this]at hs;omega
theorem xu{T v n s b R:Nat}(hb:8<=b)(h:T=v+256 ^ n*(s+2 ^ b*R)):T=v+256 ^ n*(s%256)+256 ^ (n+1)*(s/256+2 ^ (b-8)*R):=by
 have e:2 ^ b=2 ^ (b-8)*256:=by
  have e:b=b-8+8:=mD;rw[e,bg,b0]
 have hp:0<2 ^ (b-8):=Nat.pow_pos mD;have:=xt (B:=2 ^ b) (by rw[e];omega) (by rw[e];omega) h;rw[show 2 ^ b/256=2 ^ (b-8) by rw[e,Nat.mul_div_cancel _ mD]]at this;rw[Nat.pow_succ];exact this
theorem ir(l:List Nat)(x:Nat):XU (l++[x])=XU l+256 ^ (D l)*x:=by rw[Gz];rfl
theorem Zgp:(Qa 16 [Value.int Y 0])=(Q 16 0).map bv:=rfl
set_option maxHeartbeats 2000000 in
theorem iu(T:World)(h:Hp)(v u:Value)(key data:List Nat)(sk:Bs h v key)(sd:Bs h u data)(hk:(D key)=32)(hd:(D data)<=4000)(ck:Pj v)(cu:Pj u):
  Zg Tryz.prog T 134 #[v,u] h fun v' h'=>YB h.size 5 h' v' (ie key data)/\Zk h.size h h':=by
 have wk:=sk.byte;have wd:=sd.byte;obtain⟨p,c,rfl,hkc⟩:=sk.Vn;have ck:(D key)<=c:=ck;have l16:(key.take 16).length=16:=aaa;have s16:=OQ sk (m:=16) mD c;have c16:(16:Int)<=c:=mD;refine Zg.XK [_,_] Tryz.func134 ?_;simp -implicitDefEqProofs only[go_sem,c16];refine ZR (E:=5) (B:=h.size) Xn b2 TX SN SM (YB.nil _ _ _) (br _) (by rw[hk]at sk;simpa using s16) (by rw[l16];decide) ?_;intro v1 h1 o1 b1 _;rw[List.nil_append]at o1;have o1n:=o1.Zr;rcases o1n with⟨_,hm,_⟩|⟨bc,cap,ZE,hbc,rfl,MN,Vb,Nm,U3⟩
 .omega
 obtain⟨L,hL⟩:=ZP (key.take 16);have wL:Dg L:=by rw[hL];exact fun x hx=>wk x (aX hx)
 have ZkE:kJ (BH L 4) 3=Qh key:=by rw[hL];exact oQ hk
 rw[<-hL]at l16 MN Vb Nm U3 ⊢;clear o1 s16 hL;have ZEq:=Za MN;simp -implicitDefEqProofs only[go_sem];refine VS.Yq (fun F g=>F 0=ak p (D key) c/\F 1=u/\F 5=ak (am ⟨bc,0,ba⟩) (D L) cap/\F 25=.agg #[j W 3,j W 7,j W 11,j W 15]/\∃i:Nat,i<=4/\F 26=j W i/\g=h1.setIfInBounds bc (O ((BH L i).map bv++ZE).toArray 5))
  (fun F _=>4-(vi (F 26)).toNat) rfl ⟨rfl,rfl,rfl,rfl,0,mD,rfl,(WK MN).symm⟩ ?_
 rintro F g ⟨f0,f1,f5,f25,i,hi,f26,rfl⟩;have hx:=Yd (o:=O ((BH L i).map bv++ZE).toArray 5) MN;have wA:=ik wL i;have lA:=Gw L i;by_cases ZV:i<4
 .have Z4:(i:Int)<4:=mD;have XE:BH L (i+1)=(BH L i).set (4*i+3) ((BH L i).getD (4*i+3) 0%16):=rfl;obtain⟨r,hr⟩:=ZP (BH L i);rw[<-hr]at hx wA lA XE ⊢;obtain⟨G,hG⟩:=ZP (h1.setIfInBounds bc (O (r.map bv++ZE).toArray 5));rw[<-hG]at hx ⊢;have n1:=oW ZV;have g1:=Z7 hx (i:=4*i+3) mD;have x1:=wA.getD (4*i+3);unfold bv at g1;obtain⟨x,hxx⟩:=ZP (r.getD (4*i+3) 0);rw[<-hxx]at g1 x1 XE;have e1:=ZkD x x1;have hi1:((4*i+3:Nat):Int)<(D L):=mD;have c1:QF G ⟨bc,4*i+3,ba⟩ (j Y (x%16:Nat))=_:=Yz (f:=bv) hx (i:=4*i+3) mD (x%16) rfl;simp -implicitDefEqProofs only[go_sem,f0,f1,f5,f25,f26,Z4,aI,bk,n1,hi1,g1,e1,c1];refine⟨⟨f0,f1,f5,f25,i+1,ZV,rfl,?_⟩,?_⟩
  .rw[hG,set_set,XE]
  .simp only[vi,Zt,↓reduceIte,f26];omega
 .have Xw:¬(i:Int)<4:=mD;obtain rfl:i=4:=mD;have c4:((4:Nat):Int)=4:=rfl;rw[c4]at f26 Xw;obtain⟨L2,hL2⟩:=ZP (BH L 4);rw[<-hL2]at hx wA lA ZkE ⊢;have B2:Zk h.size h (h1.setIfInBounds bc (O (L2.map bv++ZE).toArray 5)):=b1.Zu hbc _;generalize h1.setIfInBounds bc (O (L2.map bv++ZE).toArray 5)=h2 at *;clear hL2;simp -implicitDefEqProofs only[go_sem,f0,f1,f5,f25,f26,Xw];refine VS.Yq (fun F g=>F 0=ak p (D key) c/\F 1=u/\F 5=ak (am ⟨bc,0,ba⟩) (D L) cap/\F 36=.agg #[j W 4,j W 8,j W 12]/\∃i:Nat,i<=3/\F 37=j W i/\g=h2.setIfInBounds bc (O ((kJ L2 i).map bv++ZE).toArray 5))
   (fun F _=>3-(vi (F 37)).toNat) rfl ⟨f0,f1,f5,rfl,0,mD,rfl,(WK hx).symm⟩ ?_
  clear f0 f1 f5 f25 f26 Xw F;rintro F g ⟨f0,f1,f5,f36,i,hi,f37,rfl⟩;have hO:=Yd (o:=O ((kJ L2 i).map bv++ZE).toArray 5) hx;have wB:=il wA i;have lB:=Gx L2 i;by_cases ZV:i<3
  .have Z4:(i:Int)<3:=mD;have XE:kJ L2 (i+1)=(kJ L2 i).set (4*i+4) ((kJ L2 i).getD (4*i+4) 0/4*4):=rfl;obtain⟨r,hr⟩:=ZP (kJ L2 i);rw[<-hr]at hO wB lB XE ⊢;obtain⟨G,hG⟩:=ZP (h2.setIfInBounds bc (O (r.map bv++ZE).toArray 5));rw[<-hG]at hO ⊢;have n1:=oX ZV;have g1:=Z7 hO (i:=4*i+4) mD;have x1:=wB.getD (4*i+4);unfold bv at g1;obtain⟨x,hxx⟩:=ZP (r.getD (4*i+4) 0);rw[<-hxx]at g1 x1 XE;have e1:=Zgo x x1;have hi1:((4*i+4:Nat):Int)<(D L):=mD;have c1:QF G ⟨bc,4*i+4,ba⟩ (j Y (x/4*4:Nat))=_:=Yz (f:=bv) hO (i:=4*i+4) mD (x/4*4) rfl;simp -implicitDefEqProofs only[go_sem,f0,f1,f5,f36,f37,Z4,aI,bk,n1,hi1,g1,e1,c1];refine⟨⟨f0,f1,f5,f36,i+1,ZV,rfl,?_⟩,?_⟩
   .rw[hG,set_set,XE]
   .simp only[vi,Zt,↓reduceIte,f37];omega
  .have Xw:¬(i:Int)<3:=mD;obtain rfl:i=3:=mD;have c3:((3:Nat):Int)=3:=rfl;rw[c3]at f37 Xw;rw[ZkE]at hO wB lB ⊢;have B3:Zk h.size h (h2.setIfInBounds bc (O ((Qh key).map bv++ZE).toArray 5)):=B2.Zu hbc _;generalize h2.setIfInBounds bc (O ((Qh key).map bv++ZE).toArray 5)=h3 at *;have Zcq:=Ep key;have oc:YB h.size 5 h3 (ak (am ⟨bc,0,ba⟩) (D L) cap) (Qh key):=
    ⟨.inr ⟨bc,cap,ZE,hbc,by rw[l16,Zcq],hO,sW,by rw[Nm,l16,Zcq],mD⟩,wB⟩
   simp -implicitDefEqProofs only[go_sem,f0,f1,f5,f36,f37,Xw];refine (Ke T _ _ (Qh key) 0 oc.bs Zcq mD).use ?_;rintro _ h4 ⟨rfl,b4⟩;have B4:Zk h.size h h4:=B3.trans (b4.mono B3.size);have hR:=OR wB Zcq;have hrv:Y8 (CA (XU (Qh key)) 0)=XU (Qh key):=by rw[Gy hR,b7,b9]
   have hrl:=CO (t:=0) hR mD;have hrn:=Oc (XU (Qh key)) 0;obtain⟨R,hRR⟩:=ZP (CA (XU (Qh key)) 0);rw[<-hRR]at hrv hrl hrn ⊢;have lR:(R.map uv).length=5:=by simpa using hrn
   have hoR:(R.map uv).all YN=true:=by simp[uv,YN]
   have lp:Xd [Value.int U 0,j U 0,j U 0,j U 0,j U 0] 0 (R.map uv)=R.map uv:=Yb lR;simp -implicitDefEqProofs only[go_sem,f0,f1,f5,f36,f37,lR,hoR,lp];obtain⟨bR,hbR⟩:∃b,b=h4.size:=⟨_,rfl⟩
   obtain⟨bA,hbA⟩:∃b,b=h4.size+1:=⟨_,rfl⟩
   obtain⟨H,hH⟩:=ZP (((h4.push (O (R.map uv).toArray 229)).push (O #[j U 0,j U 0,j U 0,j U 0,j U 0] 229)):Hp);have HB:Zk h.size h H:=by rw[hH];exact (B4.Y1 B4.size _).Y1 (by have:=B4.size;simp;omega) _
   have HR:H[bR]? = am (YU R):=by
    rw[hH,hbR,ZF sW,Zd];unfold YU;rw[aF]
   have HA:H[bA]? = am (YU [0,0,0,0,0]):=by
    have:=Zd (h:=(h4.push (O (R.map uv).toArray 229))) (o:=O #[j U 0,j U 0,j U 0,j U 0,j U 0] 229);rw[bn]at this;rw[hH,hbA,this];rfl
   have Zcr:h.size<=bR:=by have:=B4.size;omega
   rw[<-hH,<-hbA,<-hbR];have ZEt:bA=bR+1:=mD;clear hH hbA hbR;have sd0:Bs h (F 1) (data.drop (16*0)):=by rw[f1];exact sd
   have cu0:Pj (F 1):=by rw[f1];exact cu
   refine VS.Yq (fun F g=>F 0=ak p (D key) c/\F 10=an (am ⟨bR,0,ba⟩)/\F 11=an (am ⟨bA,0,ba⟩)/\Zk h.size h g/\g[bR]? = am (YU R)/\∃(k:Nat) (A:List Nat),16*k<(D data)+16/\Bs h (F 1) (data.drop (16*k))/\Pj (F 1)/\g[bA]? = am (YU A)/\(D A)=5/\Y4 134217728 A/\Y8 A%SY=xh (XU (Qh key)) data k)
    (fun F _=>ZsF (F 1)) rfl ⟨f0,rfl,rfl,HB,HR,0,[0,0,0,0,0],mD,sd0,cu0,HA,rfl,Y4.Ma mD mD mD mD mD,rfl⟩ ?_
   clear f0 f1 f5 f36 f37 Xw sd0 cu0 F HB HR HA H;rintro F g ⟨f0,f10,f11,hg,gR,k,A,ZEu,s1,xw,gA,lA5,Pc,Ub⟩;obtain⟨q,d,f1,hqc⟩:=s1.open;rw[f1]at s1 xw;have xw:(data.drop (16*k)).length<=d:=xw;have ZsJ:(data.drop (16*k)).length=(D data)-16*k:=ca;by_cases ZV:16*k<(D data)
   .have hgt:(0:Int)<((data.drop (16*k)).length:Int):=mD;obtain⟨rest,GA⟩:=ZP (data.drop (16*k));have vz:Zku data k=rest.take 16++[1]:=by rw[GA];rfl
    have XE:data.drop (16*(k+1))=rest.drop 16:=by rw[GA,List.drop_drop];congr 1
    have ZkG:Dg rest:=by rw[GA];exact fun x hx=>wd x (bz hx)
    rw[<-GA]at f1 s1 xw hqc hgt ZsJ;clear GA;have z17:(#[Value.int Y 0,j Y 0,j Y 0,j Y 0,j Y 0,j Y 0,j Y 0,j Y 0,j Y 0,j Y 0,j Y 0,j Y 0,j Y 0,j Y 0,j Y 0,j Y 0,j Y 0]:Array Value)=((Q 17 0).map bv).toArray:=rfl;simp -implicitDefEqProofs only[go_sem,f0,f1,f10,f11,hgt,z17];have X1:=Ru rest;refine H5 (E:=5) (E':=231) (c:=(Q 17 0).map bv) Xn TX Zd ((s1.YJ hg).YJ (Zk.push (br _) _)).sl X1 vI ?_;obtain⟨n,hn⟩:=ZP (min (D rest) 16);have hB:(rest.map bv).take n=(rest.take n).map bv:=List.map_take.symm;have hBl:(rest.take n).length=n:=aaa;have ZkH:rest.take n=rest.take 16:=by
     by_cases hc:(D rest)<=16
     .rw[al mD,al mD]
     .rw[hn,Nat.min_eq_right mD]
    rw[<-hn,hB,oY 17 _ mD,hBl,ZkH];rw[ZkH]at hBl;have ZkI:Dg (rest.take 16):=fun x hx=>ZkG x (aX hx);obtain⟨B,hBB⟩:=ZP (rest.take 16);rw[<-hBB]at hBl vz ZkI ⊢;have e17:(B++Q (17-n) 0).set n 1=X8 B:=by rw[<-hBl];exact oU mD
    have ZsK:(n:Int)<17:=mD;have ZyG:((B++Q (17-n) 0).map bv).set n (j Y 1)=(X8 B).map bv:=by rw[<-e17,List.map_set];rfl
    have ZkJ:(B++Q (17-n) 0).length=17:=vI;have ZsL:=hg.size;have ZyH:=Za gR;have ZyI:=Za gA;obtain⟨bw,hbw⟩:=ZP (g.size);have hGR:∀o,((g.push o).setIfInBounds bw (O ((B++Q (17-n) 0).map bv).toArray 231))[bR]? = am (YU R):=fun o=>by
     rw[aa,if_neg mD,ZF mD];exact gR
    have hGA:∀o,((g.push o).setIfInBounds bw (O ((B++Q (17-n) 0).map bv).toArray 231))[bA]? = am (YU A):=fun o=>by
     rw[aa,if_neg mD,ZF mD];exact gA
    have hGW:∀o,((g.push o).setIfInBounds bw (O ((B++Q (17-n) 0).map bv).toArray 231))[bw]? = am (O ((B++Q (17-n) 0).map bv++[]).toArray 231):=fun o=>by
     rw[aF,hbw];exact Yd Zd
    have hGB:∀o,Zk h.size h ((g.push o).setIfInBounds bw (O ((B++Q (17-n) 0).map bv).toArray 231)):=fun o=>(hg.Y1 ZsL _).Zu mD _;have hGS:∀o,((g.push o).setIfInBounds bw (O ((B++Q (17-n) 0).map bv).toArray 231)).size=bw+1:=fun o=>by rw[bh,bn,hbw]
    rw[<-hbw];specialize hGR (O ((Q 17 0).map bv).toArray 231);specialize hGA (O ((Q 17 0).map bv).toArray 231);specialize hGW (O ((Q 17 0).map bv).toArray 231);specialize hGB (O ((Q 17 0).map bv).toArray 231);specialize hGS (O ((Q 17 0).map bv).toArray 231);obtain⟨G1,sY⟩:=ZP (((g.push (O ((Q 17 0).map bv).toArray 231)).setIfInBounds bw (O ((B++Q (17-n) 0).map bv).toArray 231)));rw[<-sY]at hGR hGA hGW hGB hGS ⊢;clear sY;have c1:QF G1 ⟨bw,n,ba⟩ (j Y 1)=_:=Yz (f:=bv) hGW (i:=n) (by rw[ZkJ];omega) 1 rfl;rw[e17]at c1;have hW2:=Yd (o:=O ((X8 B).map bv++[]).toArray 231) hGW;have hR2:(G1.setIfInBounds bw (O ((X8 B).map bv++[]).toArray 231))[bR]? = am (YU R):=by rw[aa,if_neg mD];exact hGR
    have hA2:(G1.setIfInBounds bw (O ((X8 B).map bv++[]).toArray 231))[bA]? = am (YU A):=by rw[aa,if_neg mD];exact hGA
    have Py:Zk h.size h (G1.setIfInBounds bw (O ((X8 B).map bv++[]).toArray 231)):=hGB.Zu mD _;have hS2:(G1.setIfInBounds bw (O ((X8 B).map bv++[]).toArray 231)).size=bw+1:=by rw[bh,hGS]
    obtain⟨G2,ky⟩:=ZP (G1.setIfInBounds bw (O ((X8 B).map bv++[]).toArray 231));rw[<-ky]at c1 hW2 hR2 hA2 Py hS2;clear ky hGR hGA hGW hGB hGS;have l17:=CP (l:=B) mD;have w17:=xr ZkI;have o17:YB h.size 231 G2 (ak (am ⟨bw,0,ba⟩) 17 17) (X8 B):=
     ⟨.inr ⟨bw,17,[],mD,by rw[l17],hW2,sW,by rw[l17];rfl,mD⟩,w17⟩
    have s17:=OQ o17.bs (m:=16) mD 17;have t17:((X8 B).take 16).length=16:=aaa;have g16:=Z7 hW2 (i:=16) mD;unfold bv at g16;have Zgs:=oS (l:=B) mD;have IP:=oR (l:=B) mD;have wt:=OR (l:=(X8 B).take 16) (fun x hx=>w17 x (aX hx)) t17;obtain⟨Z5,IT⟩:=ZP ((X8 B).getD 16 0);rw[<-IT]at g16 Zgs IP;have em:((Z5:Nat):Int)%18446744073709551616=(Z5:Nat):=mD;simp -implicitDefEqProofs only[go_sem,f0,f1,f10,f11,ZsK,aI,ZkJ,c1];refine VS.z (bw+1) [] (.p 0 (.p 1 (.q 2 (.p 3 (.p 5 (.s 4 .nil)))))) mixed sV ?_;simp -implicitDefEqProofs only[go_sem,g16,em];refine (Ke T _ _ ((X8 B).take 16) Z5 s17 t17 Zgs).use ?_;rintro _ G3 ⟨rfl,b3⟩;rw[hS2]at b3;have hR3:=b3.get (k:=bR) mD hR2;have hA3:=b3.get (k:=bA) mD hA2;have hB3:Zk h.size h G3:=Py.trans (b3.mono mD);have hxv:=Gy (t:=Z5) wt;rw[IP]at hxv;have CQ:=CO (t:=Z5) wt Zgs;have hxn:=Oc (XU ((X8 B).take 16)) Z5;obtain⟨X,hX⟩:=ZP (CA (XU ((X8 B).take 16)) Z5);rw[<-hX]at hxv CQ hxn ⊢;rw[<-vz]at hxv;have b3T:Zk (bw+1) G2 G3=True:=eq_true b3;simp -implicitDefEqProofs only[go_sem,b3T];refine VS.Yq (fun F g=>F 0=ak p (D key) c/\F 1=ak q (D rest) d/\F 10=an (am ⟨bR,0,ba⟩)/\F 11=an (am ⟨bA,0,ba⟩)/\F 66=.agg (X.map uv).toArray/\∃i:Nat,i<=5/\F 67=j W i/\g=G3.setIfInBounds bA (YU (SZ A X i)))
     (fun F _=>5-(vi (F 67)).toNat) rfl ⟨f0,f1,f10,f11,rfl,0,mD,rfl,(WK hA3).symm⟩ ?_
    clear f0 f1 f10 f11 F gR gA hg;rintro F g' ⟨f0,f1,f10,f11,f66,i,hi,f67,rfl⟩;have dL:(G3.setIfInBounds bA (YU (SZ A X i)))[bA]? = am (YU (SZ A X i)):=Yd hA3;have lN:(SZ A X i).length=5:=by rw[Ib,lA5]
    have wN:=kK Pc CQ mD mD i;by_cases gI:i<5
    .have wC:(i:Int)<5:=mD;have hnx:SZ A X (i+1)=(SZ A X i).set i ((SZ A X i).getD i 0+X.getD i 0):=rfl;obtain⟨r,hr⟩:=ZP (SZ A X i);rw[<-hr]at dL lN wN hnx ⊢;obtain⟨G,hG⟩:=ZP (G3.setIfInBounds bA (YU r));rw[<-hG]at dL ⊢;have n1:=CG (l:=X) (i:=i) mD;have g1:=Z7 dL (i:=i) mD;unfold uv at g1;have y1:=wN.getD mD i;have y2:=CQ.getD mD i;obtain⟨a,ha⟩:=ZP (r.getD i 0);obtain⟨b,hb⟩:=ZP (X.getD i 0);rw[<-ha]at g1 y1 hnx;rw[<-hb]at n1 y2 hnx;have e1:(a:Int)+(b:Int)=((a+b:Nat):Int):=rfl;have e2:((a+b:Nat):Int)%18446744073709551616=((a+b:Nat):Int):=mD;have c2:QF G ⟨bA,i,ba⟩ (j U (a+b:Nat))=_:=Yz (f:=uv) dL (i:=i) mD (a+b) rfl;simp -implicitDefEqProofs only[go_sem,f0,f1,f10,f11,f66,f67,wC,aI,bk,n1,g1,e1,e2,c2];refine⟨⟨f0,f1,f10,f11,f66,i+1,gI,rfl,?_⟩,?_⟩
     .rw[hG,set_set,hnx];rfl
     .simp only[vi,Zt,↓reduceIte,f67];omega
    .have Zce:¬(i:Int)<5:=mD;obtain rfl:i=5:=mD;have c5:((5:Nat):Int)=5:=rfl;rw[c5]at f67 Zce;obtain⟨wN5,vN5⟩:=xq lA5 hxn Pc CQ;have hR4:(G3.setIfInBounds bA (YU (SZ A X 5)))[bR]? = am (YU R):=by rw[aa,if_neg mD];exact hR3
     have kG:Zk h.size h (G3.setIfInBounds bA (YU (SZ A X 5))):=hB3.Zu mD _;obtain⟨N,hN⟩:=ZP (SZ A X 5);rw[<-hN]at dL lN wN5 vN5 hR4 kG ⊢;generalize G3.setIfInBounds bA (YU N)=G4 at *;have r1:=Oa lN dL;have r2:=Oa hrn hR4;have lNm:(N.map uv).length=5:=by simpa using lN
     have tN:(N.map uv).take 5=N.map uv:=al mD;have tR:(R.map uv).take 5=R.map uv:=al mD;simp -implicitDefEqProofs only[go_sem,f0,f1,f10,f11,f66,f67,Zce,r1,r2];refine (af T G4 N R lN hrn wN5 hrl).use ?_;rintro _ G5 ⟨rfl,b5⟩;obtain⟨w1,w2,w3⟩:=Dc lN hrn wN5 hrl;obtain⟨m1,m2,m3,_⟩:=OP w2 w1;obtain⟨M,hM⟩:=ZP (X4 (VC N R 5));rw[<-hM]at m1 m2 m3 ⊢;have hA5:=b5.get (Za dL) dL;have hR5:=b5.get (Za hR4) hR4;have hB5:Zk h.size h G5:=kG.trans (b5.mono kG.size);have lM:(M.map uv).length=5:=by simpa using m1
     have hoM:(M.map uv).all YN=true:=by simp[uv,YN]
     have w5:=Yh (h:=G5) (b:=bA) (l:=(N.map uv)) (by unfold YU at hA5;rw[aF]at hA5;exact hA5) 0 (M.map uv);rw[if_pos ⟨by simp[lM,lNm],hoM⟩,Yb (by simp[lM,lNm])]at w5;have U3:((D rest):Int)<=d:=mD;obtain⟨mn,hmn⟩:=ZP (min 16 (D rest));have wM:(if ((D rest):Int)<16 then ((D rest):Int) else 16)=((mn:Nat):Int):=by split<;>omega
     have ZsR:(mn:Int)<=(D rest):=mD;have ZkN:rest.drop mn=data.drop (16*(k+1)):=by
      rw[XE];by_cases hc:(D rest)<=16
      .rw[aU mD,aU mD]
      .rw[hmn,Nat.min_eq_left mD]
     have s2:=OK s1 rfl (k:=mn) mD xw (d-mn);rw[ZkN]at s2;have ZkO:Y8 M%SY=xh (XU (Qh key)) data (k+1):=by
      rw[m3,w3,vN5,hxv,hrv,xh,<-Ub,Nat.mul_mod,<-Nat.mod_add_mod,<-Nat.mul_mod]
     simp -implicitDefEqProofs only[go_sem,f0,f1,f10,f11,w5,lM,wM,ZsR,aI,Wj];refine⟨⟨f0,f10,f11,hB5.Zu mD _,?_,k+1,M,mD,s2,?_,?_,m1,m2,ZkO⟩,?_⟩
     .rw[aa,if_neg mD];exact hR5
     .show (D rest)-mn<=d-mn;omega
     .have:=Yd (o:=O (M.map uv).toArray 229) hA5;unfold YU;rw[aF];exact this
     .show (D rest)-mn<(D rest);omega
   .have ZkP:¬(0:Int)<((data.drop (16*k)).length:Int):=mD;have hk2:k=((D data)+15)/16:=mD;rw[hk2]at Ub;obtain⟨rest,GA⟩:=ZP (data.drop (16*k));rw[<-GA]at f1 ZkP;have r1:=Oa lA5 gA;have tA:(A.map uv).take 5=A.map uv:=al (by simp[lA5]);simp -implicitDefEqProofs only[go_sem,f0,f1,f10,f11,ZkP,r1];refine (ag T g A lA5 (Pc.mono KC)).use ?_;rintro _ g6 ⟨rfl,b6⟩;obtain⟨m1,m2,m3,m4⟩:=OP lA5 (Pc.mono KC);obtain⟨q1,q2,q3⟩:=oI m1 m2 m4;rw[m3,Ub]at q3;obtain⟨M,hM⟩:=ZP (P9 (X4 A));rw[<-hM]at q1 q2 q3 ⊢;have hA6:=b6.get (Za gA) gA;have hB6:Zk h.size h g6:=hg.trans (b6.mono hg.size);have lM:(M.map uv).length=5:=by simpa using q1
    have lAm:(A.map uv).length=5:=by simpa using lA5
    have hoM:(M.map uv).all YN=true:=by simp[uv,YN]
    have w5:=Yh (h:=g6) (b:=bA) (l:=(A.map uv)) (by unfold YU at hA6;rw[aF]at hA6;exact hA6) 0 (M.map uv);rw[if_pos ⟨by simp[lM,lAm],hoM⟩,Yb (by simp[lM,lAm])]at w5;have hB7:Zk h.size h (g6.setIfInBounds bA (O (M.map uv).toArray 229)):=hB6.Zu mD _;have hA7:(g6.setIfInBounds bA (O (M.map uv).toArray 229))[bA]? = am (YU M):=by
     have:=Yd (o:=O (M.map uv).toArray 229) hA6;unfold YU;rw[aF];exact this
    obtain⟨g7,hg7⟩:=ZP (g6.setIfInBounds bA (O (M.map uv).toArray 229));rw[<-hg7]at w5 hB7 hA7;clear hg7;have sm:Bs g7 (ak (gF p 1 c 16) 16 (c-16)) ((key.drop 16).take 16):=Zgn (sk.YJ hB7) rfl mD ck _;have Zgt:((key.drop 16).take 16).length=16:=by rw[List.length_take,ca];omega
    have u2:(32:Int)<=c:=mD;have wkl:Dg ((key.drop 16).take 16):=fun x hx=>wk x (bz (aX hx));simp -implicitDefEqProofs only[go_sem,f0,f1,f10,f11,w5,lM,u2,Wj];refine (Ke T _ _ _ 0 sm Zgt mD).use ?_;rintro _ g8 ⟨rfl,b8⟩;have hSv:=Gy (t:=0) (OR wkl Zgt);rw[b7,b9]at hSv;have hSl:=CO (t:=0) (OR wkl Zgt) mD;have hSn:=Oc (XU ((key.drop 16).take 16)) 0;obtain⟨S,hS⟩:=ZP (CA (XU ((key.drop 16).take 16)) 0);rw[<-hS]at hSv hSl hSn ⊢;clear hS;have hA8:=b8.get (Za hA7) hA7;have hB8:Zk h.size h g8:=hB7.trans (b8.mono hB7.size);have lS:(S.map uv).length=5:=by simpa using hSn
    have hoS:(S.map uv).all YN=true:=by simp[uv,YN]
    have lpS:Xd [Value.int U 0,j U 0,j U 0,j U 0,j U 0] 0 (S.map uv)=S.map uv:=Yb lS;simp -implicitDefEqProofs only[go_sem,f0,f1,f10,f11,lS,hoS,lpS,Zgp];have T0:Zck key data=Y8 M+Y8 S:=by rw[q3,hSv];rfl
    have hB9:Zk (g8.size+1) (g8.push (O (S.map uv).toArray 229)) ((g8.push (O (S.map uv).toArray 229)).push (O ((Q 16 0).map bv).toArray 5)):=Zk.push sW _;have hS9:(g8.push (O (S.map uv).toArray 229))[g8.size]? = am (YU S):=by rw[Zd];unfold YU;rw[aF]
    have hA9:(g8.push (O (S.map uv).toArray 229))[bA]? = am (YU M):=by rw[ZF (Za hA8)];exact hA8
    have hH9:Zk h.size h (g8.push (O (S.map uv).toArray 229)):=hB8.Y1 hB8.size _;have o9:YB (g8.size+1) 5 ((g8.push (O (S.map uv).toArray 229)).push (O ((Q 16 0).map bv).toArray 5)) (ak (am ⟨g8.size+1,0,ba⟩) 0 16) []:=by
     refine⟨.inr ⟨g8.size+1,16,(Q 16 0).map bv,br _,rfl,?_,rfl,sW,Nat.zero_le _⟩,fun x hx=>by cases hx⟩;have:=Zd (h:=g8.push (O (S.map uv).toArray 229)) (o:=O ((Q 16 0).map bv).toArray 5);rw[bn]at this;exact this
    have ZsY:=Za hA8;have ZkQ:=hB8.size;have hz9:(g8.push (O (S.map uv).toArray 229)).size=g8.size+1:=sW;obtain⟨bS,hbS⟩:∃b,b=g8.size:=⟨_,rfl⟩
    rw[<-hbS]at hB9 hS9 o9 ZsY ZkQ hz9 ⊢;obtain⟨J,hJ⟩:=ZP (g8.push (O (S.map uv).toArray 229));rw[<-hJ]at hB9 hS9 hA9 hH9 o9 hz9 ⊢;clear hJ;refine VS.Yq (fun F g=>F 11=an (am ⟨bA,0,ba⟩)/\F 16=an (am ⟨bS,0,ba⟩)/\Zk (bS+1) J g/\∃(i n sum bits:Nat) (out:List Nat),i<=5/\F 87=j W i/\F 18=j U sum/\F 19=j U bits/\F 20=j W n/\YB (bS+1) 5 g (F 17) out/\(D out)=n/\bits<8/\26*i=8*n+bits/\sum<8*2 ^ bits/\Zck key data=XU out+256 ^ n*(sum+2 ^ bits*Lb (M.drop i) (S.drop i)))
     (fun F _=>5-(vi (F 87)).toNat) rfl ⟨f11,rfl,hB9,0,0,0,0,[],mD,rfl,rfl,rfl,rfl,o9,rfl,mD,mD,mD,by rw[T0,cd,cd,ar _ _ mD];simp[XU]⟩ ?_
    clear f0 f1 f10 f11 F hB9 o9;rintro F g' ⟨f11,f16,FV,i,n,sum,bits,out,hi,f87,f18,f19,f20,ho,hol,hb8,hbn,po,hT⟩;have gA':=FV.get (k:=bA) mD hA9;have gS':=FV.get (k:=bS) mD hS9;have ZkS:=FV.size;by_cases ZV:i<5
    .have Z4:(i:Int)<5:=mD;rw[iq mD mD]at hT;have g1:=Z7 gA' (i:=i) mD;have g2:=Z7 gS' (i:=i) mD;unfold uv at g1 g2;have y1:=q2.getD mD i;have y2:=hSl.getD mD i;obtain⟨a,ha⟩:=ZP (M.getD i 0);obtain⟨b,hb⟩:=ZP (S.getD i 0);rw[<-ha]at g1 y1 hT;rw[<-hb]at g2 y2 hT;have hT2:=Zcp hT;have au:=ph (c:=a+b) po mD;have p8:=oZ hb8;have DX:(a+b)*2 ^ bits<=268435455*128:=Nat.mul_le_mul mD p8;have Zs0:sum<1024:=mD;have e1:(a:Int)+(b:Int)=((a+b:Nat):Int):=rfl;have e2:((a+b:Nat):Int)%18446744073709551616=((a+b:Nat):Int):=mD;have e3:Xq U ((a+b:Nat):Int) (bits:Int)=(((a+b)*2 ^ bits:Nat):Int):=by
      rw[He _ _ mD,Nat.mod_eq_of_lt mD]
     obtain⟨cc,hcc⟩:=ZP ((a+b)*2 ^ bits);rw[<-hcc]at e3 DX hT2 au;have e4:(sum:Int)+(cc:Int)=((sum+cc:Nat):Int):=rfl;have e5:((sum+cc:Nat):Int)%18446744073709551616=((sum+cc:Nat):Int):=mD;have e6:(bits:Int)+26=((bits+26:Nat):Int):=rfl;have e7:((bits+26:Nat):Int)%18446744073709551616=((bits+26:Nat):Int):=mD;have e8:¬(bits:Int)<0:=mD;simp -implicitDefEqProofs only[go_sem,f11,f16,f18,f19,f20,f87,Z4];refine VS.q mixed sV ?_;simp -implicitDefEqProofs only[go_sem,f11,f16,f18,f19,f20,f87,Z4,aI,bk,g1,g2,e1,e2,e3,e4,e5,e6,e7,e8];refine VS.Yq (fun F g=>F 11=an (am ⟨bA,0,ba⟩)/\F 16=an (am ⟨bS,0,ba⟩)/\F 87=j W i/\Zk (bS+1) J g/\∃(n sum bits:Nat) (out:List Nat),F 18=j U sum/\F 19=j U bits/\F 20=j W n/\YB (bS+1) 5 g (F 17) out/\(D out)=n/\bits<34/\26*(i+1)=8*n+bits/\sum<8*2 ^ bits/\Zck key data=XU out+256 ^ n*(sum+2 ^ bits*Lb (M.drop (i+1)) (S.drop (i+1))))
      (fun F _=>(vi (F 19)).toNat) rfl ⟨f11,f16,f87,FV,n,sum+cc,bits+26,out,rfl,rfl,f20,ho,hol,mD,mD,au,hT2⟩ ?_
     clear f11 f16 f18 f19 f20 f87 ho hol hT hT2 po au hbn hb8 FV gA' gS' ZkS g1 g2 e3 e4 e5 e6 e7 e8 p8 DX hcc Zs0 F cc;clear n sum bits out g';rintro F g' ⟨f11,f16,f87,FV,n,sum,bits,out,f18,f19,f20,ho,hol,hb8,hbn,po,hT⟩;have ZkS:=FV.size;by_cases hb:8<=bits
     .have D6:(8:Int)<=bits:=mD;have hn1:(n:Int)<16:=mD;have au:=pj po hb;have hT2:=xu hb hT;have hp:2 ^ bits<=2 ^ 34:=bx KC mD;have LN:sum<18446744073709551616:=Nat.lt_of_lt_of_le po (Nat.le_trans (Nat.mul_le_mul_left 8 hp) KC);have em:((sum:Nat):Int)%256=((sum%256:Nat):Int):=rfl;have es:Jc U (sum:Int) 8=((sum/256:Nat):Int):=OO sum 8 KC;have eb:(bits:Int)-8=((bits-8:Nat):Int):=mD;have eb2:((bits-8:Nat):Int)%18446744073709551616=((bits-8:Nat):Int):=mD;simp -implicitDefEqProofs only[go_sem,f11,f16,f18,f19,f20,f87,D6,hn1,em];have hX:sum%256<256:=mD;refine ZR (E:=5) (B:=bS+1) Xn b2 TX SN SM (ho.push _) vI (Bs.one hX 1) vI ?_;intro v' h' NP JU _;simp -implicitDefEqProofs only[go_sem,f11,f16,f18,f19,f20,f87,es,eb,eb2];refine⟨⟨f11,f16,f87,(FV.Y1 mD _).trans JU,n+1,sum/256,bits-8,out++[sum%256],rfl,rfl,rfl,NP,by simp[hol],mD,mD,au,?_⟩,?_⟩
      .rw[hT2,ir,hol]
      .simp only[vi,Zt,↓reduceIte,Nat.reduceEqDiff,f19];omega
     .have D6:¬(8:Int)<=bits:=mD;have e9:(i:Int)+1=((i+1:Nat):Int):=rfl;simp -implicitDefEqProofs only[go_sem,f11,f16,f18,f19,f20,f87,D6,e9];refine⟨⟨f11,f16,FV,i+1,n,sum,bits,out,ZV,rfl,f18,f19,f20,ho,hol,mD,hbn,po,hT⟩,?_⟩;simp only[vi,Zt,↓reduceIte,f87];omega
    .have Xw:¬(i:Int)<5:=mD;obtain rfl:i=5:=mD;have c5:((5:Nat):Int)=5:=rfl;rw[c5]at f87 Xw;obtain rfl:n=16:=mD;have e0:Lb (M.drop 5) (S.drop 5)=0:=by rw[aU mD,aU mD];rfl
     rw[e0,b7,b9]at hT;have CN:=oV ho.byte hol hT;have htl:ie key data=out:=CN.symm;simp -implicitDefEqProofs only[go_sem,f11,f16,f18,f19,f20,f87,Xw];rw[htl];exact⟨ho.mono mD,hH9.trans (FV.mono mD)⟩
theorem av(T:World)(h:Hp)(v u:Value)(key data:List Nat)(sk:Bs h v key)(sd:Bs h u data)(ck:Pj v)(cu:Pj u):
  Zg Tryz.prog T 118 #[v,u] h fun v' h'=>xj h.size h' v' key data/\Zk h.size h h':=by
 obtain⟨p,c,rfl,hkc⟩:=sk.open;obtain⟨q,d,rfl,hdc⟩:=sd.open;refine Zg.XK [_,_] Tryz.func118 ?_;unfold xj;by_cases hk:(D key)=32
 .by_cases hd:4000<(D data)
  .have hd':4000<((D data):Int):=mD;have O9:((D key):Int)=32:=mD;have e:Sp key data=1:=by unfold Sp;rw[if_pos (.inr hd)]
   rw[e];simp -implicitDefEqProofs only[go_sem,hd',O9];exact⟨_,rfl,YB.nil _ _ _⟩
  .have hd':¬4000<((D data):Int):=mD;have O9:((D key):Int)=32:=mD;have e:Sp key data=0:=by unfold Sp;rw[if_neg mD]
   rw[e,if_pos rfl];simp -implicitDefEqProofs only[go_sem,hd',O9];refine (iu T _ _ _ key data sk sd hk mD ck cu).use ?_;rintro v1 h1 ⟨o1,b1⟩;simp -implicitDefEqProofs only[go_sem];exact⟨⟨_,rfl,o1⟩,b1⟩
 .have O9:¬((D key):Int)=32:=mD;have e:Sp key data=1:=by unfold Sp;rw[if_pos (.inl hk)]
  rw[e];simp -implicitDefEqProofs only[go_sem,O9];exact⟨_,rfl,YB.nil _ _ _⟩
end Go.Proofs.YtnhfdnlcpdbjlaaGreatDoor
