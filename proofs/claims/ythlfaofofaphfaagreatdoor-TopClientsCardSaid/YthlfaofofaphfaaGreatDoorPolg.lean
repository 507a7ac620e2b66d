/- Part Polg. -/
import Derived.Test.YthlfaofofaphfaaGreatDoorPik
import Derived.Test.YthlfaofofaphfaaGreatDoorW14
open Go.Value renaming int→j,slice→al,pointer→aw
open Go.IntKind renaming u64→U,i64→W,u8→Y
open Go.Obj renaming cells→O
open Go.Proofs.Tryz renaming underlying28→b9
open List renaming length→D,replicate→Q,getD_eq_getElem?_getD→Z,take_of_length_le→am,getElem?_append_right→aU,append_nil→ba,getElem?_eq_getElem→bd,drop_of_length_le→be,mem_of_mem_take→bf,append_assoc→bk,drop_eq_getElem_cons→bl,getElem?_replicate→bp,length_set→bx,getElem?_eq_none→bB,mem_of_mem_drop→bT,replicate_succ→b0,length_drop→cf,drop_zero→cg
open Nat renaming mul_assoc→bh,pow_add→bn,zero_add→br,mul_add→bC,le_refl→bG,pow_le_pow_right→bK,add_assoc→b2,add_sub_cancel→b7,mul_zero→ca,add_zero→cd
open Int renaming toNat_natCast→bb
open Option renaming some→au,none→bg
open Array renaming getElem?_setIfInBounds→aa,size_setIfInBounds→bo,size_push→bz
namespace Go.Proofs.YthlfaofofaphfaaGreatDoor
open Go Go.V
set_option linter.unusedSimpArgs false
set_option linter.unusedVariables false
set_option maxRecDepth 100000
variable{l:List Nat}
def io(l:List Nat):Nat->List Nat
 | 0=>l
 | i+1=>(io l i).set (4*i+3) ((io l i).getD (4*i+3) 0%16)
def lH(l:List Nat):Nat->List Nat
 | 0=>l
 | i+1=>(lH l i).set (4*i+4) ((lH l i).getD (4*i+4) 0/4*4)
theorem GP(l:List Nat):∀i,(io l i).length=(D l)
 | 0=>rfl
 | i+1=>by rw[io,bx,GP l i]
theorem GQ(l:List Nat):∀i,(lH l i).length=(D l)
 | 0=>rfl
 | i+1=>by rw[lH,bx,GQ l i]
theorem iq(w:Dg l):∀i,Dg (io l i)
 | 0=>w
 | i+1=>(iq w i).set _ (by have:=(iq w i).getD (4*i+3);omega)
theorem it(w:Dg l):∀i,Dg (lH l i)
 | 0=>w
 | i+1=>(it w i).set _ (by have:=(it w i).getD (4*i+4);omega)
theorem Zcp(hl:(D l)=16):lH (io l 4) 3=Qs l:=by
 match l,hl with
 | [a0,a1,a2,a3,a4,a5,a6,a7,a8,a9,a10,a11,a12,a13,a14,a15],_=>rfl
theorem aG(key:List Nat):Qs key=Qs (key.take 16):=by
 unfold Qs;apply List.map_congr_left;intro i hi;have kK:i<16:=by simpa using hi
 have e:(key.take 16).getD i 0=key.getD i 0:=by
  rw[Z,List.getElem?_take,if_pos kK,Z]
 unfold xy;rw[e]
theorem pK{key:List Nat}(hk:(D key)=32):lH (io (key.take 16) 4) 3=Qs key:=by
 rw[aG];exact Zcp aad
theorem OP(w:Dg l)(hl:(D l)=16):XW l<340282366920938463463374607431768211456:=by
 have:=To w (n:=16) nc;exact this
theorem Oe(n t:Nat):(CW n t).length=5:=rfl
theorem Bb{n t:Nat}(hn:n<340282366920938463463374607431768211456)(ht:t<=1):Y0 67108864 (CW n t):=
 Y0.I7 nc nc nc nc nc
theorem GR{n t:Nat}(hn:n<340282366920938463463374607431768211456):Y6 (CW n t)=n+340282366920938463463374607431768211456*t:=by
 simp only[CW,Y6];omega
def S4(a x:List Nat):Nat->List Nat
 | 0=>a
 | i+1=>(S4 a x i).set i ((S4 a x i).getD i 0+x.getD i 0)
theorem Ir(a x:List Nat):∀i,(S4 a x i).length=(D a)
 | 0=>rfl
 | i+1=>by rw[S4,bx,Ir a x i]
theorem lI{a x:List Nat}{K L:Nat}(wa:Y0 K a)(wx:Y0 L x)(hK:0<K)(hL:0<L):∀i,Y0 (K+i*L) (S4 a x i)
 | 0=>by rw[Nat.zero_mul];exact wa
 | i+1=>by
  have h:=lI wa wx hK hL i;have q1:=h.getD nc i;have q2:=wx.getD hL i;rw[S4,Nat.add_mul,Nat.one_mul];exact (h.mono nc).set _ _ nc
theorem xK{a x:List Nat}(ha:(D a)=5)(hx:(D x)=5)(wa:Y0 134217728 a)(wx:Y0 67108864 x):Y0 268435456 (S4 a x 5)/\Y6 (S4 a x 5)=Y6 a+Y6 x:=by
 obtain⟨a0,a1,a2,a3,a4,rfl⟩:=I7 ha;obtain⟨x0,x1,x2,x3,x4,rfl⟩:=I7 hx;obtain⟨w0,w1,w2,w3,w4⟩:=wa.Zcj;obtain⟨u0,u1,u2,u3,u4⟩:=wx.Zcj;have e:S4 [a0,a1,a2,a3,a4] [x0,x1,x2,x3,x4] 5=[a0+x0,a1+x1,a2+x2,a3+x3,a4+x4]:=rfl;rw[e];exact⟨Y0.I7 nc nc nc nc nc,by simp only[Y6];omega⟩
theorem GS(a b:List Nat):XW (a++b)=XW a+256 ^ (D a)*XW b:=by
 induction a with
 | nil=>simp[XW]
 | cons x a ih=>simp only[List.cons_append,XW,ih,List.length_cons,Nat.pow_succ,bC,b2];congr 2;rw[<-bh,Nat.mul_comm 256]
theorem iu(n:Nat):XW (Q n 0)=0:=by
 induction n with
 | zero=>rfl
 | succ n ih=>rw[b0,XW,ih]
def X9(l:List Nat):List Nat:=l++[1]++Q (16-(D l)) 0
theorem Bc(hl:(D l)<=16):(X9 l).length=17:=by simp[X9];omega
theorem pL(hl:(D l)<=16):XW ((X9 l).take 16)+340282366920938463463374607431768211456*(X9 l).getD 16 0=XW (l++[1]):=by
 by_cases h:(D l)=16
 .have e1:(X9 l).take 16=l:=by unfold X9;rw[bk,List.take_left' h]
  have e2:(X9 l).getD 16 0=1:=by
   unfold X9;rw[Z,bk,aU nc,h];rfl
  rw[e1,e2,GS,h];rfl
 .have e2:(X9 l).getD 16 0=0:=by
   unfold X9;rw[Z,aU KQ,bp];split<;>rfl
  have e1:(X9 l).take 16=(l++[1])++Q (15-(D l)) 0:=by
   unfold X9;rw[List.take_append,am KQ,List.take_replicate]
   congr 2
   simp;omega
  rw[e1,e2,GS,iu];omega
theorem pM(hl:(D l)<=16):(X9 l).getD 16 0<=1:=by
 by_cases h:(D l)=16
 .have e2:(X9 l).getD 16 0=1:=by
   unfold X9;rw[Z,bk,aU nc,h];rfl
  omega
 .have e2:(X9 l).getD 16 0=0:=by
   unfold X9;rw[Z,aU KQ,bp];split<;>rfl
  omega
theorem xM(w:Dg l):Dg (X9 l):=by
 intro x hx;unfold X9 at hx;simp only[List.mem_append,List.mem_singleton,List.mem_replicate]at hx;rcases hx with (h|h)|h
 .exact w x h
 .omega
 .omega
theorem pN(hl:(D l)<=16):(l++Q (17-(D l)) 0).set (D l) 1=X9 l:=by
 have e:Q (17-(D l)) 0=0 :: Q (16-(D l)) 0:=by rw[<-b0];congr 1;omega
 rw[e,List.set_append_right _ _ (bG _),Nat.sub_self,List.set_cons_zero];unfold X9;rw[bk];rfl
def Lf:List Nat->List Nat->Nat
 | x :: l,y :: k=>(x+y)+67108864*Lf l k
 | _,_=>0
theorem aH:∀(l k:List Nat),(D l)=(D k)->Lf l k=Y6 l+Y6 k
 | [],[],_=>rfl
 | x :: l,y :: k,h=>by simp only[Lf,Y6];rw[aH l k (by simpa using h)];omega
theorem pO{out:List Nat}{t R:Nat}(w:Dg out)(hl:(D out)=16)(h:t=XW out+256 ^ 16*R):out=(List.range 16).map fun i=>t/256 ^ i%256:=by
 apply List.ext_getElem?;intro i;by_cases hi:i<16
 .rw[List.getElem?_map,List.getElem?_range hi];have e:=gY w i;rw[Z,bd nc]at e;rw[bd nc];simp only[Option.map_some,Option.some.injEq];simp only[Option.getD_some]at e;rw[e,h];have e2:256 ^ 16*R=256 ^ i*(256*(256 ^ (15-i)*R)):=by
   rw[<-bh 256,<-bh,<-Nat.pow_succ',<-bn]
   congr 2;omega
  rw[e2,Nat.add_mul_div_left _ _ (Nat.pow_pos nc),Nat.add_mul_mod_self_left]
 .rw[bB nc,bB KQ]
theorem xN{T v n s B R:Nat}(hB:256<=B)(hd:B%256=0)(h:T=v+n*(s+B*R)):T=v+n*(s%256)+n*256*(s/256+B/256*R):=by
 have e:s+B*R=s%256+256*(s/256+B/256*R):=by
  have e1:B=256*(B/256):=nc;have e2:B*R=256*(B/256*R):=by rw[<-bh,<-e1]
  have e3:=Nat.mod_add_div s 256;rw[bC,e2];omega
 rw[h,e,bC,<-bh,<-b2]
theorem pP{i:Nat}(hi:i<4):nth [Value.int W 3,j W 7,j W 11,j W 15] i=au (j W ((4*i+3:Nat):Int)):=by
 match i,hi with
 | 0,_=>rfl
 | 1,_=>rfl
 | 2,_=>rfl
 | 3,_=>rfl
theorem pQ{i:Nat}(hi:i<3):nth [Value.int W 4,j W 8,j W 12] i=au (j W ((4*i+4:Nat):Int)):=by
 match i,hi with
 | 0,_=>rfl
 | 1,_=>rfl
 | 2,_=>rfl
theorem ZkO(x:Nat)(hx:x<256):YM .and Y (x:Int) 15=((x%16:Nat):Int):=by
 have h:=vD x 15 hx aaa;have e:x &&& 15=x%16:=Nat.and_two_pow_sub_one_eq_mod x 4;rw[e]at h;exact h
theorem Zgk(x:Nat)(hx:x<256):YM .and Y (x:Int) 252=((x/4*4:Nat):Int):=by
 have h:=vD x 252 hx aaa;have e:x &&& 252=x/4*4:=by
  have:∀y:Fin 256,y.val &&& 252=y.val/4*4:=aaa;exact this ⟨x,hx⟩
 rw[e]at h;exact h
def ZsB:Value->Nat
 | al _ l _=>l
 | _=>0
theorem pR(n:Nat)(vs:List Nat)(h:(D vs)<=n):Y9 ((Q n 0).map bv) 0 (vs.map bv)=(vs++Q (n-(D vs)) 0).map bv:=by
 rw[UM _ _ (by simpa using h),List.length_map,<-List.map_drop,List.drop_replicate,List.map_append]
theorem iw{M S:List Nat}{i:Nat}(hM:i<(D M))(hS:i<(D S)):Lf (M.drop i) (S.drop i)=(M.getD i 0+S.getD i 0)+67108864*Lf (M.drop (i+1)) (S.drop (i+1)):=by
 rw[bl hM,bl hS,Lf,Z,Z,bd hM,bd hS];rfl
theorem Zcq{T v n s b c R:Nat}(h:T=v+n*(s+2 ^ b*(c+67108864*R))):T=v+n*(s+c*2 ^ b+2 ^ (b+26)*R):=by
 rw[h,bC (2 ^ b),Nat.mul_comm (2 ^ b) c,bn,<-bh (2 ^ b),b2]
theorem pS{b:Nat}(h:b<8):2 ^ b<=128:=by
 have:=bK (show 0<2 by decide) (show b<=7 by omega);exact this
theorem pT{s c b:Nat}(hs:s<8*2 ^ b)(hc:c<268435456):s+c*2 ^ b<8*2 ^ (b+26):=by
 have h1:c*2 ^ b<=268435455*2 ^ b:=Nat.mul_le_mul_right _ nc;rw[bn];have:2 ^ 26=67108864:=rfl;rw[this];omega
theorem pU{s b:Nat}(hs:s<8*2 ^ b)(hb:8<=b):s/256<8*2 ^ (b-8):=by
 have:2 ^ b=2 ^ (b-8)*256:=by
  have e:b=b-8+8:=nc;rw[e,bn,b7]
 rw[this]at hs;omega
theorem xO{T v n s b R:Nat}(hb:8<=b)(h:T=v+256 ^ n*(s+2 ^ b*R)):T=v+256 ^ n*(s%256)+256 ^ (n+1)*(s/256+2 ^ (b-8)*R):=by
 have e:2 ^ b=2 ^ (b-8)*256:=by
  have e:b=b-8+8:=nc;rw[e,bn,b7]
 have hp:0<2 ^ (b-8):=Nat.pow_pos nc;have:=xN (B:=2 ^ b) (by rw[e];omega) (by rw[e];omega) h;rw[show 2 ^ b/256=2 ^ (b-8) by rw[e,Nat.mul_div_cancel _ nc]]at this;rw[Nat.pow_succ];exact this
theorem ix(l:List Nat)(x:Nat):XW (l++[x])=XW l+256 ^ (D l)*x:=by rw[GS];rfl
theorem Zgl:(Qf 16 [Value.int Y 0])=(Q 16 0).map bv:=rfl
set_option maxHeartbeats 2000000 in
theorem iy(T:World)(h:Hp)(v u:Value)(key data:List Nat)(sk:Bs h v key)(sd:Bs h u data)(hk:(D key)=32)(hd:(D data)<=4000)(ck:Ph v)(cu:Ph u):
  Zd Tryz.prog T 80 #[v,u] h fun v' h'=>Yx h.size 5 h' v' (ii key data)/\Zk h.size h h':=by
 have wk:=sk.byte;have wd:=sd.byte;obtain⟨p,c,rfl,hkc⟩:=sk.VA;have ck:(D key)<=c:=ck;have l16:(key.take 16).length=16:=aad;have s16:=OO sk (m:=16) nc c;have c16:(16:Int)<=c:=nc;refine Zd.XS [_,_] Tryz.func80 ?_;simp -implicitDefEqProofs only[go_sem,c16];refine ZK (E:=5) (B:=h.size) Xg b9 Ti T4 T3 (Yx.nil _ _ _) (bG _) (by rw[hk]at sk;simpa using s16) (by rw[l16];decide) ?_;intro v1 h1 o1 b1 _;rw[List.nil_append]at o1;have o1n:=o1.Zq;rcases o1n with⟨_,hm,_⟩|⟨bc,cap,ZG,hbc,rfl,MM,JZ,Ni,W0⟩
 .omega
 obtain⟨L,hL⟩:=ZQ (key.take 16);have wL:Dg L:=by rw[hL];exact fun x hx=>wk x (bf hx)
 have ZkP:lH (io L 4) 3=Qs key:=by rw[hL];exact pK hk
 rw[<-hL]at l16 MM JZ Ni W0 ⊢;clear o1 s16 hL;have ZEv:=Za MM;simp -implicitDefEqProofs only[go_sem];refine VS.Yj (fun F g=>F 0=al p (D key) c/\F 1=u/\F 5=al (au ⟨bc,0,bg⟩) (D L) cap/\F 25=.agg #[j W 3,j W 7,j W 11,j W 15]/\∃i:Nat,i<=4/\F 26=j W i/\g=h1.setIfInBounds bc (O ((io L i).map bv++ZG).toArray 5))
  (fun F _=>4-(vi (F 26)).toNat) rfl ⟨rfl,rfl,rfl,rfl,0,nc,rfl,(Vd MM).symm⟩ ?_
 rintro F g ⟨f0,f1,f5,f25,i,hi,f26,rfl⟩;have hx:=Yd (o:=O ((io L i).map bv++ZG).toArray 5) MM;have wA:=iq wL i;have lA:=GP L i;by_cases ZU:i<4
 .have Z8:(i:Int)<4:=nc;have XC:io L (i+1)=(io L i).set (4*i+3) ((io L i).getD (4*i+3) 0%16):=rfl;obtain⟨r,hr⟩:=ZQ (io L i);rw[<-hr]at hx wA lA XC ⊢;obtain⟨G,hG⟩:=ZQ (h1.setIfInBounds bc (O (r.map bv++ZG).toArray 5));rw[<-hG]at hx ⊢;have n1:=pP ZU;have g1:=Z6 hx (i:=4*i+3) nc;have x1:=wA.getD (4*i+3);unfold bv at g1;obtain⟨x,hxx⟩:=ZQ (r.getD (4*i+3) 0);rw[<-hxx]at g1 x1 XC;have e1:=ZkO x x1;have hi1:((4*i+3:Nat):Int)<(D L):=nc;have c1:QP G ⟨bc,4*i+3,bg⟩ (j Y (x%16:Nat))=_:=Yu (f:=bv) hx (i:=4*i+3) nc (x%16) rfl;simp -implicitDefEqProofs only[go_sem,f0,f1,f5,f25,f26,Z8,bb,br,n1,hi1,g1,e1,c1];refine⟨⟨f0,f1,f5,f25,i+1,ZU,rfl,?_⟩,?_⟩
  .rw[hG,set_set,XC]
  .simp only[vi,Zr,↓reduceIte,f26];omega
 .have Xp:¬(i:Int)<4:=nc;obtain rfl:i=4:=nc;have c4:((4:Nat):Int)=4:=rfl;rw[c4]at f26 Xp;obtain⟨L2,hL2⟩:=ZQ (io L 4);rw[<-hL2]at hx wA lA ZkP ⊢;have B2:Zk h.size h (h1.setIfInBounds bc (O (L2.map bv++ZG).toArray 5)):=b1.Zt hbc _;generalize h1.setIfInBounds bc (O (L2.map bv++ZG).toArray 5)=h2 at *;clear hL2;simp -implicitDefEqProofs only[go_sem,f0,f1,f5,f25,f26,Xp];refine VS.Yj (fun F g=>F 0=al p (D key) c/\F 1=u/\F 5=al (au ⟨bc,0,bg⟩) (D L) cap/\F 36=.agg #[j W 4,j W 8,j W 12]/\∃i:Nat,i<=3/\F 37=j W i/\g=h2.setIfInBounds bc (O ((lH L2 i).map bv++ZG).toArray 5))
   (fun F _=>3-(vi (F 37)).toNat) rfl ⟨f0,f1,f5,rfl,0,nc,rfl,(Vd hx).symm⟩ ?_
  clear f0 f1 f5 f25 f26 Xp F;rintro F g ⟨f0,f1,f5,f36,i,hi,f37,rfl⟩;have ic:=Yd (o:=O ((lH L2 i).map bv++ZG).toArray 5) hx;have wB:=it wA i;have lB:=GQ L2 i;by_cases ZU:i<3
  .have Z8:(i:Int)<3:=nc;have XC:lH L2 (i+1)=(lH L2 i).set (4*i+4) ((lH L2 i).getD (4*i+4) 0/4*4):=rfl;obtain⟨r,hr⟩:=ZQ (lH L2 i);rw[<-hr]at ic wB lB XC ⊢;obtain⟨G,hG⟩:=ZQ (h2.setIfInBounds bc (O (r.map bv++ZG).toArray 5));rw[<-hG]at ic ⊢;have n1:=pQ ZU;have g1:=Z6 ic (i:=4*i+4) nc;have x1:=wB.getD (4*i+4);unfold bv at g1;obtain⟨x,hxx⟩:=ZQ (r.getD (4*i+4) 0);rw[<-hxx]at g1 x1 XC;have e1:=Zgk x x1;have hi1:((4*i+4:Nat):Int)<(D L):=nc;have c1:QP G ⟨bc,4*i+4,bg⟩ (j Y (x/4*4:Nat))=_:=Yu (f:=bv) ic (i:=4*i+4) nc (x/4*4) rfl;simp -implicitDefEqProofs only[go_sem,f0,f1,f5,f36,f37,Z8,bb,br,n1,hi1,g1,e1,c1];refine⟨⟨f0,f1,f5,f36,i+1,ZU,rfl,?_⟩,?_⟩
   .rw[hG,set_set,XC]
   .simp only[vi,Zr,↓reduceIte,f37];omega
  .have Xp:¬(i:Int)<3:=nc;obtain rfl:i=3:=nc;have c3:((3:Nat):Int)=3:=rfl;rw[c3]at f37 Xp;rw[ZkP]at ic wB lB ⊢;have B3:Zk h.size h (h2.setIfInBounds bc (O ((Qs key).map bv++ZG).toArray 5)):=B2.Zt hbc _;generalize h2.setIfInBounds bc (O ((Qs key).map bv++ZG).toArray 5)=h3 at *;have Zcr:=ED key;have oc:Yx h.size 5 h3 (al (au ⟨bc,0,bg⟩) (D L) cap) (Qs key):=
    ⟨.inr ⟨bc,cap,ZG,hbc,by rw[l16,Zcr],ic,Hg,by rw[Ni,l16,Zcr],nc⟩,wB⟩
   simp -implicitDefEqProofs only[go_sem,f0,f1,f5,f36,f37,Xp];refine (Kg T _ _ (Qs key) 0 oc.bs Zcr nc).use ?_;rintro _ h4 ⟨rfl,b4⟩;have B4:Zk h.size h h4:=B3.trans (b4.mono B3.size);have hR:=OP wB Zcr;have hrv:Y6 (CW (XW (Qs key)) 0)=XW (Qs key):=by rw[GR hR,ca,cd]
   have hrl:=Bb (t:=0) hR nc;have hrn:=Oe (XW (Qs key)) 0;obtain⟨R,hRR⟩:=ZQ (CW (XW (Qs key)) 0);rw[<-hRR]at hrv hrl hrn ⊢;have lR:(R.map uv).length=5:=by simpa using hrn
   have hoR:(R.map uv).all YC=true:=by simp[uv,YC]
   have lp:Y9 [Value.int U 0,j U 0,j U 0,j U 0,j U 0] 0 (R.map uv)=R.map uv:=Z3 lR;simp -implicitDefEqProofs only[go_sem,f0,f1,f5,f36,f37,lR,hoR,lp];obtain⟨bR,hbR⟩:∃b,b=h4.size:=⟨_,rfl⟩
   obtain⟨bA,hbA⟩:∃b,b=h4.size+1:=⟨_,rfl⟩
   obtain⟨H,hH⟩:=ZQ (((h4.push (O (R.map uv).toArray 194)).push (O #[j U 0,j U 0,j U 0,j U 0,j U 0] 194)):Hp);have HB:Zk h.size h H:=by rw[hH];exact (B4.YU B4.size _).YU (by have:=B4.size;simp;omega) _
   have HR:H[bR]? = au (YT R):=by
    rw[hH,hbR,ZJ Hg,Zc];unfold YT;rw[ba]
   have HA:H[bA]? = au (YT [0,0,0,0,0]):=by
    have:=Zc (h:=(h4.push (O (R.map uv).toArray 194))) (o:=O #[j U 0,j U 0,j U 0,j U 0,j U 0] 194);rw[bz]at this;rw[hH,hbA,this];rfl
   have ZkR:h.size<=bR:=by have:=B4.size;omega
   rw[<-hH,<-hbA,<-hbR];have ZEy:bA=bR+1:=nc;clear hH hbA hbR;have sd0:Bs h (F 1) (data.drop (16*0)):=by rw[f1];exact sd
   have cu0:Ph (F 1):=by rw[f1];exact cu
   refine VS.Yj (fun F g=>F 0=al p (D key) c/\F 10=aw (au ⟨bR,0,bg⟩)/\F 11=aw (au ⟨bA,0,bg⟩)/\Zk h.size h g/\g[bR]? = au (YT R)/\∃(k:Nat) (A:List Nat),16*k<(D data)+16/\Bs h (F 1) (data.drop (16*k))/\Ph (F 1)/\g[bA]? = au (YT A)/\(D A)=5/\Y0 134217728 A/\Y6 A%S3=xz (XW (Qs key)) data k)
    (fun F _=>ZsB (F 1)) rfl ⟨f0,rfl,rfl,HB,HR,0,[0,0,0,0,0],nc,sd0,cu0,HA,rfl,Y0.I7 nc nc nc nc nc,rfl⟩ ?_
   clear f0 f1 f5 f36 f37 Xp sd0 cu0 F HB HR HA H;rintro F g ⟨f0,f10,f11,hg,gR,k,A,ZEz,s1,xP,gA,lA5,Pc,Uo⟩;obtain⟨q,d,f1,hqc⟩:=s1.open;rw[f1]at s1 xP;have xP:(data.drop (16*k)).length<=d:=xP;have ZsF:(data.drop (16*k)).length=(D data)-16*k:=cf;by_cases ZU:16*k<(D data)
   .have hgt:(0:Int)<((data.drop (16*k)).length:Int):=nc;obtain⟨rest,GU⟩:=ZQ (data.drop (16*k));have vK:ZkG data k=rest.take 16++[1]:=by rw[GU];rfl
    have XC:data.drop (16*(k+1))=rest.drop 16:=by rw[GU,List.drop_drop];congr 1
    have ZkS:Dg rest:=by rw[GU];exact fun x hx=>wd x (bT hx)
    rw[<-GU]at f1 s1 xP hqc hgt ZsF;clear GU;have z17:(#[Value.int Y 0,j Y 0,j Y 0,j Y 0,j Y 0,j Y 0,j Y 0,j Y 0,j Y 0,j Y 0,j Y 0,j Y 0,j Y 0,j Y 0,j Y 0,j Y 0,j Y 0]:Array Value)=((Q 17 0).map bv).toArray:=rfl;simp -implicitDefEqProofs only[go_sem,f0,f1,f10,f11,hgt,z17];have XV:=Rw rest;refine Gn (E:=5) (E':=196) (c:=(Q 17 0).map bv) Xg Ti Zc ((s1.Yy hg).Yy (Zk.push (bG _) _)).sl XV KQ ?_;obtain⟨n,hn⟩:=ZQ (min (D rest) 16);have hB:(rest.map bv).take n=(rest.take n).map bv:=List.map_take.symm;have hBl:(rest.take n).length=n:=aad;have ZkT:rest.take n=rest.take 16:=by
     by_cases hc:(D rest)<=16
     .rw[am nc,am nc]
     .rw[hn,Nat.min_eq_right nc]
    rw[<-hn,hB,pR 17 _ nc,hBl,ZkT];rw[ZkT]at hBl;have ZkU:Dg (rest.take 16):=fun x hx=>ZkS x (bf hx);obtain⟨B,hBB⟩:=ZQ (rest.take 16);rw[<-hBB]at hBl vK ZkU ⊢;have e17:(B++Q (17-n) 0).set n 1=X9 B:=by rw[<-hBl];exact pN nc
    have ZsG:(n:Int)<17:=nc;have Zyy:((B++Q (17-n) 0).map bv).set n (j Y 1)=(X9 B).map bv:=by rw[<-e17,List.map_set];rfl
    have ZkV:(B++Q (17-n) 0).length=17:=KQ;have ZsH:=hg.size;have Zyz:=Za gR;have ZyA:=Za gA;obtain⟨bw,hbw⟩:=ZQ (g.size);have hGR:∀o,((g.push o).setIfInBounds bw (O ((B++Q (17-n) 0).map bv).toArray 196))[bR]? = au (YT R):=fun o=>by
     rw[aa,if_neg nc,ZJ nc];exact gR
    have hGA:∀o,((g.push o).setIfInBounds bw (O ((B++Q (17-n) 0).map bv).toArray 196))[bA]? = au (YT A):=fun o=>by
     rw[aa,if_neg nc,ZJ nc];exact gA
    have hGW:∀o,((g.push o).setIfInBounds bw (O ((B++Q (17-n) 0).map bv).toArray 196))[bw]? = au (O ((B++Q (17-n) 0).map bv++[]).toArray 196):=fun o=>by
     rw[ba,hbw];exact Yd Zc
    have hGB:∀o,Zk h.size h ((g.push o).setIfInBounds bw (O ((B++Q (17-n) 0).map bv).toArray 196)):=fun o=>(hg.YU ZsH _).Zt nc _;have hGS:∀o,((g.push o).setIfInBounds bw (O ((B++Q (17-n) 0).map bv).toArray 196)).size=bw+1:=fun o=>by rw[bo,bz,hbw]
    rw[<-hbw];specialize hGR (O ((Q 17 0).map bv).toArray 196);specialize hGA (O ((Q 17 0).map bv).toArray 196);specialize hGW (O ((Q 17 0).map bv).toArray 196);specialize hGB (O ((Q 17 0).map bv).toArray 196);specialize hGS (O ((Q 17 0).map bv).toArray 196);obtain⟨G1,tJ⟩:=ZQ (((g.push (O ((Q 17 0).map bv).toArray 196)).setIfInBounds bw (O ((B++Q (17-n) 0).map bv).toArray 196)));rw[<-tJ]at hGR hGA hGW hGB hGS ⊢;clear tJ;have c1:QP G1 ⟨bw,n,bg⟩ (j Y 1)=_:=Yu (f:=bv) hGW (i:=n) (by rw[ZkV];omega) 1 rfl;rw[e17]at c1;have hW2:=Yd (o:=O ((X9 B).map bv++[]).toArray 196) hGW;have hR2:(G1.setIfInBounds bw (O ((X9 B).map bv++[]).toArray 196))[bR]? = au (YT R):=by rw[aa,if_neg nc];exact hGR
    have hA2:(G1.setIfInBounds bw (O ((X9 B).map bv++[]).toArray 196))[bA]? = au (YT A):=by rw[aa,if_neg nc];exact hGA
    have Py:Zk h.size h (G1.setIfInBounds bw (O ((X9 B).map bv++[]).toArray 196)):=hGB.Zt nc _;have hS2:(G1.setIfInBounds bw (O ((X9 B).map bv++[]).toArray 196)).size=bw+1:=by rw[bo,hGS]
    obtain⟨G2,kY⟩:=ZQ (G1.setIfInBounds bw (O ((X9 B).map bv++[]).toArray 196));rw[<-kY]at c1 hW2 hR2 hA2 Py hS2;clear kY hGR hGA hGW hGB hGS;have l17:=Bc (l:=B) nc;have w17:=xM ZkU;have o17:Yx h.size 196 G2 (al (au ⟨bw,0,bg⟩) 17 17) (X9 B):=
     ⟨.inr ⟨bw,17,[],nc,by rw[l17],hW2,Hg,by rw[l17];rfl,nc⟩,w17⟩
    have s17:=OO o17.bs (m:=16) nc 17;have t17:((X9 B).take 16).length=16:=aad;have g16:=Z6 hW2 (i:=16) nc;unfold bv at g16;have Zgo:=pM (l:=B) nc;have I3:=pL (l:=B) nc;have wt:=OP (l:=(X9 B).take 16) (fun x hx=>w17 x (bf hx)) t17;obtain⟨Z4,Lh⟩:=ZQ ((X9 B).getD 16 0);rw[<-Lh]at g16 Zgo I3;have em:((Z4:Nat):Int)%18446744073709551616=(Z4:Nat):=nc;simp -implicitDefEqProofs only[go_sem,f0,f1,f10,f11,ZsG,bb,ZkV,c1];refine VS.w (bw+1) [] (.q 0 (.q 1 (.q 2 (.q 3 (.q 5 (.s 4 .nil)))))) mixed uf ?_;simp -implicitDefEqProofs only[go_sem,g16,em];refine (Kg T _ _ ((X9 B).take 16) Z4 s17 t17 Zgo).use ?_;rintro _ G3 ⟨rfl,b3⟩;rw[hS2]at b3;have hR3:=b3.get (k:=bR) nc hR2;have hA3:=b3.get (k:=bA) nc hA2;have hB3:Zk h.size h G3:=Py.trans (b3.mono nc);have hxv:=GR (t:=Z4) wt;rw[I3]at hxv;have Bd:=Bb (t:=Z4) wt Zgo;have hxn:=Oe (XW ((X9 B).take 16)) Z4;obtain⟨X,hX⟩:=ZQ (CW (XW ((X9 B).take 16)) Z4);rw[<-hX]at hxv Bd hxn ⊢;rw[<-vK]at hxv;have b3T:Zk (bw+1) G2 G3=True:=eq_true b3;simp -implicitDefEqProofs only[go_sem,b3T];refine VS.Yj (fun F g=>F 0=al p (D key) c/\F 1=al q (D rest) d/\F 10=aw (au ⟨bR,0,bg⟩)/\F 11=aw (au ⟨bA,0,bg⟩)/\F 66=.agg (X.map uv).toArray/\∃i:Nat,i<=5/\F 67=j W i/\g=G3.setIfInBounds bA (YT (S4 A X i)))
     (fun F _=>5-(vi (F 67)).toNat) rfl ⟨f0,f1,f10,f11,rfl,0,nc,rfl,(Vd hA3).symm⟩ ?_
    clear f0 f1 f10 f11 F gR gA hg;rintro F g' ⟨f0,f1,f10,f11,f66,i,hi,f67,rfl⟩;have dZ:(G3.setIfInBounds bA (YT (S4 A X i)))[bA]? = au (YT (S4 A X i)):=Yd hA3;have lN:(S4 A X i).length=5:=by rw[Ir,lA5]
    have wN:=lI Pc Bd nc nc i;by_cases gM:i<5
    .have xd:(i:Int)<5:=nc;have hnx:S4 A X (i+1)=(S4 A X i).set i ((S4 A X i).getD i 0+X.getD i 0):=rfl;obtain⟨r,hr⟩:=ZQ (S4 A X i);rw[<-hr]at dZ lN wN hnx ⊢;obtain⟨G,hG⟩:=ZQ (G3.setIfInBounds bA (YT r));rw[<-hG]at dZ ⊢;have n1:=C6 (l:=X) (i:=i) nc;have g1:=Z6 dZ (i:=i) nc;unfold uv at g1;have y1:=wN.getD nc i;have y2:=Bd.getD nc i;obtain⟨a,ha⟩:=ZQ (r.getD i 0);obtain⟨b,hb⟩:=ZQ (X.getD i 0);rw[<-ha]at g1 y1 hnx;rw[<-hb]at n1 y2 hnx;have e1:(a:Int)+(b:Int)=((a+b:Nat):Int):=rfl;have e2:((a+b:Nat):Int)%18446744073709551616=((a+b:Nat):Int):=nc;have c2:QP G ⟨bA,i,bg⟩ (j U (a+b:Nat))=_:=Yu (f:=uv) dZ (i:=i) nc (a+b) rfl;simp -implicitDefEqProofs only[go_sem,f0,f1,f10,f11,f66,f67,xd,bb,br,n1,g1,e1,e2,c2];refine⟨⟨f0,f1,f10,f11,f66,i+1,gM,rfl,?_⟩,?_⟩
     .rw[hG,set_set,hnx];rfl
     .simp only[vi,Zr,↓reduceIte,f67];omega
    .have Zce:¬(i:Int)<5:=nc;obtain rfl:i=5:=nc;have c5:((5:Nat):Int)=5:=rfl;rw[c5]at f67 Zce;obtain⟨wN5,vN5⟩:=xK lA5 hxn Pc Bd;have hR4:(G3.setIfInBounds bA (YT (S4 A X 5)))[bR]? = au (YT R):=by rw[aa,if_neg nc];exact hR3
     have lu:Zk h.size h (G3.setIfInBounds bA (YT (S4 A X 5))):=hB3.Zt nc _;obtain⟨N,hN⟩:=ZQ (S4 A X 5);rw[<-hN]at dZ lN wN5 vN5 hR4 lu ⊢;generalize G3.setIfInBounds bA (YT N)=G4 at *;have r1:=Od lN dZ;have r2:=Od hrn hR4;have lNm:(N.map uv).length=5:=by simpa using lN
     have tN:(N.map uv).take 5=N.map uv:=am nc;have tR:(R.map uv).take 5=R.map uv:=am nc;simp -implicitDefEqProofs only[go_sem,f0,f1,f10,f11,f66,f67,Zce,r1,r2];refine (aB T G4 N R lN hrn wN5 hrl).use ?_;rintro _ G5 ⟨rfl,b5⟩;obtain⟨w1,w2,w3⟩:=Dp lN hrn wN5 hrl;obtain⟨m1,m2,m3,_⟩:=ON w2 w1;obtain⟨M,hM⟩:=ZQ (X6 (VP N R 5));rw[<-hM]at m1 m2 m3 ⊢;have hA5:=b5.get (Za dZ) dZ;have hR5:=b5.get (Za hR4) hR4;have hB5:Zk h.size h G5:=lu.trans (b5.mono lu.size);have lM:(M.map uv).length=5:=by simpa using m1
     have hoM:(M.map uv).all YC=true:=by simp[uv,YC]
     have w5:=Ye (h:=G5) (b:=bA) (l:=(N.map uv)) (by unfold YT at hA5;rw[ba]at hA5;exact hA5) 0 (M.map uv);rw[if_pos ⟨by simp[lM,lNm],hoM⟩,Z3 (by simp[lM,lNm])]at w5;have W0:((D rest):Int)<=d:=nc;obtain⟨mn,hmn⟩:=ZQ (min 16 (D rest));have xp:(if ((D rest):Int)<16 then ((D rest):Int) else 16)=((mn:Nat):Int):=by split<;>omega
     have ZsN:(mn:Int)<=(D rest):=nc;have ZkZ:rest.drop mn=data.drop (16*(k+1)):=by
      rw[XC];by_cases hc:(D rest)<=16
      .rw[be nc,be nc]
      .rw[hmn,Nat.min_eq_left nc]
     have s2:=OJ s1 rfl (k:=mn) nc xP (d-mn);rw[ZkZ]at s2;have Zk0:Y6 M%S3=xz (XW (Qs key)) data (k+1):=by
      rw[m3,w3,vN5,hxv,hrv,xz,<-Uo,Nat.mul_mod,<-Nat.mod_add_mod,<-Nat.mul_mod]
     simp -implicitDefEqProofs only[go_sem,f0,f1,f10,f11,w5,lM,xp,ZsN,bb,WC];refine⟨⟨f0,f10,f11,hB5.Zt nc _,?_,k+1,M,nc,s2,?_,?_,m1,m2,Zk0⟩,?_⟩
     .rw[aa,if_neg nc];exact hR5
     .show (D rest)-mn<=d-mn;omega
     .have:=Yd (o:=O (M.map uv).toArray 194) hA5;unfold YT;rw[ba];exact this
     .show (D rest)-mn<(D rest);omega
   .have Zk1:¬(0:Int)<((data.drop (16*k)).length:Int):=nc;have hk2:k=((D data)+15)/16:=nc;rw[hk2]at Uo;obtain⟨rest,GU⟩:=ZQ (data.drop (16*k));rw[<-GU]at f1 Zk1;have r1:=Od lA5 gA;have tA:(A.map uv).take 5=A.map uv:=am (by simp[lA5]);simp -implicitDefEqProofs only[go_sem,f0,f1,f10,f11,Zk1,r1];refine (aC T g A lA5 (Pc.mono aaa)).use ?_;rintro _ g6 ⟨rfl,b6⟩;obtain⟨m1,m2,m3,m4⟩:=ON lA5 (Pc.mono aaa);obtain⟨q1,q2,q3⟩:=pF m1 m2 m4;rw[m3,Uo]at q3;obtain⟨M,hM⟩:=ZQ (Oc (X6 A));rw[<-hM]at q1 q2 q3 ⊢;have hA6:=b6.get (Za gA) gA;have hB6:Zk h.size h g6:=hg.trans (b6.mono hg.size);have lM:(M.map uv).length=5:=by simpa using q1
    have lAm:(A.map uv).length=5:=by simpa using lA5
    have hoM:(M.map uv).all YC=true:=by simp[uv,YC]
    have w5:=Ye (h:=g6) (b:=bA) (l:=(A.map uv)) (by unfold YT at hA6;rw[ba]at hA6;exact hA6) 0 (M.map uv);rw[if_pos ⟨by simp[lM,lAm],hoM⟩,Z3 (by simp[lM,lAm])]at w5;have hB7:Zk h.size h (g6.setIfInBounds bA (O (M.map uv).toArray 194)):=hB6.Zt nc _;have hA7:(g6.setIfInBounds bA (O (M.map uv).toArray 194))[bA]? = au (YT M):=by
     have:=Yd (o:=O (M.map uv).toArray 194) hA6;unfold YT;rw[ba];exact this
    obtain⟨g7,hg7⟩:=ZQ (g6.setIfInBounds bA (O (M.map uv).toArray 194));rw[<-hg7]at w5 hB7 hA7;clear hg7;have sm:Bs g7 (al (gJ p 1 c 16) 16 (c-16)) ((key.drop 16).take 16):=Zgj (sk.Yy hB7) rfl nc ck _;have Zgp:((key.drop 16).take 16).length=16:=by rw[List.length_take,cf];omega
    have u2:(32:Int)<=c:=nc;have wkl:Dg ((key.drop 16).take 16):=fun x hx=>wk x (bT (bf hx));simp -implicitDefEqProofs only[go_sem,f0,f1,f10,f11,w5,lM,u2,WC];refine (Kg T _ _ _ 0 sm Zgp nc).use ?_;rintro _ g8 ⟨rfl,b8⟩;have hSv:=GR (t:=0) (OP wkl Zgp);rw[ca,cd]at hSv;have hSl:=Bb (t:=0) (OP wkl Zgp) nc;have hSn:=Oe (XW ((key.drop 16).take 16)) 0;obtain⟨S,hS⟩:=ZQ (CW (XW ((key.drop 16).take 16)) 0);rw[<-hS]at hSv hSl hSn ⊢;clear hS;have hA8:=b8.get (Za hA7) hA7;have hB8:Zk h.size h g8:=hB7.trans (b8.mono hB7.size);have lS:(S.map uv).length=5:=by simpa using hSn
    have hoS:(S.map uv).all YC=true:=by simp[uv,YC]
    have lpS:Y9 [Value.int U 0,j U 0,j U 0,j U 0,j U 0] 0 (S.map uv)=S.map uv:=Z3 lS;simp -implicitDefEqProofs only[go_sem,f0,f1,f10,f11,lS,hoS,lpS,Zgl];have T0:Zcl key data=Y6 M+Y6 S:=by rw[q3,hSv];rfl
    have hB9:Zk (g8.size+1) (g8.push (O (S.map uv).toArray 194)) ((g8.push (O (S.map uv).toArray 194)).push (O ((Q 16 0).map bv).toArray 5)):=Zk.push Hg _;have hS9:(g8.push (O (S.map uv).toArray 194))[g8.size]? = au (YT S):=by rw[Zc];unfold YT;rw[ba]
    have hA9:(g8.push (O (S.map uv).toArray 194))[bA]? = au (YT M):=by rw[ZJ (Za hA8)];exact hA8
    have hH9:Zk h.size h (g8.push (O (S.map uv).toArray 194)):=hB8.YU hB8.size _;have o9:Yx (g8.size+1) 5 ((g8.push (O (S.map uv).toArray 194)).push (O ((Q 16 0).map bv).toArray 5)) (al (au ⟨g8.size+1,0,bg⟩) 0 16) []:=by
     refine⟨.inr ⟨g8.size+1,16,(Q 16 0).map bv,bG _,rfl,?_,rfl,Hg,Nat.zero_le _⟩,fun x hx=>by cases hx⟩;have:=Zc (h:=g8.push (O (S.map uv).toArray 194)) (o:=O ((Q 16 0).map bv).toArray 5);rw[bz]at this;exact this
    have ZsU:=Za hA8;have Zk2:=hB8.size;have hz9:(g8.push (O (S.map uv).toArray 194)).size=g8.size+1:=Hg;obtain⟨bS,hbS⟩:∃b,b=g8.size:=⟨_,rfl⟩
    rw[<-hbS]at hB9 hS9 o9 ZsU Zk2 hz9 ⊢;obtain⟨J,hJ⟩:=ZQ (g8.push (O (S.map uv).toArray 194));rw[<-hJ]at hB9 hS9 hA9 hH9 o9 hz9 ⊢;clear hJ;refine VS.Yj (fun F g=>F 11=aw (au ⟨bA,0,bg⟩)/\F 16=aw (au ⟨bS,0,bg⟩)/\Zk (bS+1) J g/\∃(i n sum bits:Nat) (out:List Nat),i<=5/\F 87=j W i/\F 18=j U sum/\F 19=j U bits/\F 20=j W n/\Yx (bS+1) 5 g (F 17) out/\(D out)=n/\bits<8/\26*i=8*n+bits/\sum<8*2 ^ bits/\Zcl key data=XW out+256 ^ n*(sum+2 ^ bits*Lf (M.drop i) (S.drop i)))
     (fun F _=>5-(vi (F 87)).toNat) rfl ⟨f11,rfl,hB9,0,0,0,0,[],nc,rfl,rfl,rfl,rfl,o9,rfl,nc,nc,nc,by rw[T0,cg,cg,aH _ _ nc];simp[XW]⟩ ?_
    clear f0 f1 f10 f11 F hB9 o9;rintro F g' ⟨f11,f16,Ec,i,n,sum,bits,out,hi,f87,f18,f19,f20,ho,hol,hb8,hbn,pV,hT⟩;have gA':=Ec.get (k:=bA) nc hA9;have gS':=Ec.get (k:=bS) nc hS9;have Zk4:=Ec.size;by_cases ZU:i<5
    .have Z8:(i:Int)<5:=nc;rw[iw nc nc]at hT;have g1:=Z6 gA' (i:=i) nc;have g2:=Z6 gS' (i:=i) nc;unfold uv at g1 g2;have y1:=q2.getD nc i;have y2:=hSl.getD nc i;obtain⟨a,ha⟩:=ZQ (M.getD i 0);obtain⟨b,hb⟩:=ZQ (S.getD i 0);rw[<-ha]at g1 y1 hT;rw[<-hb]at g2 y2 hT;have hT2:=Zcq hT;have aI:=pT (c:=a+b) pV nc;have p8:=pS hb8;have Cg:(a+b)*2 ^ bits<=268435455*128:=Nat.mul_le_mul nc p8;have ZsW:sum<1024:=nc;have e1:(a:Int)+(b:Int)=((a+b:Nat):Int):=rfl;have e2:((a+b:Nat):Int)%18446744073709551616=((a+b:Nat):Int):=nc;have e3:Xm U ((a+b:Nat):Int) (bits:Int)=(((a+b)*2 ^ bits:Nat):Int):=by
      rw[HD _ _ nc,Nat.mod_eq_of_lt nc]
     obtain⟨cc,hcc⟩:=ZQ ((a+b)*2 ^ bits);rw[<-hcc]at e3 Cg hT2 aI;have e4:(sum:Int)+(cc:Int)=((sum+cc:Nat):Int):=rfl;have e5:((sum+cc:Nat):Int)%18446744073709551616=((sum+cc:Nat):Int):=nc;have e6:(bits:Int)+26=((bits+26:Nat):Int):=rfl;have e7:((bits+26:Nat):Int)%18446744073709551616=((bits+26:Nat):Int):=nc;have e8:¬(bits:Int)<0:=nc;simp -implicitDefEqProofs only[go_sem,f11,f16,f18,f19,f20,f87,Z8];refine VS.q mixed uf ?_;simp -implicitDefEqProofs only[go_sem,f11,f16,f18,f19,f20,f87,Z8,bb,br,g1,g2,e1,e2,e3,e4,e5,e6,e7,e8];refine VS.Yj (fun F g=>F 11=aw (au ⟨bA,0,bg⟩)/\F 16=aw (au ⟨bS,0,bg⟩)/\F 87=j W i/\Zk (bS+1) J g/\∃(n sum bits:Nat) (out:List Nat),F 18=j U sum/\F 19=j U bits/\F 20=j W n/\Yx (bS+1) 5 g (F 17) out/\(D out)=n/\bits<34/\26*(i+1)=8*n+bits/\sum<8*2 ^ bits/\Zcl key data=XW out+256 ^ n*(sum+2 ^ bits*Lf (M.drop (i+1)) (S.drop (i+1))))
      (fun F _=>(vi (F 19)).toNat) rfl ⟨f11,f16,f87,Ec,n,sum+cc,bits+26,out,rfl,rfl,f20,ho,hol,nc,nc,aI,hT2⟩ ?_
     clear f11 f16 f18 f19 f20 f87 ho hol hT hT2 pV aI hbn hb8 Ec gA' gS' Zk4 g1 g2 e3 e4 e5 e6 e7 e8 p8 Cg hcc ZsW F cc;clear n sum bits out g';rintro F g' ⟨f11,f16,f87,Ec,n,sum,bits,out,f18,f19,f20,ho,hol,hb8,hbn,pV,hT⟩;have Zk4:=Ec.size;by_cases hb:8<=bits
     .have Gf:(8:Int)<=bits:=nc;have hn1:(n:Int)<16:=nc;have aI:=pU pV hb;have hT2:=xO hb hT;have hp:2 ^ bits<=2 ^ 34:=bK aaa nc;have Px:sum<18446744073709551616:=Nat.lt_of_lt_of_le pV (Nat.le_trans (Nat.mul_le_mul_left 8 hp) aaa);have em:((sum:Nat):Int)%256=((sum%256:Nat):Int):=rfl;have es:Xx U (sum:Int) 8=((sum/256:Nat):Int):=OM sum 8 aaa;have eb:(bits:Int)-8=((bits-8:Nat):Int):=nc;have eb2:((bits-8:Nat):Int)%18446744073709551616=((bits-8:Nat):Int):=nc;simp -implicitDefEqProofs only[go_sem,f11,f16,f18,f19,f20,f87,Gf,hn1,em];have hX:sum%256<256:=nc;refine ZK (E:=5) (B:=bS+1) Xg b9 Ti T4 T3 (ho.push _) KQ (Bs.one hX 1) KQ ?_;intro v' h' NM Qa _;simp -implicitDefEqProofs only[go_sem,f11,f16,f18,f19,f20,f87,es,eb,eb2];refine⟨⟨f11,f16,f87,(Ec.YU nc _).trans Qa,n+1,sum/256,bits-8,out++[sum%256],rfl,rfl,rfl,NM,by simp[hol],nc,nc,aI,?_⟩,?_⟩
      .rw[hT2,ix,hol]
      .simp only[vi,Zr,↓reduceIte,Nat.reduceEqDiff,f19];omega
     .have Gf:¬(8:Int)<=bits:=nc;have e9:(i:Int)+1=((i+1:Nat):Int):=rfl;simp -implicitDefEqProofs only[go_sem,f11,f16,f18,f19,f20,f87,Gf,e9];refine⟨⟨f11,f16,Ec,i+1,n,sum,bits,out,ZU,rfl,f18,f19,f20,ho,hol,nc,hbn,pV,hT⟩,?_⟩;simp only[vi,Zr,↓reduceIte,f87];omega
    .have Xp:¬(i:Int)<5:=nc;obtain rfl:i=5:=nc;have c5:((5:Nat):Int)=5:=rfl;rw[c5]at f87 Xp;obtain rfl:n=16:=nc;have e0:Lf (M.drop 5) (S.drop 5)=0:=by rw[be nc,be nc];rfl
     rw[e0,ca,cd]at hT;have il:=pO ho.byte hol hT;have htl:ii key data=out:=il.symm;simp -implicitDefEqProofs only[go_sem,f11,f16,f18,f19,f20,f87,Xp];rw[htl];exact⟨ho.mono nc,hH9.trans (Ec.mono nc)⟩
theorem aJ(T:World)(h:Hp)(v u:Value)(key data:List Nat)(sk:Bs h v key)(sd:Bs h u data)(ck:Ph v)(cu:Ph u):
  Zd Tryz.prog T 65 #[v,u] h fun v' h'=>xC h.size h' v' key data/\Zk h.size h h':=by
 obtain⟨p,c,rfl,hkc⟩:=sk.open;obtain⟨q,d,rfl,hdc⟩:=sd.open;refine Zd.XS [_,_] Tryz.func65 ?_;unfold xC;by_cases hk:(D key)=32
 .by_cases hd:4000<(D data)
  .have hd':4000<((D data):Int):=nc;have ML:((D key):Int)=32:=nc;have e:Ss key data=1:=by unfold Ss;rw[if_pos (.inr hd)]
   rw[e];simp -implicitDefEqProofs only[go_sem,hd',ML];exact⟨_,rfl,Yx.nil _ _ _⟩
  .have hd':¬4000<((D data):Int):=nc;have ML:((D key):Int)=32:=nc;have e:Ss key data=0:=by unfold Ss;rw[if_neg nc]
   rw[e,if_pos rfl];simp -implicitDefEqProofs only[go_sem,hd',ML];refine (iy T _ _ _ key data sk sd hk nc ck cu).use ?_;rintro v1 h1 ⟨o1,b1⟩;simp -implicitDefEqProofs only[go_sem];exact⟨⟨_,rfl,o1⟩,b1⟩
 .have ML:¬((D key):Int)=32:=nc;have e:Ss key data=1:=by unfold Ss;rw[if_pos (.inl hk)]
  rw[e];simp -implicitDefEqProofs only[go_sem,ML];exact⟨_,rfl,Yx.nil _ _ _⟩
end Go.Proofs.YthlfaofofaphfaaGreatDoor
