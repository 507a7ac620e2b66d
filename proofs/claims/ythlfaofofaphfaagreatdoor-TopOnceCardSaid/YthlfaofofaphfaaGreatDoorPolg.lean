/- Part Polg. -/
import Derived.Test.YthlfaofofaphfaaGreatDoorPik
import Derived.Test.YthlfaofofaphfaaGreatDoorW14
open Go.Value renaming int→j,slice→ab,pointer→al
open Go.IntKind renaming u64→U,i64→W,u8→Y
open Go.Obj renaming cells→O
open Go.Proofs.Tryz renaming underlying28→b2
open List renaming length→D,replicate→Q,getD_eq_getElem?_getD→Z,take_of_length_le→ae,getElem?_append_right→am,append_nil→aw,getElem?_eq_getElem→aN,drop_of_length_le→aO,mem_of_mem_take→ba,append_assoc→be,drop_eq_getElem_cons→bf,getElem?_replicate→bk,length_set→bn,getElem?_eq_none→bp,mem_of_mem_drop→bB,replicate_succ→bG,length_drop→ca,drop_zero→cd
open Nat renaming mul_assoc→bd,pow_add→bg,zero_add→bl,mul_add→br,le_refl→bx,pow_le_pow_right→bz,add_assoc→bN,add_sub_cancel→b0,mul_zero→b7,add_zero→b9
open Int renaming toNat_natCast→aD
open Option renaming some→ag,none→bb
open Array renaming getElem?_setIfInBounds→aa,size_setIfInBounds→bh,size_push→bo
namespace Go.Proofs.YthlfaofofaphfaaGreatDoor
open Go Go.V
set_option linter.unusedSimpArgs false
set_option linter.unusedVariables false
set_option maxRecDepth 100000
variable{l:List Nat}
def jw(l:List Nat):Nat->List Nat
 | 0=>l
 | i+1=>(jw l i).set (4*i+3) ((jw l i).getD (4*i+3) 0%16)
def nh(l:List Nat):Nat->List Nat
 | 0=>l
 | i+1=>(nh l i).set (4*i+4) ((nh l i).getD (4*i+4) 0/4*4)
theorem Fu(l:List Nat):∀i,(jw l i).length=(D l)
 | 0=>rfl
 | i+1=>by rw[jw,bn,Fu l i]
theorem Fv(l:List Nat):∀i,(nh l i).length=(D l)
 | 0=>rfl
 | i+1=>by rw[nh,bn,Fv l i]
theorem jx(w:Dg l):∀i,Dg (jw l i)
 | 0=>w
 | i+1=>(jx w i).set _ (by have:=(jx w i).getD (4*i+3);omega)
theorem jy(w:Dg l):∀i,Dg (nh l i)
 | 0=>w
 | i+1=>(jy w i).set _ (by have:=(jy w i).getD (4*i+4);omega)
theorem Zdt(hl:(D l)=16):nh (jw l 4) 3=QB l:=by
 match l,hl with
 | [a0,a1,a2,a3,a4,a5,a6,a7,a8,a9,a10,a11,a12,a13,a14,a15],_=>rfl
theorem ce(key:List Nat):QB key=QB (key.take 16):=by
 unfold QB;apply List.map_congr_left;intro i hi;have mF:i<16:=by simpa using hi
 have e:(key.take 16).getD i 0=key.getD i 0:=by
  rw[Z,List.getElem?_take,if_pos mF,Z]
 unfold zm;rw[e]
theorem rD{key:List Nat}(hk:(D key)=32):nh (jw (key.take 16) 4) 3=QB key:=by
 rw[ce];exact Zdt aad
theorem Nm(w:Dg l)(hl:(D l)=16):X4 l<340282366920938463463374607431768211456:=by
 have:=TE w (n:=16) pA;exact this
theorem OG(n t:Nat):(BG n t).length=5:=rfl
theorem BR{n t:Nat}(hn:n<340282366920938463463374607431768211456)(ht:t<=1):Y5 67108864 (BG n t):=
 Y5.HN pA pA pA pA pA
theorem Fw{n t:Nat}(hn:n<340282366920938463463374607431768211456):Xc (BG n t)=n+340282366920938463463374607431768211456*t:=by
 simp only[BG,Xc];omega
def Rs(a x:List Nat):Nat->List Nat
 | 0=>a
 | i+1=>(Rs a x i).set i ((Rs a x i).getD i 0+x.getD i 0)
theorem I0(a x:List Nat):∀i,(Rs a x i).length=(D a)
 | 0=>rfl
 | i+1=>by rw[Rs,bn,I0 a x i]
theorem nj{a x:List Nat}{K L:Nat}(wa:Y5 K a)(wx:Y5 L x)(hK:0<K)(hL:0<L):∀i,Y5 (K+i*L) (Rs a x i)
 | 0=>by rw[Nat.zero_mul];exact wa
 | i+1=>by
  have h:=nj wa wx hK hL i;have q1:=h.getD pA i;have q2:=wx.getD hL i;rw[Rs,Nat.add_mul,Nat.one_mul];exact (h.mono pA).set _ _ pA
theorem zv{a x:List Nat}(ha:(D a)=5)(hx:(D x)=5)(wa:Y5 134217728 a)(wx:Y5 67108864 x):Y5 268435456 (Rs a x 5)/\Xc (Rs a x 5)=Xc a+Xc x:=by
 obtain⟨a0,a1,a2,a3,a4,rfl⟩:=HN ha;obtain⟨x0,x1,x2,x3,x4,rfl⟩:=HN hx;obtain⟨w0,w1,w2,w3,w4⟩:=wa.Zdn;obtain⟨u0,u1,u2,u3,u4⟩:=wx.Zdn;have e:Rs [a0,a1,a2,a3,a4] [x0,x1,x2,x3,x4] 5=[a0+x0,a1+x1,a2+x2,a3+x3,a4+x4]:=rfl;rw[e];exact⟨Y5.HN pA pA pA pA pA,by simp only[Xc];omega⟩
theorem Fx(a b:List Nat):X4 (a++b)=X4 a+256 ^ (D a)*X4 b:=by
 induction a with
 | nil=>simp[X4]
 | cons x a ih=>simp only[List.cons_append,X4,ih,List.length_cons,Nat.pow_succ,br,bN];congr 2;rw[<-bd,Nat.mul_comm 256]
theorem jz(n:Nat):X4 (Q n 0)=0:=by
 induction n with
 | zero=>rfl
 | succ n ih=>rw[bG,X4,ih]
def Jf(l:List Nat):List Nat:=l++[1]++Q (16-(D l)) 0
theorem BS(hl:(D l)<=16):(Jf l).length=17:=by simp[Jf];omega
theorem rE(hl:(D l)<=16):X4 ((Jf l).take 16)+340282366920938463463374607431768211456*(Jf l).getD 16 0=X4 (l++[1]):=by
 by_cases h:(D l)=16
 .have e1:(Jf l).take 16=l:=by unfold Jf;rw[be,List.take_left' h]
  have e2:(Jf l).getD 16 0=1:=by
   unfold Jf;rw[Z,be,am pA,h];rfl
  rw[e1,e2,Fx,h];rfl
 .have e2:(Jf l).getD 16 0=0:=by
   unfold Jf;rw[Z,am VL,bk];split<;>rfl
  have e1:(Jf l).take 16=(l++[1])++Q (15-(D l)) 0:=by
   unfold Jf;rw[List.take_append,ae VL,List.take_replicate]
   congr 2
   simp;omega
  rw[e1,e2,Fx,jz];omega
theorem rF(hl:(D l)<=16):(Jf l).getD 16 0<=1:=by
 by_cases h:(D l)=16
 .have e2:(Jf l).getD 16 0=1:=by
   unfold Jf;rw[Z,be,am pA,h];rfl
  omega
 .have e2:(Jf l).getD 16 0=0:=by
   unfold Jf;rw[Z,am VL,bk];split<;>rfl
  omega
theorem zw(w:Dg l):Dg (Jf l):=by
 intro x hx;unfold Jf at hx;simp only[List.mem_append,List.mem_singleton,List.mem_replicate]at hx;rcases hx with (h|h)|h
 .exact w x h
 .omega
 .omega
theorem rG(hl:(D l)<=16):(l++Q (17-(D l)) 0).set (D l) 1=Jf l:=by
 have e:Q (17-(D l)) 0=0 :: Q (16-(D l)) 0:=by rw[<-bG];congr 1;omega
 rw[e,List.set_append_right _ _ (bx _),Nat.sub_self,List.set_cons_zero];unfold Jf;rw[be];rfl
def LO:List Nat->List Nat->Nat
 | x :: l,y :: k=>(x+y)+67108864*LO l k
 | _,_=>0
theorem cj:∀(l k:List Nat),(D l)=(D k)->LO l k=Xc l+Xc k
 | [],[],_=>rfl
 | x :: l,y :: k,h=>by simp only[LO,Xc];rw[cj l k (by simpa using h)];omega
theorem rH{out:List Nat}{t R:Nat}(w:Dg out)(hl:(D out)=16)(h:t=X4 out+256 ^ 16*R):out=(List.range 16).map fun i=>t/256 ^ i%256:=by
 apply List.ext_getElem?;intro i;by_cases hi:i<16
 .rw[List.getElem?_map,List.getElem?_range hi];have e:=jl w i;rw[Z,aN pA]at e;rw[aN pA];simp only[Option.map_some,Option.some.injEq];simp only[Option.getD_some]at e;rw[e,h];have e2:256 ^ 16*R=256 ^ i*(256*(256 ^ (15-i)*R)):=by
   rw[<-bd 256,<-bd,<-Nat.pow_succ',<-bg]
   congr 2;omega
  rw[e2,Nat.add_mul_div_left _ _ (Nat.pow_pos pA),Nat.add_mul_mod_self_left]
 .rw[bp pA,bp VL]
theorem zy{T v n s B R:Nat}(hB:256<=B)(hd:B%256=0)(h:T=v+n*(s+B*R)):T=v+n*(s%256)+n*256*(s/256+B/256*R):=by
 have e:s+B*R=s%256+256*(s/256+B/256*R):=by
  have e1:B=256*(B/256):=pA;have e2:B*R=256*(B/256*R):=by rw[<-bd,<-e1]
  have e3:=Nat.mod_add_div s 256;rw[br,e2];omega
 rw[h,e,br,<-bd,<-bN]
theorem rI{i:Nat}(hi:i<4):nth [Value.int W 3,j W 7,j W 11,j W 15] i=ag (j W ((4*i+3:Nat):Int)):=by
 match i,hi with
 | 0,_=>rfl
 | 1,_=>rfl
 | 2,_=>rfl
 | 3,_=>rfl
theorem rK{i:Nat}(hi:i<3):nth [Value.int W 4,j W 8,j W 12] i=ag (j W ((4*i+4:Nat):Int)):=by
 match i,hi with
 | 0,_=>rfl
 | 1,_=>rfl
 | 2,_=>rfl
theorem ZlZ(x:Nat)(hx:x<256):YO .and Y (x:Int) 15=((x%16:Nat):Int):=by
 have h:=xS x 15 hx aaa;have e:x &&& 15=x%16:=Nat.and_two_pow_sub_one_eq_mod x 4;rw[e]at h;exact h
theorem Zhn(x:Nat)(hx:x<256):YO .and Y (x:Int) 252=((x/4*4:Nat):Int):=by
 have h:=xS x 252 hx aaa;have e:x &&& 252=x/4*4:=by
  have:∀y:Fin 256,y.val &&& 252=y.val/4*4:=aaa;exact this ⟨x,hx⟩
 rw[e]at h;exact h
def ZtS:Value->Nat
 | ab _ l _=>l
 | _=>0
theorem rL(n:Nat)(vs:List Nat)(h:(D vs)<=n):Xd ((Q n 0).map bv) 0 (vs.map bv)=(vs++Q (n-(D vs)) 0).map bv:=by
 rw[UZ _ _ (by simpa using h),List.length_map,<-List.map_drop,List.drop_replicate,List.map_append]
theorem jA{M S:List Nat}{i:Nat}(hM:i<(D M))(hS:i<(D S)):LO (M.drop i) (S.drop i)=(M.getD i 0+S.getD i 0)+67108864*LO (M.drop (i+1)) (S.drop (i+1)):=by
 rw[bf hM,bf hS,LO,Z,Z,aN hM,aN hS];rfl
theorem Zdu{T v n s b c R:Nat}(h:T=v+n*(s+2 ^ b*(c+67108864*R))):T=v+n*(s+c*2 ^ b+2 ^ (b+26)*R):=by
 rw[h,br (2 ^ b),Nat.mul_comm (2 ^ b) c,bg,<-bd (2 ^ b),bN]
theorem rM{b:Nat}(h:b<8):2 ^ b<=128:=by
 have:=bz (show 0<2 by decide) (show b<=7 by omega);exact this
theorem rN{s c b:Nat}(hs:s<8*2 ^ b)(hc:c<268435456):s+c*2 ^ b<8*2 ^ (b+26):=by
 have h1:c*2 ^ b<=268435455*2 ^ b:=Nat.mul_le_mul_right _ pA;rw[bg];have:2 ^ 26=67108864:=rfl;rw[this];omega
theorem rO{s b:Nat}(hs:s<8*2 ^ b)(hb:8<=b):s/256<8*2 ^ (b-8):=by
 have:2 ^ b=2 ^ (b-8)*256:=by
  have e:b=b-8+8:=pA;rw[e,bg,b0]
 rw[this]at hs;omega
theorem zC{T v n s b R:Nat}(hb:8<=b)(h:T=v+256 ^ n*(s+2 ^ b*R)):T=v+256 ^ n*(s%256)+256 ^ (n+1)*(s/256+2 ^ (b-8)*R):=by
 have e:2 ^ b=2 ^ (b-8)*256:=by
  have e:b=b-8+8:=pA;rw[e,bg,b0]
 have hp:0<2 ^ (b-8):=Nat.pow_pos pA;have:=zy (B:=2 ^ b) (by rw[e];omega) (by rw[e];omega) h;rw[show 2 ^ b/256=2 ^ (b-8) by rw[e,Nat.mul_div_cancel _ pA]]at this;rw[Nat.pow_succ];exact this
theorem jB(l:List Nat)(x:Nat):X4 (l++[x])=X4 l+256 ^ (D l)*x:=by rw[Fx];rfl
theorem Zho:(Qr 16 [Value.int Y 0])=(Q 16 0).map bv:=rfl
set_option maxHeartbeats 2000000 in
theorem jC(T:World)(h:Hp)(v u:Value)(key data:List Nat)(sk:Bs h v key)(sd:Bs h u data)(hk:(D key)=32)(hd:(D data)<=4000)(ck:RY v)(cu:RY u):
  Zd Tryz.prog T 80 #[v,u] h fun v' h'=>YB h.size 5 h' v' (jr key data)/\Zj h.size h h':=by
 have wk:=sk.byte;have wd:=sd.byte;obtain⟨p,c,rfl,hkc⟩:=sk.VM;have ck:(D key)<=c:=ck;have l16:(key.take 16).length=16:=aad;have s16:=Nl sk (m:=16) pA c;have c16:(16:Int)<=c:=pA;refine Zd.XS [_,_] Tryz.func80 ?_;simp -implicitDefEqProofs only[go_sem,c16];refine ZK (E:=5) (B:=h.size) Xl b2 TA Sn Sm (YB.nil _ _ _) (bx _) (by rw[hk]at sk;simpa using s16) (by rw[l16];decide) ?_;intro v1 h1 o1 b1 _;rw[List.nil_append]at o1;have o1n:=o1.Zq;rcases o1n with⟨_,hm,_⟩|⟨bc,cap,ZG,hbc,rfl,Lp,J9,NV,Wx⟩
 .omega
 obtain⟨L,hL⟩:=ZL (key.take 16);have wL:Dg L:=by rw[hL];exact fun x hx=>wk x (ba hx)
 have Zl0:nh (jw L 4) 3=QB key:=by rw[hL];exact rD hk
 rw[<-hL]at l16 Lp J9 NV Wx ⊢;clear o1 s16 hL;have ZF4:=Za Lp;simp -implicitDefEqProofs only[go_sem];refine VS.Yk (fun F g=>F 0=ab p (D key) c/\F 1=u/\F 5=ab (ag ⟨bc,0,bb⟩) (D L) cap/\F 25=.agg #[j W 3,j W 7,j W 11,j W 15]/\∃i:Nat,i<=4/\F 26=j W i/\g=h1.setIfInBounds bc (O ((jw L i).map bv++ZG).toArray 5))
  (fun F _=>4-(vi (F 26)).toNat) rfl ⟨rfl,rfl,rfl,rfl,0,pA,rfl,(Vm Lp).symm⟩ ?_
 rintro F g ⟨f0,f1,f5,f25,i,hi,f26,rfl⟩;have hx:=Yd (o:=O ((jw L i).map bv++ZG).toArray 5) Lp;have wA:=jx wL i;have lA:=Fu L i;by_cases ZT:i<4
 .have Z7:(i:Int)<4:=pA;have XI:jw L (i+1)=(jw L i).set (4*i+3) ((jw L i).getD (4*i+3) 0%16):=rfl;obtain⟨r,hr⟩:=ZL (jw L i);rw[<-hr]at hx wA lA XI ⊢;obtain⟨G,hG⟩:=ZL (h1.setIfInBounds bc (O (r.map bv++ZG).toArray 5));rw[<-hG]at hx ⊢;have n1:=rI ZT;have g1:=Z8 hx (i:=4*i+3) pA;have x1:=wA.getD (4*i+3);unfold bv at g1;obtain⟨x,hxx⟩:=ZL (r.getD (4*i+3) 0);rw[<-hxx]at g1 x1 XI;have e1:=ZlZ x x1;have hi1:((4*i+3:Nat):Int)<(D L):=pA;have c1:QX G ⟨bc,4*i+3,bb⟩ (j Y (x%16:Nat))=_:=Yx (f:=bv) hx (i:=4*i+3) pA (x%16) rfl;simp -implicitDefEqProofs only[go_sem,f0,f1,f5,f25,f26,Z7,aD,bl,n1,hi1,g1,e1,c1];refine⟨⟨f0,f1,f5,f25,i+1,ZT,rfl,?_⟩,?_⟩
  .rw[hG,set_set,XI]
  .simp only[vi,Zr,↓reduceIte,f26];omega
 .have Xv:¬(i:Int)<4:=pA;obtain rfl:i=4:=pA;have c4:((4:Nat):Int)=4:=rfl;rw[c4]at f26 Xv;obtain⟨L2,hL2⟩:=ZL (jw L 4);rw[<-hL2]at hx wA lA Zl0 ⊢;have B2:Zj h.size h (h1.setIfInBounds bc (O (L2.map bv++ZG).toArray 5)):=b1.Zt hbc _;generalize h1.setIfInBounds bc (O (L2.map bv++ZG).toArray 5)=h2 at *;clear hL2;simp -implicitDefEqProofs only[go_sem,f0,f1,f5,f25,f26,Xv];refine VS.Yk (fun F g=>F 0=ab p (D key) c/\F 1=u/\F 5=ab (ag ⟨bc,0,bb⟩) (D L) cap/\F 36=.agg #[j W 4,j W 8,j W 12]/\∃i:Nat,i<=3/\F 37=j W i/\g=h2.setIfInBounds bc (O ((nh L2 i).map bv++ZG).toArray 5))
   (fun F _=>3-(vi (F 37)).toNat) rfl ⟨f0,f1,f5,rfl,0,pA,rfl,(Vm hx).symm⟩ ?_
  clear f0 f1 f5 f25 f26 Xv F;rintro F g ⟨f0,f1,f5,f36,i,hi,f37,rfl⟩;have jo:=Yd (o:=O ((nh L2 i).map bv++ZG).toArray 5) hx;have wB:=jy wA i;have lB:=Fv L2 i;by_cases ZT:i<3
  .have Z7:(i:Int)<3:=pA;have XI:nh L2 (i+1)=(nh L2 i).set (4*i+4) ((nh L2 i).getD (4*i+4) 0/4*4):=rfl;obtain⟨r,hr⟩:=ZL (nh L2 i);rw[<-hr]at jo wB lB XI ⊢;obtain⟨G,hG⟩:=ZL (h2.setIfInBounds bc (O (r.map bv++ZG).toArray 5));rw[<-hG]at jo ⊢;have n1:=rK ZT;have g1:=Z8 jo (i:=4*i+4) pA;have x1:=wB.getD (4*i+4);unfold bv at g1;obtain⟨x,hxx⟩:=ZL (r.getD (4*i+4) 0);rw[<-hxx]at g1 x1 XI;have e1:=Zhn x x1;have hi1:((4*i+4:Nat):Int)<(D L):=pA;have c1:QX G ⟨bc,4*i+4,bb⟩ (j Y (x/4*4:Nat))=_:=Yx (f:=bv) jo (i:=4*i+4) pA (x/4*4) rfl;simp -implicitDefEqProofs only[go_sem,f0,f1,f5,f36,f37,Z7,aD,bl,n1,hi1,g1,e1,c1];refine⟨⟨f0,f1,f5,f36,i+1,ZT,rfl,?_⟩,?_⟩
   .rw[hG,set_set,XI]
   .simp only[vi,Zr,↓reduceIte,f37];omega
  .have Xv:¬(i:Int)<3:=pA;obtain rfl:i=3:=pA;have c3:((3:Nat):Int)=3:=rfl;rw[c3]at f37 Xv;rw[Zl0]at jo wB lB ⊢;have B3:Zj h.size h (h2.setIfInBounds bc (O ((QB key).map bv++ZG).toArray 5)):=B2.Zt hbc _;generalize h2.setIfInBounds bc (O ((QB key).map bv++ZG).toArray 5)=h3 at *;have Zdv:=Dj key;have oc:YB h.size 5 h3 (ab (ag ⟨bc,0,bb⟩) (D L) cap) (QB key):=
    ⟨.inr ⟨bc,cap,ZG,hbc,by rw[l16,Zdv],jo,IQ,by rw[NV,l16,Zdv],pA⟩,wB⟩
   simp -implicitDefEqProofs only[go_sem,f0,f1,f5,f36,f37,Xv];refine (KP T _ _ (QB key) 0 oc.bs Zdv pA).use ?_;rintro _ h4 ⟨rfl,b4⟩;have B4:Zj h.size h h4:=B3.trans (b4.mono B3.size);have hR:=Nm wB Zdv;have hrv:Xc (BG (X4 (QB key)) 0)=X4 (QB key):=by rw[Fw hR,b7,b9]
   have hrl:=BR (t:=0) hR pA;have hrn:=OG (X4 (QB key)) 0;obtain⟨R,hRR⟩:=ZL (BG (X4 (QB key)) 0);rw[<-hRR]at hrv hrl hrn ⊢;have lR:(R.map uv).length=5:=by simpa using hrn
   have hoR:(R.map uv).all YE=true:=by simp[uv,YE]
   have lp:Xd [Value.int U 0,j U 0,j U 0,j U 0,j U 0] 0 (R.map uv)=R.map uv:=ZW lR;simp -implicitDefEqProofs only[go_sem,f0,f1,f5,f36,f37,lR,hoR,lp];obtain⟨bR,hbR⟩:∃b,b=h4.size:=⟨_,rfl⟩
   obtain⟨bA,hbA⟩:∃b,b=h4.size+1:=⟨_,rfl⟩
   obtain⟨H,hH⟩:=ZL (((h4.push (O (R.map uv).toArray 194)).push (O #[j U 0,j U 0,j U 0,j U 0,j U 0] 194)):Hp);have HB:Zj h.size h H:=by rw[hH];exact (B4.YX B4.size _).YX (by have:=B4.size;simp;omega) _
   have HR:H[bR]? = ag (YW R):=by
    rw[hH,hbR,ZJ IQ,Zc];unfold YW;rw[aw]
   have HA:H[bA]? = ag (YW [0,0,0,0,0]):=by
    have:=Zc (h:=(h4.push (O (R.map uv).toArray 194))) (o:=O #[j U 0,j U 0,j U 0,j U 0,j U 0] 194);rw[bo]at this;rw[hH,hbA,this];rfl
   have Zl2:h.size<=bR:=by have:=B4.size;omega
   rw[<-hH,<-hbA,<-hbR];have ZF7:bA=bR+1:=pA;clear hH hbA hbR;have sd0:Bs h (F 1) (data.drop (16*0)):=by rw[f1];exact sd
   have cu0:RY (F 1):=by rw[f1];exact cu
   refine VS.Yk (fun F g=>F 0=ab p (D key) c/\F 10=al (ag ⟨bR,0,bb⟩)/\F 11=al (ag ⟨bA,0,bb⟩)/\Zj h.size h g/\g[bR]? = ag (YW R)/\∃(k:Nat) (A:List Nat),16*k<(D data)+16/\Bs h (F 1) (data.drop (16*k))/\RY (F 1)/\g[bA]? = ag (YW A)/\(D A)=5/\Y5 134217728 A/\Xc A%Rr=zn (X4 (QB key)) data k)
    (fun F _=>ZtS (F 1)) rfl ⟨f0,rfl,rfl,HB,HR,0,[0,0,0,0,0],pA,sd0,cu0,HA,rfl,Y5.HN pA pA pA pA pA,rfl⟩ ?_
   clear f0 f1 f5 f36 f37 Xv sd0 cu0 F HB HR HA H;rintro F g ⟨f0,f10,f11,hg,gR,k,A,ZF8,s1,zD,gA,lA5,PM,Ux⟩;obtain⟨q,d,f1,hqc⟩:=s1.open;rw[f1]at s1 zD;have zD:(data.drop (16*k)).length<=d:=zD;have ZtW:(data.drop (16*k)).length=(D data)-16*k:=ca;by_cases ZT:16*k<(D data)
   .have hgt:(0:Int)<((data.drop (16*k)).length:Int):=pA;obtain⟨rest,Fy⟩:=ZL (data.drop (16*k));have ya:ZlR data k=rest.take 16++[1]:=by rw[Fy];rfl
    have XI:data.drop (16*(k+1))=rest.drop 16:=by rw[Fy,List.drop_drop];congr 1
    have Zl3:Dg rest:=by rw[Fy];exact fun x hx=>wd x (bB hx)
    rw[<-Fy]at f1 s1 zD hqc hgt ZtW;clear Fy;have z17:(#[Value.int Y 0,j Y 0,j Y 0,j Y 0,j Y 0,j Y 0,j Y 0,j Y 0,j Y 0,j Y 0,j Y 0,j Y 0,j Y 0,j Y 0,j Y 0,j Y 0,j Y 0]:Array Value)=((Q 17 0).map bv).toArray:=rfl;simp -implicitDefEqProofs only[go_sem,f0,f1,f10,f11,hgt,z17];have X3:=RW rest;refine GX (E:=5) (E':=196) (c:=(Q 17 0).map bv) Xl TA Zc ((s1.Yz hg).Yz (Zj.push (bx _) _)).sl X3 VL ?_;obtain⟨n,hn⟩:=ZL (min (D rest) 16);have hB:(rest.map bv).take n=(rest.take n).map bv:=List.map_take.symm;have hBl:(rest.take n).length=n:=aad;have Zl4:rest.take n=rest.take 16:=by
     by_cases hc:(D rest)<=16
     .rw[ae pA,ae pA]
     .rw[hn,Nat.min_eq_right pA]
    rw[<-hn,hB,rL 17 _ pA,hBl,Zl4];rw[Zl4]at hBl;have Zl5:Dg (rest.take 16):=fun x hx=>Zl3 x (ba hx);obtain⟨B,hBB⟩:=ZL (rest.take 16);rw[<-hBB]at hBl ya Zl5 ⊢;have e17:(B++Q (17-n) 0).set n 1=Jf B:=by rw[<-hBl];exact rG pA
    have ZtX:(n:Int)<17:=pA;have ZzY:((B++Q (17-n) 0).map bv).set n (j Y 1)=(Jf B).map bv:=by rw[<-e17,List.map_set];rfl
    have Zl6:(B++Q (17-n) 0).length=17:=VL;have ZtY:=hg.size;have ZzZ:=Za gR;have Zz0:=Za gA;obtain⟨bw,hbw⟩:=ZL (g.size);have hGR:∀o,((g.push o).setIfInBounds bw (O ((B++Q (17-n) 0).map bv).toArray 196))[bR]? = ag (YW R):=fun o=>by
     rw[aa,if_neg pA,ZJ pA];exact gR
    have hGA:∀o,((g.push o).setIfInBounds bw (O ((B++Q (17-n) 0).map bv).toArray 196))[bA]? = ag (YW A):=fun o=>by
     rw[aa,if_neg pA,ZJ pA];exact gA
    have hGW:∀o,((g.push o).setIfInBounds bw (O ((B++Q (17-n) 0).map bv).toArray 196))[bw]? = ag (O ((B++Q (17-n) 0).map bv++[]).toArray 196):=fun o=>by
     rw[aw,hbw];exact Yd Zc
    have hGB:∀o,Zj h.size h ((g.push o).setIfInBounds bw (O ((B++Q (17-n) 0).map bv).toArray 196)):=fun o=>(hg.YX ZtY _).Zt pA _;have hGS:∀o,((g.push o).setIfInBounds bw (O ((B++Q (17-n) 0).map bv).toArray 196)).size=bw+1:=fun o=>by rw[bh,bo,hbw]
    rw[<-hbw];specialize hGR (O ((Q 17 0).map bv).toArray 196);specialize hGA (O ((Q 17 0).map bv).toArray 196);specialize hGW (O ((Q 17 0).map bv).toArray 196);specialize hGB (O ((Q 17 0).map bv).toArray 196);specialize hGS (O ((Q 17 0).map bv).toArray 196);obtain⟨G1,vu⟩:=ZL (((g.push (O ((Q 17 0).map bv).toArray 196)).setIfInBounds bw (O ((B++Q (17-n) 0).map bv).toArray 196)));rw[<-vu]at hGR hGA hGW hGB hGS ⊢;clear vu;have c1:QX G1 ⟨bw,n,bb⟩ (j Y 1)=_:=Yx (f:=bv) hGW (i:=n) (by rw[Zl6];omega) 1 rfl;rw[e17]at c1;have hW2:=Yd (o:=O ((Jf B).map bv++[]).toArray 196) hGW;have hR2:(G1.setIfInBounds bw (O ((Jf B).map bv++[]).toArray 196))[bR]? = ag (YW R):=by rw[aa,if_neg pA];exact hGR
    have hA2:(G1.setIfInBounds bw (O ((Jf B).map bv++[]).toArray 196))[bA]? = ag (YW A):=by rw[aa,if_neg pA];exact hGA
    have Oe:Zj h.size h (G1.setIfInBounds bw (O ((Jf B).map bv++[]).toArray 196)):=hGB.Zt pA _;have hS2:(G1.setIfInBounds bw (O ((Jf B).map bv++[]).toArray 196)).size=bw+1:=by rw[bh,hGS]
    obtain⟨G2,mT⟩:=ZL (G1.setIfInBounds bw (O ((Jf B).map bv++[]).toArray 196));rw[<-mT]at c1 hW2 hR2 hA2 Oe hS2;clear mT hGR hGA hGW hGB hGS;have l17:=BS (l:=B) pA;have w17:=zw Zl5;have o17:YB h.size 196 G2 (ab (ag ⟨bw,0,bb⟩) 17 17) (Jf B):=
     ⟨.inr ⟨bw,17,[],pA,by rw[l17],hW2,IQ,by rw[l17];rfl,pA⟩,w17⟩
    have s17:=Nl o17.bs (m:=16) pA 17;have t17:((Jf B).take 16).length=16:=aad;have g16:=Z8 hW2 (i:=16) pA;unfold bv at g16;have Zhr:=rF (l:=B) pA;have HJ:=rE (l:=B) pA;have wt:=Nm (l:=(Jf B).take 16) (fun x hx=>w17 x (ba hx)) t17;obtain⟨Z5,LP⟩:=ZL ((Jf B).getD 16 0);rw[<-LP]at g16 Zhr HJ;have em:((Z5:Nat):Int)%18446744073709551616=(Z5:Nat):=pA;simp -implicitDefEqProofs only[go_sem,f0,f1,f10,f11,ZtX,aD,Zl6,c1];refine VS.w (bw+1) [] (.q 0 (.q 1 (.q 2 (.q 3 (.q 5 (.s 4 .nil)))))) mixed vM ?_;simp -implicitDefEqProofs only[go_sem,g16,em];refine (KP T _ _ ((Jf B).take 16) Z5 s17 t17 Zhr).use ?_;rintro _ G3 ⟨rfl,b3⟩;rw[hS2]at b3;have hR3:=b3.get (k:=bR) pA hR2;have hA3:=b3.get (k:=bA) pA hA2;have hB3:Zj h.size h G3:=Oe.trans (b3.mono pA);have hxv:=Fw (t:=Z5) wt;rw[HJ]at hxv;have BT:=BR (t:=Z5) wt Zhr;have hxn:=OG (X4 ((Jf B).take 16)) Z5;obtain⟨X,hX⟩:=ZL (BG (X4 ((Jf B).take 16)) Z5);rw[<-hX]at hxv BT hxn ⊢;rw[<-ya]at hxv;have b3T:Zj (bw+1) G2 G3=True:=eq_true b3;simp -implicitDefEqProofs only[go_sem,b3T];refine VS.Yk (fun F g=>F 0=ab p (D key) c/\F 1=ab q (D rest) d/\F 10=al (ag ⟨bR,0,bb⟩)/\F 11=al (ag ⟨bA,0,bb⟩)/\F 66=.agg (X.map uv).toArray/\∃i:Nat,i<=5/\F 67=j W i/\g=G3.setIfInBounds bA (YW (Rs A X i)))
     (fun F _=>5-(vi (F 67)).toNat) rfl ⟨f0,f1,f10,f11,rfl,0,pA,rfl,(Vm hA3).symm⟩ ?_
    clear f0 f1 f10 f11 F gR gA hg;rintro F g' ⟨f0,f1,f10,f11,f66,i,hi,f67,rfl⟩;have fW:(G3.setIfInBounds bA (YW (Rs A X i)))[bA]? = ag (YW (Rs A X i)):=Yd hA3;have lN:(Rs A X i).length=5:=by rw[I0,lA5]
    have wN:=nj PM BT pA pA i;by_cases i9:i<5
    .have yQ:(i:Int)<5:=pA;have hnx:Rs A X (i+1)=(Rs A X i).set i ((Rs A X i).getD i 0+X.getD i 0):=rfl;obtain⟨r,hr⟩:=ZL (Rs A X i);rw[<-hr]at fW lN wN hnx ⊢;obtain⟨G,hG⟩:=ZL (G3.setIfInBounds bA (YW r));rw[<-hG]at fW ⊢;have n1:=BL (l:=X) (i:=i) pA;have g1:=Z8 fW (i:=i) pA;unfold uv at g1;have y1:=wN.getD pA i;have y2:=BT.getD pA i;obtain⟨a,ha⟩:=ZL (r.getD i 0);obtain⟨b,hb⟩:=ZL (X.getD i 0);rw[<-ha]at g1 y1 hnx;rw[<-hb]at n1 y2 hnx;have e1:(a:Int)+(b:Int)=((a+b:Nat):Int):=rfl;have e2:((a+b:Nat):Int)%18446744073709551616=((a+b:Nat):Int):=pA;have c2:QX G ⟨bA,i,bb⟩ (j U (a+b:Nat))=_:=Yx (f:=uv) fW (i:=i) pA (a+b) rfl;simp -implicitDefEqProofs only[go_sem,f0,f1,f10,f11,f66,f67,yQ,aD,bl,n1,g1,e1,e2,c2];refine⟨⟨f0,f1,f10,f11,f66,i+1,i9,rfl,?_⟩,?_⟩
     .rw[hG,set_set,hnx];rfl
     .simp only[vi,Zr,↓reduceIte,f67];omega
    .have Zdi:¬(i:Int)<5:=pA;obtain rfl:i=5:=pA;have c5:((5:Nat):Int)=5:=rfl;rw[c5]at f67 Zdi;obtain⟨wN5,vN5⟩:=zv lA5 hxn PM BT;have hR4:(G3.setIfInBounds bA (YW (Rs A X 5)))[bR]? = ag (YW R):=by rw[aa,if_neg pA];exact hR3
     have mZ:Zj h.size h (G3.setIfInBounds bA (YW (Rs A X 5))):=hB3.Zt pA _;obtain⟨N,hN⟩:=ZL (Rs A X 5);rw[<-hN]at fW lN wN5 vN5 hR4 mZ ⊢;generalize G3.setIfInBounds bA (YW N)=G4 at *;have r1:=OE lN fW;have r2:=OE hrn hR4;have lNm:(N.map uv).length=5:=by simpa using lN
     have tN:(N.map uv).take 5=N.map uv:=ae pA;have tR:(R.map uv).take 5=R.map uv:=ae pA;simp -implicitDefEqProofs only[go_sem,f0,f1,f10,f11,f66,f67,Zdi,r1,r2];refine (bV T G4 N R lN hrn wN5 hrl).use ?_;rintro _ G5 ⟨rfl,b5⟩;obtain⟨w1,w2,w3⟩:=D3 lN hrn wN5 hrl;obtain⟨m1,m2,m3,_⟩:=Nk w2 w1;obtain⟨M,hM⟩:=ZL (Jc (V1 N R 5));rw[<-hM]at m1 m2 m3 ⊢;have hA5:=b5.get (Za fW) fW;have hR5:=b5.get (Za hR4) hR4;have hB5:Zj h.size h G5:=mZ.trans (b5.mono mZ.size);have lM:(M.map uv).length=5:=by simpa using m1
     have hoM:(M.map uv).all YE=true:=by simp[uv,YE]
     have w5:=Ye (h:=G5) (b:=bA) (l:=(N.map uv)) (by unfold YW at hA5;rw[aw]at hA5;exact hA5) 0 (M.map uv);rw[if_pos ⟨by simp[lM,lNm],hoM⟩,ZW (by simp[lM,lNm])]at w5;have Wx:((D rest):Int)<=d:=pA;obtain⟨mn,hmn⟩:=ZL (min 16 (D rest));have zc:(if ((D rest):Int)<16 then ((D rest):Int) else 16)=((mn:Nat):Int):=by split<;>omega
     have Zt4:(mn:Int)<=(D rest):=pA;have Zma:rest.drop mn=data.drop (16*(k+1)):=by
      rw[XI];by_cases hc:(D rest)<=16
      .rw[aO pA,aO pA]
      .rw[hmn,Nat.min_eq_left pA]
     have s2:=Ng s1 rfl (k:=mn) pA zD (d-mn);rw[Zma]at s2;have Zmb:Xc M%Rr=zn (X4 (QB key)) data (k+1):=by
      rw[m3,w3,vN5,hxv,hrv,zn,<-Ux,Nat.mul_mod,<-Nat.mod_add_mod,<-Nat.mul_mod]
     simp -implicitDefEqProofs only[go_sem,f0,f1,f10,f11,w5,lM,zc,Zt4,aD,WM];refine⟨⟨f0,f10,f11,hB5.Zt pA _,?_,k+1,M,pA,s2,?_,?_,m1,m2,Zmb⟩,?_⟩
     .rw[aa,if_neg pA];exact hR5
     .show (D rest)-mn<=d-mn;omega
     .have:=Yd (o:=O (M.map uv).toArray 194) hA5;unfold YW;rw[aw];exact this
     .show (D rest)-mn<(D rest);omega
   .have Zmc:¬(0:Int)<((data.drop (16*k)).length:Int):=pA;have hk2:k=((D data)+15)/16:=pA;rw[hk2]at Ux;obtain⟨rest,Fy⟩:=ZL (data.drop (16*k));rw[<-Fy]at f1 Zmc;have r1:=OE lA5 gA;have tA:(A.map uv).take 5=A.map uv:=ae (by simp[lA5]);simp -implicitDefEqProofs only[go_sem,f0,f1,f10,f11,Zmc,r1];refine (bW T g A lA5 (PM.mono aaa)).use ?_;rintro _ g6 ⟨rfl,b6⟩;obtain⟨m1,m2,m3,m4⟩:=Nk lA5 (PM.mono aaa);obtain⟨q1,q2,q3⟩:=rn m1 m2 m4;rw[m3,Ux]at q3;obtain⟨M,hM⟩:=ZL (OD (Jc A));rw[<-hM]at q1 q2 q3 ⊢;have hA6:=b6.get (Za gA) gA;have hB6:Zj h.size h g6:=hg.trans (b6.mono hg.size);have lM:(M.map uv).length=5:=by simpa using q1
    have lAm:(A.map uv).length=5:=by simpa using lA5
    have hoM:(M.map uv).all YE=true:=by simp[uv,YE]
    have w5:=Ye (h:=g6) (b:=bA) (l:=(A.map uv)) (by unfold YW at hA6;rw[aw]at hA6;exact hA6) 0 (M.map uv);rw[if_pos ⟨by simp[lM,lAm],hoM⟩,ZW (by simp[lM,lAm])]at w5;have hB7:Zj h.size h (g6.setIfInBounds bA (O (M.map uv).toArray 194)):=hB6.Zt pA _;have hA7:(g6.setIfInBounds bA (O (M.map uv).toArray 194))[bA]? = ag (YW M):=by
     have:=Yd (o:=O (M.map uv).toArray 194) hA6;unfold YW;rw[aw];exact this
    obtain⟨g7,hg7⟩:=ZL (g6.setIfInBounds bA (O (M.map uv).toArray 194));rw[<-hg7]at w5 hB7 hA7;clear hg7;have sm:Bs g7 (ab (iY p 1 c 16) 16 (c-16)) ((key.drop 16).take 16):=Zhm (sk.Yz hB7) rfl pA ck _;have Zhs:((key.drop 16).take 16).length=16:=by rw[List.length_take,ca];omega
    have u2:(32:Int)<=c:=pA;have wkl:Dg ((key.drop 16).take 16):=fun x hx=>wk x (bB (ba hx));simp -implicitDefEqProofs only[go_sem,f0,f1,f10,f11,w5,lM,u2,WM];refine (KP T _ _ _ 0 sm Zhs pA).use ?_;rintro _ g8 ⟨rfl,b8⟩;have hSv:=Fw (t:=0) (Nm wkl Zhs);rw[b7,b9]at hSv;have hSl:=BR (t:=0) (Nm wkl Zhs) pA;have hSn:=OG (X4 ((key.drop 16).take 16)) 0;obtain⟨S,hS⟩:=ZL (BG (X4 ((key.drop 16).take 16)) 0);rw[<-hS]at hSv hSl hSn ⊢;clear hS;have hA8:=b8.get (Za hA7) hA7;have hB8:Zj h.size h g8:=hB7.trans (b8.mono hB7.size);have lS:(S.map uv).length=5:=by simpa using hSn
    have hoS:(S.map uv).all YE=true:=by simp[uv,YE]
    have lpS:Xd [Value.int U 0,j U 0,j U 0,j U 0,j U 0] 0 (S.map uv)=S.map uv:=ZW lS;simp -implicitDefEqProofs only[go_sem,f0,f1,f10,f11,lS,hoS,lpS,Zho];have T0:Zdp key data=Xc M+Xc S:=by rw[q3,hSv];rfl
    have hB9:Zj (g8.size+1) (g8.push (O (S.map uv).toArray 194)) ((g8.push (O (S.map uv).toArray 194)).push (O ((Q 16 0).map bv).toArray 5)):=Zj.push IQ _;have hS9:(g8.push (O (S.map uv).toArray 194))[g8.size]? = ag (YW S):=by rw[Zc];unfold YW;rw[aw]
    have hA9:(g8.push (O (S.map uv).toArray 194))[bA]? = ag (YW M):=by rw[ZJ (Za hA8)];exact hA8
    have hH9:Zj h.size h (g8.push (O (S.map uv).toArray 194)):=hB8.YX hB8.size _;have o9:YB (g8.size+1) 5 ((g8.push (O (S.map uv).toArray 194)).push (O ((Q 16 0).map bv).toArray 5)) (ab (ag ⟨g8.size+1,0,bb⟩) 0 16) []:=by
     refine⟨.inr ⟨g8.size+1,16,(Q 16 0).map bv,bx _,rfl,?_,rfl,IQ,Nat.zero_le _⟩,fun x hx=>by cases hx⟩;have:=Zc (h:=g8.push (O (S.map uv).toArray 194)) (o:=O ((Q 16 0).map bv).toArray 5);rw[bo]at this;exact this
    have Zub:=Za hA8;have Zmd:=hB8.size;have hz9:(g8.push (O (S.map uv).toArray 194)).size=g8.size+1:=IQ;obtain⟨bS,hbS⟩:∃b,b=g8.size:=⟨_,rfl⟩
    rw[<-hbS]at hB9 hS9 o9 Zub Zmd hz9 ⊢;obtain⟨J,hJ⟩:=ZL (g8.push (O (S.map uv).toArray 194));rw[<-hJ]at hB9 hS9 hA9 hH9 o9 hz9 ⊢;clear hJ;refine VS.Yk (fun F g=>F 11=al (ag ⟨bA,0,bb⟩)/\F 16=al (ag ⟨bS,0,bb⟩)/\Zj (bS+1) J g/\∃(i n sum bits:Nat) (out:List Nat),i<=5/\F 87=j W i/\F 18=j U sum/\F 19=j U bits/\F 20=j W n/\YB (bS+1) 5 g (F 17) out/\(D out)=n/\bits<8/\26*i=8*n+bits/\sum<8*2 ^ bits/\Zdp key data=X4 out+256 ^ n*(sum+2 ^ bits*LO (M.drop i) (S.drop i)))
     (fun F _=>5-(vi (F 87)).toNat) rfl ⟨f11,rfl,hB9,0,0,0,0,[],pA,rfl,rfl,rfl,rfl,o9,rfl,pA,pA,pA,by rw[T0,cd,cd,cj _ _ pA];simp[X4]⟩ ?_
    clear f0 f1 f10 f11 F hB9 o9;rintro F g' ⟨f11,f16,EL,i,n,sum,bits,out,hi,f87,f18,f19,f20,ho,hol,hb8,hbn,rP,hT⟩;have gA':=EL.get (k:=bA) pA hA9;have gS':=EL.get (k:=bS) pA hS9;have Zmf:=EL.size;by_cases ZT:i<5
    .have Z7:(i:Int)<5:=pA;rw[jA pA pA]at hT;have g1:=Z8 gA' (i:=i) pA;have g2:=Z8 gS' (i:=i) pA;unfold uv at g1 g2;have y1:=q2.getD pA i;have y2:=hSl.getD pA i;obtain⟨a,ha⟩:=ZL (M.getD i 0);obtain⟨b,hb⟩:=ZL (S.getD i 0);rw[<-ha]at g1 y1 hT;rw[<-hb]at g2 y2 hT;have hT2:=Zdu hT;have cC:=rN (c:=a+b) rP pA;have p8:=rM hb8;have C0:(a+b)*2 ^ bits<=268435455*128:=Nat.mul_le_mul pA p8;have Zud:sum<1024:=pA;have e1:(a:Int)+(b:Int)=((a+b:Nat):Int):=rfl;have e2:((a+b:Nat):Int)%18446744073709551616=((a+b:Nat):Int):=pA;have e3:Xr U ((a+b:Nat):Int) (bits:Int)=(((a+b)*2 ^ bits:Nat):Int):=by
      rw[Gj _ _ pA,Nat.mod_eq_of_lt pA]
     obtain⟨cc,hcc⟩:=ZL ((a+b)*2 ^ bits);rw[<-hcc]at e3 C0 hT2 cC;have e4:(sum:Int)+(cc:Int)=((sum+cc:Nat):Int):=rfl;have e5:((sum+cc:Nat):Int)%18446744073709551616=((sum+cc:Nat):Int):=pA;have e6:(bits:Int)+26=((bits+26:Nat):Int):=rfl;have e7:((bits+26:Nat):Int)%18446744073709551616=((bits+26:Nat):Int):=pA;have e8:¬(bits:Int)<0:=pA;simp -implicitDefEqProofs only[go_sem,f11,f16,f18,f19,f20,f87,Z7];refine VS.q mixed vM ?_;simp -implicitDefEqProofs only[go_sem,f11,f16,f18,f19,f20,f87,Z7,aD,bl,g1,g2,e1,e2,e3,e4,e5,e6,e7,e8];refine VS.Yk (fun F g=>F 11=al (ag ⟨bA,0,bb⟩)/\F 16=al (ag ⟨bS,0,bb⟩)/\F 87=j W i/\Zj (bS+1) J g/\∃(n sum bits:Nat) (out:List Nat),F 18=j U sum/\F 19=j U bits/\F 20=j W n/\YB (bS+1) 5 g (F 17) out/\(D out)=n/\bits<34/\26*(i+1)=8*n+bits/\sum<8*2 ^ bits/\Zdp key data=X4 out+256 ^ n*(sum+2 ^ bits*LO (M.drop (i+1)) (S.drop (i+1))))
      (fun F _=>(vi (F 19)).toNat) rfl ⟨f11,f16,f87,EL,n,sum+cc,bits+26,out,rfl,rfl,f20,ho,hol,pA,pA,cC,hT2⟩ ?_
     clear f11 f16 f18 f19 f20 f87 ho hol hT hT2 rP cC hbn hb8 EL gA' gS' Zmf g1 g2 e3 e4 e5 e6 e7 e8 p8 C0 hcc Zud F cc;clear n sum bits out g';rintro F g' ⟨f11,f16,f87,EL,n,sum,bits,out,f18,f19,f20,ho,hol,hb8,hbn,rP,hT⟩;have Zmf:=EL.size;by_cases hb:8<=bits
     .have GO:(8:Int)<=bits:=pA;have hn1:(n:Int)<16:=pA;have cC:=rO rP hb;have hT2:=zC hb hT;have hp:2 ^ bits<=2 ^ 34:=bz aaa pA;have Od:sum<18446744073709551616:=Nat.lt_of_lt_of_le rP (Nat.le_trans (Nat.mul_le_mul_left 8 hp) aaa);have em:((sum:Nat):Int)%256=((sum%256:Nat):Int):=rfl;have es:XF U (sum:Int) 8=((sum/256:Nat):Int):=Nj sum 8 aaa;have eb:(bits:Int)-8=((bits-8:Nat):Int):=pA;have eb2:((bits-8:Nat):Int)%18446744073709551616=((bits-8:Nat):Int):=pA;simp -implicitDefEqProofs only[go_sem,f11,f16,f18,f19,f20,f87,GO,hn1,em];have hX:sum%256<256:=pA;refine ZK (E:=5) (B:=bS+1) Xl b2 TA Sn Sm (ho.push _) VL (Bs.one hX 1) VL ?_;intro v' h' Mr Qi _;simp -implicitDefEqProofs only[go_sem,f11,f16,f18,f19,f20,f87,es,eb,eb2];refine⟨⟨f11,f16,f87,(EL.YX pA _).trans Qi,n+1,sum/256,bits-8,out++[sum%256],rfl,rfl,rfl,Mr,by simp[hol],pA,pA,cC,?_⟩,?_⟩
      .rw[hT2,jB,hol]
      .simp only[vi,Zr,↓reduceIte,Nat.reduceEqDiff,f19];omega
     .have GO:¬(8:Int)<=bits:=pA;have e9:(i:Int)+1=((i+1:Nat):Int):=rfl;simp -implicitDefEqProofs only[go_sem,f11,f16,f18,f19,f20,f87,GO,e9];refine⟨⟨f11,f16,EL,i+1,n,sum,bits,out,ZT,rfl,f18,f19,f20,ho,hol,pA,hbn,rP,hT⟩,?_⟩;simp only[vi,Zr,↓reduceIte,f87];omega
    .have Xv:¬(i:Int)<5:=pA;obtain rfl:i=5:=pA;have c5:((5:Nat):Int)=5:=rfl;rw[c5]at f87 Xv;obtain rfl:n=16:=pA;have e0:LO (M.drop 5) (S.drop 5)=0:=by rw[aO pA,aO pA];rfl
     rw[e0,b7,b9]at hT;have jv:=rH ho.byte hol hT;have htl:jr key data=out:=jv.symm;simp -implicitDefEqProofs only[go_sem,f11,f16,f18,f19,f20,f87,Xv];rw[htl];exact⟨ho.mono pA,hH9.trans (EL.mono pA)⟩
theorem cD(T:World)(h:Hp)(v u:Value)(key data:List Nat)(sk:Bs h v key)(sd:Bs h u data)(ck:RY v)(cu:RY u):
  Zd Tryz.prog T 65 #[v,u] h fun v' h'=>zo h.size h' v' key data/\Zj h.size h h':=by
 obtain⟨p,c,rfl,hkc⟩:=sk.open;obtain⟨q,d,rfl,hdc⟩:=sd.open;refine Zd.XS [_,_] Tryz.func65 ?_;unfold zo;by_cases hk:(D key)=32
 .by_cases hd:4000<(D data)
  .have hd':4000<((D data):Int):=pA;have Ln:((D key):Int)=32:=pA;have e:SQ key data=1:=by unfold SQ;rw[if_pos (.inr hd)]
   rw[e];simp -implicitDefEqProofs only[go_sem,hd',Ln];exact⟨_,rfl,YB.nil _ _ _⟩
  .have hd':¬4000<((D data):Int):=pA;have Ln:((D key):Int)=32:=pA;have e:SQ key data=0:=by unfold SQ;rw[if_neg pA]
   rw[e,if_pos rfl];simp -implicitDefEqProofs only[go_sem,hd',Ln];refine (jC T _ _ _ key data sk sd hk pA ck cu).use ?_;rintro v1 h1 ⟨o1,b1⟩;simp -implicitDefEqProofs only[go_sem];exact⟨⟨_,rfl,o1⟩,b1⟩
 .have Ln:¬((D key):Int)=32:=pA;have e:SQ key data=1:=by unfold SQ;rw[if_pos (.inl hk)]
  rw[e];simp -implicitDefEqProofs only[go_sem,Ln];exact⟨_,rfl,YB.nil _ _ _⟩
end Go.Proofs.YthlfaofofaphfaaGreatDoor
