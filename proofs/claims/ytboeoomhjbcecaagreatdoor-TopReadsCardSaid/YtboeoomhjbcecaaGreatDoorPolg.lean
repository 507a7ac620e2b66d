/- The program's clamped key, its blocks' numbers and its last bytes, in plain numbers; no condition but those in the statements. -/
import Derived.Test.YtboeoomhjbcecaaGreatDoorPik
import Derived.Test.YtboeoomhjbcecaaGreatDoorW14
namespace Go.Proofs.YtboeoomhjbcecaaGreatDoor
open Go Go.V
set_option linter.unusedSimpArgs false
set_option linter.unusedVariables false
set_option maxRecDepth 100000
def aE (l:List Nat):Nat→List Nat
 | 0=>l
 | i+1=>(aE l i).set (4*i+3) ((aE l i).getD (4*i+3) 0%16)
def dW (l:List Nat):Nat→List Nat
 | 0=>l
 | i+1=>(dW l i).set (4*i+4) ((dW l i).getD (4*i+4) 0/4*4)
theorem KP (l:List Nat):∀i,(aE l i).length=l.length
 | 0=>rfl
 | i+1=>by rw[aE,List.length_set,KP l i]
theorem KQ (l:List Nat):∀i,(dW l i).length=l.length
 | 0=>rfl
 | i+1=>by rw[dW,List.length_set,KQ l i]
theorem aF {l:List Nat} (w:Dg l):∀i,Dg (aE l i)
 | 0=>w
 | i+1=>(aF w i).set _ (by have:=(aF w i).getD (4*i+3);omega)
theorem aG {l:List Nat} (w:Dg l):∀i,Dg (dW l i)
 | 0=>w
 | i+1=>(aG w i).set _ (by have:=(aG w i).getD (4*i+4);omega)
theorem vK {l:List Nat} (hl:l.length=16):dW (aE l 4) 3=Jh l:=by
 match l,hl with
 | [a0,a1,a2,a3,a4,a5,a6,a7,a8,a9,a10,a11,a12,a13,a14,a15],_=>rfl
theorem DU (key:List Nat):Jh key=Jh (key.take 16):=by
 unfold Jh;apply List.map_congr_left;intro i hi;have Da:i<16:=by simpa using hi
 have e:(key.take 16).getD i 0=key.getD i 0:=by
  rw[List.getD_eq_getElem?_getD,List.getElem?_take,if_pos Da,List.getD_eq_getElem?_getD]
 unfold oU;rw[e]
theorem iK {key:List Nat} (hk:key.length=32):dW (aE (key.take 16) 4) 3=Jh key:=by
 rw[DU];exact vK (by rw[List.length_take];omega)
theorem Rb {l:List Nat} (w:Dg l) (hl:l.length=16):Xd l<340282366920938463463374607431768211456:=by
 have:=Wl w (n:=16) (by omega);exact this
theorem Sy (n t:Nat):(FE n t).length=5:=rfl
theorem FN {n t:Nat} (hn:n<340282366920938463463374607431768211456) (ht:t≤1):Ym 67108864 (FE n t):=
 Ym.Ld (by omega) (by omega) (by omega) (by omega) (by omega)
theorem KR {n t:Nat} (hn:n<340282366920938463463374607431768211456):Yr (FE n t)=n+340282366920938463463374607431768211456*t:=by
 simp only[FE,Yr];omega
def V7 (a x:List Nat):Nat→List Nat
 | 0=>a
 | i+1=>(V7 a x i).set i ((V7 a x i).getD i 0+x.getD i 0)
theorem MA (a x:List Nat):∀i,(V7 a x i).length=a.length
 | 0=>rfl
 | i+1=>by rw[V7,List.length_set,MA a x i]
theorem dX {a x:List Nat} {K L:Nat} (wa:Ym K a) (wx:Ym L x) (hK:0<K) (hL:0<L):∀i,Ym (K+i*L) (V7 a x i)
 | 0=>by rw[Nat.zero_mul];exact wa
 | i+1=>by
  have h:=dX wa wx hK hL i;have q1:=h.getD (by omega) i;have q2:=wx.getD hL i;rw[V7,Nat.add_mul,Nat.one_mul];exact (h.mono (by omega)).set _ _ (by omega)
theorem ph {a x:List Nat} (ha:a.length=5) (hx:x.length=5) (wa:Ym 134217728 a) (wx:Ym 67108864 x):Ym 268435456 (V7 a x 5)∧Yr (V7 a x 5)=Yr a+Yr x:=by
 obtain⟨a0,a1,a2,a3,a4,rfl⟩:=Ld ha;obtain⟨x0,x1,x2,x3,x4,rfl⟩:=Ld hx;obtain⟨w0,w1,w2,w3,w4⟩:=wa.vE;obtain⟨u0,u1,u2,u3,u4⟩:=wx.vE;have e:V7 [a0,a1,a2,a3,a4] [x0,x1,x2,x3,x4] 5=[a0+x0,a1+x1,a2+x2,a3+x3,a4+x4]:=rfl;rw[e];exact⟨Ym.Ld (by omega) (by omega) (by omega) (by omega) (by omega),by simp only[Yr];omega⟩
theorem KT (a b:List Nat):Xd (a++b)=Xd a+256 ^ a.length*Xd b:=by
 induction a with
 | nil=>simp[Xd]
 | cons x a ih=>simp only[List.cons_append,Xd,ih,List.length_cons,Nat.pow_succ,Nat.mul_add,Nat.add_assoc];congr 2;rw[←Nat.mul_assoc,Nat.mul_comm 256]
theorem aH (n:Nat):Xd (List.replicate n 0)=0:=by
 induction n with
 | zero=>rfl
 | succ n ih=>rw[List.replicate_succ,Xd,ih]
def Xn (l:List Nat):List Nat:=l++[1]++List.replicate (16-l.length) 0
theorem FO {l:List Nat} (hl:l.length≤16):(Xn l).length=17:=by simp[Xn];omega
theorem iL {l:List Nat} (hl:l.length≤16):Xd ((Xn l).take 16)+340282366920938463463374607431768211456*(Xn l).getD 16 0=Xd (l++[1]):=by
 by_cases h:l.length=16
 ·have e1:(Xn l).take 16=l:=by unfold Xn;rw[List.append_assoc,List.take_left' h]
  have e2:(Xn l).getD 16 0=1:=by
   unfold Xn;rw[List.getD_eq_getElem?_getD,List.append_assoc,List.getElem?_append_right (by omega),h];rfl
  rw[e1,e2,KT,h];rfl
 ·have e2:(Xn l).getD 16 0=0:=by
   unfold Xn;rw[List.getD_eq_getElem?_getD,List.getElem?_append_right (by simp;omega),List.getElem?_replicate];split<;>rfl
  have e1:(Xn l).take 16=(l++[1])++List.replicate (15-l.length) 0:=by
   unfold Xn;rw[List.take_append,List.take_of_length_le (by simp;omega),List.take_replicate]
   congr 2
   simp;omega
  rw[e1,e2,KT,aH];omega
theorem iM {l:List Nat} (hl:l.length≤16):(Xn l).getD 16 0≤1:=by
 by_cases h:l.length=16
 ·have e2:(Xn l).getD 16 0=1:=by
   unfold Xn;rw[List.getD_eq_getElem?_getD,List.append_assoc,List.getElem?_append_right (by omega),h];rfl
  omega
 ·have e2:(Xn l).getD 16 0=0:=by
   unfold Xn;rw[List.getD_eq_getElem?_getD,List.getElem?_append_right (by simp;omega),List.getElem?_replicate];split<;>rfl
  omega
theorem pj {l:List Nat} (w:Dg l):Dg (Xn l):=by
 intro x hx;unfold Xn at hx;simp only[List.mem_append,List.mem_singleton,List.mem_replicate]at hx;rcases hx with (h|h)|h
 ·exact w x h
 ·omega
 ·omega
theorem iN {l:List Nat} (hl:l.length≤16):(l++List.replicate (17-l.length) 0).set l.length 1=Xn l:=by
 have e:List.replicate (17-l.length) 0=0 :: List.replicate (16-l.length) 0:=by rw[←List.replicate_succ];congr 1;omega
 rw[e,List.set_append_right _ _ (Nat.le_refl _),Nat.sub_self,List.set_cons_zero];unfold Xn;rw[List.append_assoc];rfl
def OH:List Nat→List Nat→Nat
 | x :: l,y :: k=>(x+y)+67108864*OH l k
 | _,_=>0
theorem DW:∀(l k:List Nat),l.length=k.length→OH l k=Yr l+Yr k
 | [],[],_=>rfl
 | x :: l,y :: k,h=>by simp only[OH,Yr];rw[DW l k (by simpa using h)];omega
theorem iO {out:List Nat} {t R:Nat} (w:Dg out) (hl:out.length=16) (h:t=Xd out+256 ^ 16*R):out=(List.range 16).map fun i=>t/256 ^ i%256:=by
 apply List.ext_getElem?;intro i;by_cases hi:i<16
 ·rw[List.getElem?_map,List.getElem?_range hi];have e:=aq w i;rw[List.getD_eq_getElem?_getD,List.getElem?_eq_getElem (by omega)]at e;rw[List.getElem?_eq_getElem (by omega)];simp only[Option.map_some,Option.some.injEq];simp only[Option.getD_some]at e;rw[e,h];have e2:256 ^ 16*R=256 ^ i*(256*(256 ^ (15-i)*R)):=by
   rw[←Nat.mul_assoc 256,←Nat.mul_assoc,←Nat.pow_succ',←Nat.pow_add]
   congr 2;omega
  rw[e2,Nat.add_mul_div_left _ _ (Nat.pow_pos (by omega)),Nat.add_mul_mod_self_left]
 ·rw[List.getElem?_eq_none (by omega),List.getElem?_eq_none (by simp;omega)]
theorem po {T v n s B R:Nat} (hB:256≤B) (hd:B%256=0) (h:T=v+n*(s+B*R)):T=v+n*(s%256)+n*256*(s/256+B/256*R):=by
 have e:s+B*R=s%256+256*(s/256+B/256*R):=by
  have e1:B=256*(B/256):=by omega
  have e2:B*R=256*(B/256*R):=by rw[←Nat.mul_assoc,←e1]
  have e3:=Nat.mod_add_div s 256;rw[Nat.mul_add,e2];omega
 rw[h,e,Nat.mul_add,←Nat.mul_assoc,←Nat.add_assoc]
theorem iP {i:Nat} (hi:i<4):nth [Value.int .i64 3,.int .i64 7,.int .i64 11,.int .i64 15] i=some (.int .i64 ((4*i+3:Nat):Int)):=by
 match i,hi with
 | 0,_=>rfl
 | 1,_=>rfl
 | 2,_=>rfl
 | 3,_=>rfl
theorem iQ {i:Nat} (hi:i<3):nth [Value.int .i64 4,.int .i64 8,.int .i64 12] i=some (.int .i64 ((4*i+4:Nat):Int)):=by
 match i,hi with
 | 0,_=>rfl
 | 1,_=>rfl
 | 2,_=>rfl
theorem ZfU (x:Nat) (hx:x<256):Yc .and .u8 (x:Int) 15=((x%16:Nat):Int):=by
 have h:=nk x 15 hx (by decide);have e:x &&& 15=x%16:=Nat.and_two_pow_sub_one_eq_mod x 4;rw[e]at h;exact h
theorem ZbH (x:Nat) (hx:x<256):Yc .and .u8 (x:Int) 252=((x/4*4:Nat):Int):=by
 have h:=nk x 252 hx (by decide);have e:x &&& 252=x/4*4:=by
  have:∀y:Fin 256,y.val &&& 252=y.val/4*4:=by decide
  exact this ⟨x,hx⟩
 rw[e]at h;exact h
def Zn5:Value→Nat
 | .slice _ l _=>l
 | _=>0
theorem iR (n:Nat) (vs:List Nat) (h:vs.length≤n):Yw ((List.replicate n 0).map bv) 0 (vs.map bv)=(vs++List.replicate (n-vs.length) 0).map bv:=by
 rw[QA _ _ (by simpa using h),List.length_map,←List.map_drop,List.drop_replicate,List.map_append]
theorem aI {M S:List Nat} {i:Nat} (hM:i<M.length) (hS:i<S.length):OH (M.drop i) (S.drop i)=(M.getD i 0+S.getD i 0)+67108864*OH (M.drop (i+1)) (S.drop (i+1)):=by
 rw[List.drop_eq_getElem_cons hM,List.drop_eq_getElem_cons hS,OH,List.getD_eq_getElem?_getD,List.getD_eq_getElem?_getD,List.getElem?_eq_getElem hM,List.getElem?_eq_getElem hS];rfl
theorem vL {T v n s b c R:Nat} (h:T=v+n*(s+2 ^ b*(c+67108864*R))):T=v+n*(s+c*2 ^ b+2 ^ (b+26)*R):=by
 rw[h,Nat.mul_add (2 ^ b),Nat.mul_comm (2 ^ b) c,Nat.pow_add,←Nat.mul_assoc (2 ^ b),Nat.add_assoc]
theorem iS {b:Nat} (h:b<8):2 ^ b≤128:=by
 have:=Nat.pow_le_pow_right (show 0<2 by decide) (show b≤7 by omega);exact this
theorem iU {s c b:Nat} (hs:s<8*2 ^ b) (hc:c<268435456):s+c*2 ^ b<8*2 ^ (b+26):=by
 have h1:c*2 ^ b≤268435455*2 ^ b:=Nat.mul_le_mul_right _ (by omega);rw[Nat.pow_add];have:2 ^ 26=67108864:=rfl;rw[this];omega
theorem iW {s b:Nat} (hs:s<8*2 ^ b) (hb:8≤b):s/256<8*2 ^ (b-8):=by
 have:2 ^ b=2 ^ (b-8)*256:=by
  have e:b=b-8+8:=by omega
  rw[e,Nat.pow_add,Nat.add_sub_cancel]
 rw[this]at hs;omega
theorem pA {T v n s b R:Nat} (hb:8≤b) (h:T=v+256 ^ n*(s+2 ^ b*R)):T=v+256 ^ n*(s%256)+256 ^ (n+1)*(s/256+2 ^ (b-8)*R):=by
 have e:2 ^ b=2 ^ (b-8)*256:=by
  have e:b=b-8+8:=by omega
  rw[e,Nat.pow_add,Nat.add_sub_cancel]
 have hp:0<2 ^ (b-8):=Nat.pow_pos (by omega);have:=po (B:=2 ^ b) (by rw[e];omega) (by rw[e];omega) h;rw[show 2 ^ b/256=2 ^ (b-8) by rw[e,Nat.mul_div_cancel _ (by omega)]]at this;rw[Nat.pow_succ];exact this
theorem aJ (l:List Nat) (x:Nat):Xd (l++[x])=Xd l+256 ^ l.length*x:=by rw[KT];rfl
theorem ZbI:(X2 16 [Value.int .u8 0])=(List.replicate 16 0).map bv:=rfl
set_option maxHeartbeats 2000000 in
theorem aK (T:World) (h:Hp) (v u:Value) (key data:List Nat) (sk:Bs h v key) (sd:Bs h u data) (hk:key.length=32) (hd:data.length≤4000) (ck:VR v) (cu:VR u) :
  Zc Tryz.prog T 137 #[v,u] h fun v' h'=>Z0 h.size 5 h' v' (aA key data)∧Zf h.size h h':=by
 have wk:=sk.byte;have wd:=sd.byte;obtain⟨p,c,rfl,hkc⟩:=sk.UL;have ck:key.length≤c:=ck;have l16:(key.take 16).length=16:=by rw[List.length_take];omega
 have s16:=Ra sk (m:=16) (by omega) c;have c16:(16:Int)≤c:=by omega
 refine Zc.Zk (args:=[_,_]) Tryz.func137 rfl rfl rfl rfl ?_;simp -implicitDefEqProofs only[go_sem,↓reduceIte,c16];refine Zv (E:=5) (B:=h.size) YD Tryz.underlying48 Wg WY WX (Z0.nil _ _ _) (Nat.le_refl _) (by rw[hk]at sk;simpa using s16) (by rw[l16];decide) ?_;intro v1 h1 o1 b1 _;rw[List.nil_append]at o1;have o1n:=o1.own;rcases o1n with⟨_,hm,_⟩|⟨bc,cap,spare,hbc,rfl,Sg,XW,Ry,QO⟩
 ·omega
 obtain⟨L,hL⟩:=Zx (key.take 16);have wL:Dg L:=by rw[hL];exact fun x hx=>wk x (List.mem_of_mem_take hx)
 have ZfV:dW (aE L 4) 3=Jh key:=by rw[hL];exact iK hk
 rw[←hL]at l16 Sg XW Ry QO ⊢;clear o1 s16 hL;have ZzJ:=Za Sg;simp -implicitDefEqProofs only[go_sem,↓reduceIte];refine VS.ZW (fun F g=>F 0=.slice p key.length c∧F 1=u∧F 5=.slice (some ⟨bc,0,none⟩) L.length cap∧F 25=.agg #[.int .i64 3,.int .i64 7,.int .i64 11,.int .i64 15]∧∃i:Nat,i≤4∧F 26=.int .i64 i∧g=h1.setIfInBounds bc (.cells ((aE L i).map bv++spare).toArray 5))
  (fun F _=>4-(vi (F 26)).toNat) rfl ⟨rfl,rfl,rfl,rfl,0,by omega,rfl,(Uv Sg).symm⟩ ?_
 rintro F g ⟨f0,f1,f5,f25,i,hi,f26,rfl⟩;have hx:=ZT (o:=.cells ((aE L i).map bv++spare).toArray 5) Sg;have wA:=aF wL i;have lA:=KP L i;by_cases ZD:i<4
 ·have ZL:(i:Int)<4:=by omega
  have YX:aE L (i+1)=(aE L i).set (4*i+3) ((aE L i).getD (4*i+3) 0%16):=rfl;obtain⟨r,hr⟩:=Zx (aE L i);rw[←hr]at hx wA lA YX ⊢;obtain⟨G,hG⟩:=Zx (h1.setIfInBounds bc (.cells (r.map bv++spare).toArray 5));rw[←hG]at hx ⊢;have n1:=iP ZD;have g1:=ZN hx (i:=4*i+3) (by omega);have x1:=wA.getD (4*i+3);unfold bv at g1;obtain⟨x,tF⟩:=Zx (r.getD (4*i+3) 0);rw[←tF]at g1 x1 YX;have e1:=ZfU x x1;have hi1:((4*i+3:Nat):Int)<L.length:=by omega
  have c1:JJ G ⟨bc,4*i+3,none⟩ (.int .u8 (x%16:Nat))=_:=Z1 (f:=bv) hx (i:=4*i+3) (by omega) (x%16) rfl;simp -implicitDefEqProofs only[go_sem,↓reduceIte,f0,f1,f5,f25,f26,ZL,Int.toNat_natCast,Nat.zero_add,n1,hi1,g1,e1,c1];refine⟨⟨f0,f1,f5,f25,i+1,ZD,rfl,?_⟩,?_⟩
  ·rw[hG,set_set,YX]
  ·simp only[vi,Zi,↓reduceIte,f26];omega
 ·have YJ:¬(i:Int)<4:=by omega
  obtain rfl:i=4:=by omega
  have c4:((4:Nat):Int)=4:=rfl;rw[c4]at f26 YJ;obtain⟨L2,hL2⟩:=Zx (aE L 4);rw[←hL2]at hx wA lA ZfV ⊢;have B2:Zf h.size h (h1.setIfInBounds bc (.cells (L2.map bv++spare).toArray 5)):=b1.Zm hbc _;generalize h1.setIfInBounds bc (.cells (L2.map bv++spare).toArray 5)=h2 at *;clear hL2;simp -implicitDefEqProofs only[go_sem,↓reduceIte,f0,f1,f5,f25,f26,YJ];refine VS.ZW (fun F g=>F 0=.slice p key.length c∧F 1=u∧F 5=.slice (some ⟨bc,0,none⟩) L.length cap∧F 36=.agg #[.int .i64 4,.int .i64 8,.int .i64 12]∧∃i:Nat,i≤3∧F 37=.int .i64 i∧g=h2.setIfInBounds bc (.cells ((dW L2 i).map bv++spare).toArray 5))
   (fun F _=>3-(vi (F 37)).toNat) rfl ⟨f0,f1,f5,rfl,0,by omega,rfl,(Uv hx).symm⟩ ?_
  clear f0 f1 f5 f25 f26 YJ F;rintro F g ⟨f0,f1,f5,f36,i,hi,f37,rfl⟩;have ax:=ZT (o:=.cells ((dW L2 i).map bv++spare).toArray 5) hx;have wB:=aG wA i;have lB:=KQ L2 i;by_cases ZD:i<3
  ·have ZL:(i:Int)<3:=by omega
   have YX:dW L2 (i+1)=(dW L2 i).set (4*i+4) ((dW L2 i).getD (4*i+4) 0/4*4):=rfl;obtain⟨r,hr⟩:=Zx (dW L2 i);rw[←hr]at ax wB lB YX ⊢;obtain⟨G,hG⟩:=Zx (h2.setIfInBounds bc (.cells (r.map bv++spare).toArray 5));rw[←hG]at ax ⊢;have n1:=iQ ZD;have g1:=ZN ax (i:=4*i+4) (by omega);have x1:=wB.getD (4*i+4);unfold bv at g1;obtain⟨x,tF⟩:=Zx (r.getD (4*i+4) 0);rw[←tF]at g1 x1 YX;have e1:=ZbH x x1;have hi1:((4*i+4:Nat):Int)<L.length:=by omega
   have c1:JJ G ⟨bc,4*i+4,none⟩ (.int .u8 (x/4*4:Nat))=_:=Z1 (f:=bv) ax (i:=4*i+4) (by omega) (x/4*4) rfl;simp -implicitDefEqProofs only[go_sem,↓reduceIte,f0,f1,f5,f36,f37,ZL,Int.toNat_natCast,Nat.zero_add,n1,hi1,g1,e1,c1];refine⟨⟨f0,f1,f5,f36,i+1,ZD,rfl,?_⟩,?_⟩
   ·rw[hG,set_set,YX]
   ·simp only[vi,Zi,↓reduceIte,f37];omega
  ·have YJ:¬(i:Int)<3:=by omega
   obtain rfl:i=3:=by omega
   have c3:((3:Nat):Int)=3:=rfl;rw[c3]at f37 YJ;rw[ZfV]at ax wB lB ⊢;have B3:Zf h.size h (h2.setIfInBounds bc (.cells ((Jh key).map bv++spare).toArray 5)):=B2.Zm hbc _;generalize h2.setIfInBounds bc (.cells ((Jh key).map bv++spare).toArray 5)=h3 at *;have vM:=Hq key;have oc:Z0 h.size 5 h3 (.slice (some ⟨bc,0,none⟩) L.length cap) (Jh key):=
    ⟨.inr ⟨bc,cap,spare,hbc,by rw[l16,vM],ax,by simp,by rw[Ry,l16,vM],by omega⟩,wB⟩
   simp -implicitDefEqProofs only[go_sem,↓reduceIte,f0,f1,f5,f36,f37,YJ];refine (NC T _ _ (Jh key) 0 oc.bs vM (by omega)).use ?_;rintro _ h4 ⟨rfl,b4⟩;have B4:Zf h.size h h4:=B3.trans (b4.mono B3.size);have hR:=Rb wB vM;have hrv:Yr (FE (Xd (Jh key)) 0)=Xd (Jh key):=by rw[KR hR,Nat.mul_zero,Nat.add_zero]
   have tI:=FN (t:=0) hR (by omega);have hrn:=Sy (Xd (Jh key)) 0;obtain⟨R,hRR⟩:=Zx (FE (Xd (Jh key)) 0);rw[←hRR]at hrv tI hrn ⊢;have lR:(R.map uv).length=5:=by simpa using hrn
   have hoR:(R.map uv).all Z7=true:=by simp[uv,Z7]
   have lp:Yw [Value.int .u64 0,.int .u64 0,.int .u64 0,.int .u64 0,.int .u64 0] 0 (R.map uv)=R.map uv:=ZJ lR;simp -implicitDefEqProofs only[go_sem,↓reduceIte,f0,f1,f5,f36,f37,lR,hoR,lp];obtain⟨bR,hbR⟩:∃b,b=h4.size:=⟨_,rfl⟩
   obtain⟨bA,hbA⟩:∃b,b=h4.size+1:=⟨_,rfl⟩
   obtain⟨H,hH⟩:=Zx (((h4.push (.cells (R.map uv).toArray 237)).push (.cells #[.int .u64 0,.int .u64 0,.int .u64 0,.int .u64 0,.int .u64 0] 237)):Hp);have HB:Zf h.size h H:=by rw[hH];exact (B4.Yi B4.size _).Yi (by have:=B4.size;simp;omega) _
   have HR:H[bR]? = some (Yg R):=by
    rw[hH,hbR,Zt (by simp),Zb];unfold Yg;rw[List.append_nil]
   have HA:H[bA]? = some (Yg [0,0,0,0,0]):=by
    have:=Zb (h:=(h4.push (.cells (R.map uv).toArray 237))) (o:=.cells #[.int .u64 0,.int .u64 0,.int .u64 0,.int .u64 0,.int .u64 0] 237);rw[Array.size_push]at this;rw[hH,hbA,this];rfl
   have ZfX:h.size≤bR:=by have:=B4.size;omega
   rw[←hH,←hbA,←hbR];have ZzM:bA=bR+1:=by omega
   clear hH hbA hbR;have sd0:Bs h (F 1) (data.drop (16*0)):=by rw[f1];exact sd
   have cu0:VR (F 1):=by rw[f1];exact cu
   refine VS.ZW (fun F g=>F 0=.slice p key.length c∧F 10=.pointer (some ⟨bR,0,none⟩)∧F 11=.pointer (some ⟨bA,0,none⟩)∧Zf h.size h g∧g[bR]? = some (Yg R)∧∃(k:Nat) (A:List Nat),16*k<data.length+16∧Bs h (F 1) (data.drop (16*k))∧VR (F 1)∧g[bA]? = some (Yg A)∧A.length=5∧Ym 134217728 A∧Yr A%V3=oV (Xd (Jh key)) data k)
    (fun F _=>Zn5 (F 1)) rfl ⟨f0,rfl,rfl,HB,HR,0,[0,0,0,0,0],by omega,sd0,cu0,HA,rfl,Ym.Ld (by omega) (by omega) (by omega) (by omega) (by omega),rfl⟩ ?_
   clear f0 f1 f5 f36 f37 YJ sd0 cu0 F HB HR HA H;rintro F g ⟨f0,f10,f11,hg,gR,k,A,ZzN,s1,pB,gA,lA5,TZ,Qh⟩;obtain⟨q,d,f1,zL⟩:=s1.open;rw[f1]at s1 pB;have pB:(data.drop (16*k)).length≤d:=pB;have Zn9:(data.drop (16*k)).length=data.length-16*k:=List.length_drop;by_cases ZD:16*k<data.length
   ·have hgt:(0:Int)<((data.drop (16*k)).length:Int):=by omega
    obtain⟨rest,KU⟩:=Zx (data.drop (16*k));have nx:ZfM data k=rest.take 16++[1]:=by rw[KU];rfl
    have YX:data.drop (16*(k+1))=rest.drop 16:=by rw[KU,List.drop_drop];congr 1
    have ZfY:Dg rest:=by rw[KU];exact fun x hx=>wd x (List.mem_of_mem_drop hx)
    rw[←KU]at f1 s1 pB zL hgt Zn9;clear KU;have z17:(#[Value.int .u8 0,.int .u8 0,.int .u8 0,.int .u8 0,.int .u8 0,.int .u8 0,.int .u8 0,.int .u8 0,.int .u8 0,.int .u8 0,.int .u8 0,.int .u8 0,.int .u8 0,.int .u8 0,.int .u8 0,.int .u8 0,.int .u8 0]:Array Value)=((List.replicate 17 0).map bv).toArray:=rfl;simp -implicitDefEqProofs only[go_sem,↓reduceIte,f0,f1,f10,f11,hgt,z17];have Xc:=TA rest;refine Ko (E:=5) (E':=239) (c:=(List.replicate 17 0).map bv) YD Wg Zb ((s1.Z2 hg).Z2 (Zf.push (Nat.le_refl _) _)).sl Xc (by simp;omega) ?_;obtain⟨n,hn⟩:=Zx (min rest.length 16);have hB:(rest.map bv).take n=(rest.take n).map bv:=List.map_take.symm;have hBl:(rest.take n).length=n:=by rw[List.length_take];omega
    have ZfZ:rest.take n=rest.take 16:=by
     by_cases hc:rest.length≤16
     ·rw[List.take_of_length_le (by omega),List.take_of_length_le (by omega)]
     ·rw[hn,Nat.min_eq_right (by omega)]
    rw[←hn,hB,iR 17 _ (by omega),hBl,ZfZ];rw[ZfZ]at hBl;have Zf0:Dg (rest.take 16):=fun x hx=>ZfY x (List.mem_of_mem_take hx);obtain⟨B,hBB⟩:=Zx (rest.take 16);rw[←hBB]at hBl nx Zf0 ⊢;have e17:(B++List.replicate (17-n) 0).set n 1=Xn B:=by rw[←hBl];exact iN (by omega)
    have Zoa:(n:Int)<17:=by omega
    have ZtT:((B++List.replicate (17-n) 0).map bv).set n (.int .u8 1)=(Xn B).map bv:=by rw[←e17,List.map_set];rfl
    have Zf1:(B++List.replicate (17-n) 0).length=17:=by simp;omega
    have Zob:=hg.size;have ZtU:=Za gR;have ZtV:=Za gA;obtain⟨bw,hbw⟩:=Zx (g.size);have hGR:∀o,((g.push o).setIfInBounds bw (.cells ((B++List.replicate (17-n) 0).map bv).toArray 239))[bR]? = some (Yg R):=fun o=>by
     rw[Array.getElem?_setIfInBounds,if_neg (by omega),Zt (by omega)];exact gR
    have hGA:∀o,((g.push o).setIfInBounds bw (.cells ((B++List.replicate (17-n) 0).map bv).toArray 239))[bA]? = some (Yg A):=fun o=>by
     rw[Array.getElem?_setIfInBounds,if_neg (by omega),Zt (by omega)];exact gA
    have hGW:∀o,((g.push o).setIfInBounds bw (.cells ((B++List.replicate (17-n) 0).map bv).toArray 239))[bw]? = some (.cells ((B++List.replicate (17-n) 0).map bv++[]).toArray 239):=fun o=>by
     rw[List.append_nil,hbw];exact ZT Zb
    have hGB:∀o,Zf h.size h ((g.push o).setIfInBounds bw (.cells ((B++List.replicate (17-n) 0).map bv).toArray 239)):=fun o=>(hg.Yi Zob _).Zm (by omega) _;have hGS:∀o,((g.push o).setIfInBounds bw (.cells ((B++List.replicate (17-n) 0).map bv).toArray 239)).size=bw+1:=fun o=>by rw[Array.size_setIfInBounds,Array.size_push,hbw]
    rw[←hbw];specialize hGR (.cells ((List.replicate 17 0).map bv).toArray 239);specialize hGA (.cells ((List.replicate 17 0).map bv).toArray 239);specialize hGW (.cells ((List.replicate 17 0).map bv).toArray 239);specialize hGB (.cells ((List.replicate 17 0).map bv).toArray 239);specialize hGS (.cells ((List.replicate 17 0).map bv).toArray 239);obtain⟨G1,kY⟩:=Zx (((g.push (.cells ((List.replicate 17 0).map bv).toArray 239)).setIfInBounds bw (.cells ((B++List.replicate (17-n) 0).map bv).toArray 239)));rw[←kY]at hGR hGA hGW hGB hGS ⊢;clear kY;have c1:JJ G1 ⟨bw,n,none⟩ (.int .u8 1)=_:=Z1 (f:=bv) hGW (i:=n) (by rw[Zf1];omega) 1 rfl;rw[e17]at c1;have hW2:=ZT (o:=.cells ((Xn B).map bv++[]).toArray 239) hGW;have hR2:(G1.setIfInBounds bw (.cells ((Xn B).map bv++[]).toArray 239))[bR]? = some (Yg R):=by rw[Array.getElem?_setIfInBounds,if_neg (by omega)];exact hGR
    have hA2:(G1.setIfInBounds bw (.cells ((Xn B).map bv++[]).toArray 239))[bA]? = some (Yg A):=by rw[Array.getElem?_setIfInBounds,if_neg (by omega)];exact hGA
    have Sa:Zf h.size h (G1.setIfInBounds bw (.cells ((Xn B).map bv++[]).toArray 239)):=hGB.Zm (by omega) _;have hS2:(G1.setIfInBounds bw (.cells ((Xn B).map bv++[]).toArray 239)).size=bw+1:=by rw[Array.size_setIfInBounds,hGS]
    obtain⟨G2,dJ⟩:=Zx (G1.setIfInBounds bw (.cells ((Xn B).map bv++[]).toArray 239));rw[←dJ]at c1 hW2 hR2 hA2 Sa hS2;clear dJ hGR hGA hGW hGB hGS;have l17:=FO (l:=B) (by omega);have w17:=pj Zf0;have o17:Z0 h.size 239 G2 (.slice (some ⟨bw,0,none⟩) 17 17) (Xn B):=
     ⟨.inr ⟨bw,17,[],by omega,by rw[l17],hW2,by simp,by rw[l17];rfl,by omega⟩,w17⟩
    have s17:=Ra o17.bs (m:=16) (by omega) 17;have t17:((Xn B).take 16).length=16:=by rw[List.length_take];omega
    have g16:=ZN hW2 (i:=16) (by omega);unfold bv at g16;have ZbL:=iM (l:=B) (by omega);have La:=iL (l:=B) (by omega);have wt:=Rb (l:=(Xn B).take 16) (fun x hx=>w17 x (List.mem_of_mem_take hx)) t17;obtain⟨top,FP⟩:=Zx ((Xn B).getD 16 0);rw[←FP]at g16 ZbL La;have em:((top:Nat):Int)%18446744073709551616=(top:Nat):=by omega
    simp -implicitDefEqProofs only[go_sem,↓reduceIte,f0,f1,f10,f11,Zoa,Int.toNat_natCast,Zf1,c1];refine VS.w (bw+1) [] (.q 0 (.q 1 (.q 2 (.q 3 (.q 5 (.s 4 .nil)))))) mixed (by kernel_rfl) ?_;simp -implicitDefEqProofs only[go_sem,↓reduceIte,g16,em];refine (NC T _ _ ((Xn B).take 16) top s17 t17 ZbL).use ?_;rintro _ G3 ⟨rfl,b3⟩;rw[hS2]at b3;have hR3:=b3.get (k:=bR) (by omega) hR2;have hA3:=b3.get (k:=bA) (by omega) hA2;have hB3:Zf h.size h G3:=Sa.trans (b3.mono (by omega));have hxv:=KR (t:=top) wt;rw[La]at hxv;have FQ:=FN (t:=top) wt ZbL;have hxn:=Sy (Xd ((Xn B).take 16)) top;obtain⟨X,hX⟩:=Zx (FE (Xd ((Xn B).take 16)) top);rw[←hX]at hxv FQ hxn ⊢;rw[←nx]at hxv;have b3T:Zf (bw+1) G2 G3=True:=eq_true b3;simp -implicitDefEqProofs only[go_sem,↓reduceIte,b3T];refine VS.ZW (fun F g=>F 0=.slice p key.length c∧F 1=.slice q rest.length d∧F 10=.pointer (some ⟨bR,0,none⟩)∧F 11=.pointer (some ⟨bA,0,none⟩)∧F 66=.agg (X.map uv).toArray∧∃i:Nat,i≤5∧F 67=.int .i64 i∧g=G3.setIfInBounds bA (Yg (V7 A X i)))
     (fun F _=>5-(vi (F 67)).toNat) rfl ⟨f0,f1,f10,f11,rfl,0,by omega,rfl,(Uv hA3).symm⟩ ?_
    clear f0 f1 f10 f11 F gR gA hg;rintro F g' ⟨f0,f1,f10,f11,f66,i,hi,f67,rfl⟩;have Bu:(G3.setIfInBounds bA (Yg (V7 A X i)))[bA]? = some (Yg (V7 A X i)):=ZT hA3;have lN:(V7 A X i).length=5:=by rw[MA,lA5]
    have wN:=dX TZ FQ (by omega) (by omega) i;by_cases ab:i<5
    ·have oC:(i:Int)<5:=by omega
     have hnx:V7 A X (i+1)=(V7 A X i).set i ((V7 A X i).getD i 0+X.getD i 0):=rfl;obtain⟨r,hr⟩:=Zx (V7 A X i);rw[←hr]at Bu lN wN hnx ⊢;obtain⟨G,hG⟩:=Zx (G3.setIfInBounds bA (Yg r));rw[←hG]at Bu ⊢;have n1:=FI (l:=X) (i:=i) (by omega);have g1:=ZN Bu (i:=i) (by omega);unfold uv at g1;have y1:=wN.getD (by omega) i;have y2:=FQ.getD (by omega) i;obtain⟨a,ha⟩:=Zx (r.getD i 0);obtain⟨b,hb⟩:=Zx (X.getD i 0);rw[←ha]at g1 y1 hnx;rw[←hb]at n1 y2 hnx;have e1:(a:Int)+(b:Int)=((a+b:Nat):Int):=rfl;have e2:((a+b:Nat):Int)%18446744073709551616=((a+b:Nat):Int):=by omega
     have c2:JJ G ⟨bA,i,none⟩ (.int .u64 (a+b:Nat))=_:=Z1 (f:=uv) Bu (i:=i) (by omega) (a+b) rfl;simp -implicitDefEqProofs only[go_sem,↓reduceIte,f0,f1,f10,f11,f66,f67,oC,Int.toNat_natCast,Nat.zero_add,n1,g1,e1,e2,c2];refine⟨⟨f0,f1,f10,f11,f66,i+1,ab,rfl,?_⟩,?_⟩
     ·rw[hG,set_set,hnx];rfl
     ·simp only[vi,Zi,↓reduceIte,f67];omega
    ·have vz:¬(i:Int)<5:=by omega
     obtain rfl:i=5:=by omega
     have c5:((5:Nat):Int)=5:=rfl;rw[c5]at f67 vz;obtain⟨wN5,vN5⟩:=ph lA5 hxn TZ FQ;have hR4:(G3.setIfInBounds bA (Yg (V7 A X 5)))[bR]? = some (Yg R):=by rw[Array.getElem?_setIfInBounds,if_neg (by omega)];exact hR3
     have dP:Zf h.size h (G3.setIfInBounds bA (Yg (V7 A X 5))):=hB3.Zm (by omega) _;obtain⟨N,hN⟩:=Zx (V7 A X 5);rw[←hN]at Bu lN wN5 vN5 hR4 dP ⊢;generalize G3.setIfInBounds bA (Yg N)=G4 at *;have r1:=Sx lN Bu;have r2:=Sx hrn hR4;have lNm:(N.map uv).length=5:=by simpa using lN
     have tN:(N.map uv).take 5=N.map uv:=List.take_of_length_le (by omega);have tR:(R.map uv).take 5=R.map uv:=List.take_of_length_le (by omega);simp -implicitDefEqProofs only[go_sem,↓reduceIte,f0,f1,f10,f11,f66,f67,vz,r1,r2];refine (DO T G4 N R lN hrn wN5 tI).use ?_;rintro _ G5 ⟨rfl,b5⟩;obtain⟨w1,w2,w3⟩:=Gi lN hrn wN5 tI;obtain⟨m1,m2,m3,_⟩:=S9 w2 w1;obtain⟨M,hM⟩:=Zx (Xl (UW N R 5));rw[←hM]at m1 m2 m3 ⊢;have hA5:=b5.get (Za Bu) Bu;have hR5:=b5.get (Za hR4) hR4;have hB5:Zf h.size h G5:=dP.trans (b5.mono dP.size);have lM:(M.map uv).length=5:=by simpa using m1
     have hoM:(M.map uv).all Z7=true:=by simp[uv,Z7]
     have w5:=ZU (h:=G5) (b:=bA) (l:=(N.map uv)) (by unfold Yg at hA5;rw[List.append_nil]at hA5;exact hA5) 0 (M.map uv);rw[if_pos ⟨by simp[lM,lNm],hoM⟩,ZJ (by simp[lM,lNm])]at w5;have QO:(rest.length:Int)≤d:=by omega
     obtain⟨mn,hmn⟩:=Zx (min 16 rest.length);have oL:(if (rest.length:Int)<16 then (rest.length:Int) else 16)=((mn:Nat):Int):=by split<;>omega
     have Zoh:(mn:Int)≤rest.length:=by omega
     have Zf5:rest.drop mn=data.drop (16*(k+1)):=by
      rw[YX];by_cases hc:rest.length≤16
      ·rw[List.drop_of_length_le (by omega),List.drop_of_length_le (by omega)]
      ·rw[hmn,Nat.min_eq_left (by omega)]
     have s2:=S4 s1 rfl (k:=mn) (by omega) pB (d-mn);rw[Zf5]at s2;have Zf6:Yr M%V3=oV (Xd (Jh key)) data (k+1):=by
      rw[m3,w3,vN5,hxv,hrv,oV,←Qh,Nat.mul_mod,←Nat.mod_add_mod,←Nat.mul_mod]
     simp -implicitDefEqProofs only[go_sem,↓reduceIte,f0,f1,f10,f11,w5,lM,oL,Zoh,Int.toNat_natCast,Q6];refine⟨⟨f0,f10,f11,hB5.Zm (by omega) _,?_,k+1,M,by omega,s2,?_,?_,m1,m2,Zf6⟩,?_⟩
     ·rw[Array.getElem?_setIfInBounds,if_neg (by omega)];exact hR5
     ·show rest.length-mn≤d-mn;omega
     ·have:=ZT (o:=.cells (M.map uv).toArray 237) hA5;unfold Yg;rw[List.append_nil];exact this
     ·show rest.length-mn<rest.length;omega
   ·have Zf7:¬(0:Int)<((data.drop (16*k)).length:Int):=by omega
    have hk2:k=(data.length+15)/16:=by omega
    rw[hk2]at Qh;obtain⟨rest,KU⟩:=Zx (data.drop (16*k));rw[←KU]at f1 Zf7;have r1:=Sx lA5 gA;have tA:(A.map uv).take 5=A.map uv:=List.take_of_length_le (by simp[lA5]);simp -implicitDefEqProofs only[go_sem,↓reduceIte,f0,f1,f10,f11,Zf7,r1];refine (DP T g A lA5 (TZ.mono (by decide))).use ?_;rintro _ g6 ⟨rfl,b6⟩;obtain⟨m1,m2,m3,m4⟩:=S9 lA5 (TZ.mono (by decide));obtain⟨q1,q2,q3⟩:=iE m1 m2 m4;rw[m3,Qh]at q3;obtain⟨M,hM⟩:=Zx (Sw (Xl A));rw[←hM]at q1 q2 q3 ⊢;have hA6:=b6.get (Za gA) gA;have hB6:Zf h.size h g6:=hg.trans (b6.mono hg.size);have lM:(M.map uv).length=5:=by simpa using q1
    have lAm:(A.map uv).length=5:=by simpa using lA5
    have hoM:(M.map uv).all Z7=true:=by simp[uv,Z7]
    have w5:=ZU (h:=g6) (b:=bA) (l:=(A.map uv)) (by unfold Yg at hA6;rw[List.append_nil]at hA6;exact hA6) 0 (M.map uv);rw[if_pos ⟨by simp[lM,lAm],hoM⟩,ZJ (by simp[lM,lAm])]at w5;have hB7:Zf h.size h (g6.setIfInBounds bA (.cells (M.map uv).toArray 237)):=hB6.Zm (by omega) _;have hA7:(g6.setIfInBounds bA (.cells (M.map uv).toArray 237))[bA]? = some (Yg M):=by
     have:=ZT (o:=.cells (M.map uv).toArray 237) hA6;unfold Yg;rw[List.append_nil];exact this
    obtain⟨g7,hg7⟩:=Zx (g6.setIfInBounds bA (.cells (M.map uv).toArray 237));rw[←hg7]at w5 hB7 hA7;clear hg7;have sm:Bs g7 (.slice (A0 p 1 c 16) 16 (c-16)) ((key.drop 16).take 16):=ZbG (sk.Z2 hB7) rfl (by omega) ck _;have ZbM:((key.drop 16).take 16).length=16:=by rw[List.length_take,List.length_drop];omega
    have u2:(32:Int)≤c:=by omega
    have wkl:Dg ((key.drop 16).take 16):=fun x hx=>wk x (List.mem_of_mem_drop (List.mem_of_mem_take hx));simp -implicitDefEqProofs only[go_sem,↓reduceIte,f0,f1,f10,f11,w5,lM,u2,Q6];refine (NC T _ _ _ 0 sm ZbM (by omega)).use ?_;rintro _ g8 ⟨rfl,b8⟩;have hSv:=KR (t:=0) (Rb wkl ZbM);rw[Nat.mul_zero,Nat.add_zero]at hSv;have hSl:=FN (t:=0) (Rb wkl ZbM) (by omega);have hSn:=Sy (Xd ((key.drop 16).take 16)) 0;obtain⟨S,hS⟩:=Zx (FE (Xd ((key.drop 16).take 16)) 0);rw[←hS]at hSv hSl hSn ⊢;clear hS;have hA8:=b8.get (Za hA7) hA7;have hB8:Zf h.size h g8:=hB7.trans (b8.mono hB7.size);have lS:(S.map uv).length=5:=by simpa using hSn
    have hoS:(S.map uv).all Z7=true:=by simp[uv,Z7]
    have lpS:Yw [Value.int .u64 0,.int .u64 0,.int .u64 0,.int .u64 0,.int .u64 0] 0 (S.map uv)=S.map uv:=ZJ lS;simp -implicitDefEqProofs only[go_sem,↓reduceIte,f0,f1,f10,f11,lS,hoS,lpS,ZbI];have T0:vG key data=Yr M+Yr S:=by rw[q3,hSv];rfl
    have hB9:Zf (g8.size+1) (g8.push (.cells (S.map uv).toArray 237)) ((g8.push (.cells (S.map uv).toArray 237)).push (.cells ((List.replicate 16 0).map bv).toArray 5)):=Zf.push (by simp) _;have hS9:(g8.push (.cells (S.map uv).toArray 237))[g8.size]? = some (Yg S):=by rw[Zb];unfold Yg;rw[List.append_nil]
    have hA9:(g8.push (.cells (S.map uv).toArray 237))[bA]? = some (Yg M):=by rw[Zt (Za hA8)];exact hA8
    have hH9:Zf h.size h (g8.push (.cells (S.map uv).toArray 237)):=hB8.Yi hB8.size _;have o9:Z0 (g8.size+1) 5 ((g8.push (.cells (S.map uv).toArray 237)).push (.cells ((List.replicate 16 0).map bv).toArray 5)) (.slice (some ⟨g8.size+1,0,none⟩) 0 16) []:=by
     refine⟨.inr ⟨g8.size+1,16,(List.replicate 16 0).map bv,Nat.le_refl _,rfl,?_,rfl,by simp,Nat.zero_le _⟩,fun x hx=>by cases hx⟩;have:=Zb (h:=g8.push (.cells (S.map uv).toArray 237)) (o:=.cells ((List.replicate 16 0).map bv).toArray 5);rw[Array.size_push]at this;exact this
    have Zoo:=Za hA8;have Zf8:=hB8.size;have hz9:(g8.push (.cells (S.map uv).toArray 237)).size=g8.size+1:=by simp
    obtain⟨bS,hbS⟩:∃b,b=g8.size:=⟨_,rfl⟩
    rw[←hbS]at hB9 hS9 o9 Zoo Zf8 hz9 ⊢;obtain⟨J,hJ⟩:=Zx (g8.push (.cells (S.map uv).toArray 237));rw[←hJ]at hB9 hS9 hA9 hH9 o9 hz9 ⊢;clear hJ;refine VS.ZW (fun F g=>F 11=.pointer (some ⟨bA,0,none⟩)∧F 16=.pointer (some ⟨bS,0,none⟩)∧Zf (bS+1) J g∧∃(i n sum bits:Nat) (out:List Nat),i≤5∧F 87=.int .i64 i∧F 18=.int .u64 sum∧F 19=.int .u64 bits∧F 20=.int .i64 n∧Z0 (bS+1) 5 g (F 17) out∧out.length=n∧bits<8∧26*i=8*n+bits∧sum<8*2 ^ bits∧vG key data=Xd out+256 ^ n*(sum+2 ^ bits*OH (M.drop i) (S.drop i)))
     (fun F _=>5-(vi (F 87)).toNat) rfl ⟨f11,rfl,hB9,0,0,0,0,[],by omega,rfl,rfl,rfl,rfl,o9,rfl,by omega,by omega,by omega,by rw[T0,List.drop_zero,List.drop_zero,DW _ _ (by omega)];simp[Xd]⟩ ?_
    clear f0 f1 f10 f11 F hB9 o9;rintro F g' ⟨f11,f16,IU,i,n,sum,bits,out,hi,f87,f18,f19,f20,ho,hol,hb8,hbn,iX,hT⟩;have gA':=IU.get (k:=bA) (by omega) hA9;have gS':=IU.get (k:=bS) (by omega) hS9;have Zga:=IU.size;by_cases ZD:i<5
    ·have ZL:(i:Int)<5:=by omega
     rw[aI (by omega) (by omega)]at hT;have g1:=ZN gA' (i:=i) (by omega);have g2:=ZN gS' (i:=i) (by omega);unfold uv at g1 g2;have y1:=q2.getD (by omega) i;have y2:=hSl.getD (by omega) i;obtain⟨a,ha⟩:=Zx (M.getD i 0);obtain⟨b,hb⟩:=Zx (S.getD i 0);rw[←ha]at g1 y1 hT;rw[←hb]at g2 y2 hT;have hT2:=vL hT;have DX:=iU (c:=a+b) iX (by omega);have p8:=iS hb8;have GY:(a+b)*2 ^ bits≤268435455*128:=Nat.mul_le_mul (by omega) p8;have Zoq:sum<1024:=by omega
     have e1:(a:Int)+(b:Int)=((a+b:Nat):Int):=rfl;have e2:((a+b:Nat):Int)%18446744073709551616=((a+b:Nat):Int):=by omega
     have e3:YL .u64 ((a+b:Nat):Int) (bits:Int)=(((a+b)*2 ^ bits:Nat):Int):=by
      rw[Lz _ _ (by omega),Nat.mod_eq_of_lt (by omega)]
     obtain⟨cc,tJ⟩:=Zx ((a+b)*2 ^ bits);rw[←tJ]at e3 GY hT2 DX;have e4:(sum:Int)+(cc:Int)=((sum+cc:Nat):Int):=rfl;have e5:((sum+cc:Nat):Int)%18446744073709551616=((sum+cc:Nat):Int):=by omega
     have e6:(bits:Int)+26=((bits+26:Nat):Int):=rfl;have e7:((bits+26:Nat):Int)%18446744073709551616=((bits+26:Nat):Int):=by omega
     have e8:¬(bits:Int)<0:=by omega
     simp -implicitDefEqProofs only[go_sem,↓reduceIte,f11,f16,f18,f19,f20,f87,ZL];refine VS.q mixed (by kernel_rfl) ?_;simp -implicitDefEqProofs only[go_sem,↓reduceIte,f11,f16,f18,f19,f20,f87,ZL,Int.toNat_natCast,Nat.zero_add,g1,g2,e1,e2,e3,e4,e5,e6,e7,e8];refine VS.ZW (fun F g=>F 11=.pointer (some ⟨bA,0,none⟩)∧F 16=.pointer (some ⟨bS,0,none⟩)∧F 87=.int .i64 i∧Zf (bS+1) J g∧∃(n sum bits:Nat) (out:List Nat),F 18=.int .u64 sum∧F 19=.int .u64 bits∧F 20=.int .i64 n∧Z0 (bS+1) 5 g (F 17) out∧out.length=n∧bits<34∧26*(i+1)=8*n+bits∧sum<8*2 ^ bits∧vG key data=Xd out+256 ^ n*(sum+2 ^ bits*OH (M.drop (i+1)) (S.drop (i+1))))
      (fun F _=>(vi (F 19)).toNat) rfl ⟨f11,f16,f87,IU,n,sum+cc,bits+26,out,rfl,rfl,f20,ho,hol,by omega,by omega,DX,hT2⟩ ?_
     clear f11 f16 f18 f19 f20 f87 ho hol hT hT2 iX DX hbn hb8 IU gA' gS' Zga g1 g2 e3 e4 e5 e6 e7 e8 p8 GY tJ Zoq F cc;clear n sum bits out g';rintro F g' ⟨f11,f16,f87,IU,n,sum,bits,out,f18,f19,f20,ho,hol,hb8,hbn,iX,hT⟩;have Zga:=IU.size;by_cases hb:8≤bits
     ·have Kf:(8:Int)≤bits:=by omega
      have hn1:(n:Int)<16:=by omega
      have DX:=iW iX hb;have hT2:=pA hb hT;have hp:2 ^ bits≤2 ^ 34:=Nat.pow_le_pow_right (by decide) (by omega);have TU:sum<18446744073709551616:=Nat.lt_of_lt_of_le iX (Nat.le_trans (Nat.mul_le_mul_left 8 hp) (by decide));have em:((sum:Nat):Int)%256=((sum%256:Nat):Int):=rfl;have es:YV .u64 (sum:Int) 8=((sum/256:Nat):Int):=S8 sum 8 (by decide);have eb:(bits:Int)-8=((bits-8:Nat):Int):=by omega
      have eb2:((bits-8:Nat):Int)%18446744073709551616=((bits-8:Nat):Int):=by omega
      simp -implicitDefEqProofs only[go_sem,↓reduceIte,f11,f16,f18,f19,f20,f87,Kf,hn1,em];have hX:sum%256<256:=by omega
      refine Zv (E:=5) (B:=bS+1) YD Tryz.underlying48 Wg WY WX (ho.push _) (by simp;omega) (Bs.one hX 1) (by simp;omega) ?_;intro v' h' R7 XH _;simp -implicitDefEqProofs only[go_sem,↓reduceIte,f11,f16,f18,f19,f20,f87,es,eb,eb2];refine⟨⟨f11,f16,f87,(IU.Yi (by omega) _).trans XH,n+1,sum/256,bits-8,out++[sum%256],rfl,rfl,rfl,R7,by simp[hol],by omega,by omega,DX,?_⟩,?_⟩
      ·rw[hT2,aJ,hol]
      ·simp only[vi,Zi,↓reduceIte,Nat.reduceEqDiff,f19];omega
     ·have Kf:¬(8:Int)≤bits:=by omega
      have e9:(i:Int)+1=((i+1:Nat):Int):=rfl;simp -implicitDefEqProofs only[go_sem,↓reduceIte,f11,f16,f18,f19,f20,f87,Kf,e9];refine⟨⟨f11,f16,IU,i+1,n,sum,bits,out,ZD,rfl,f18,f19,f20,ho,hol,by omega,hbn,iX,hT⟩,?_⟩;simp only[vi,Zi,↓reduceIte,f87];omega
    ·have YJ:¬(i:Int)<5:=by omega
     obtain rfl:i=5:=by omega
     have c5:((5:Nat):Int)=5:=rfl;rw[c5]at f87 YJ;obtain rfl:n=16:=by omega
     have e0:OH (M.drop 5) (S.drop 5)=0:=by rw[List.drop_of_length_le (by omega),List.drop_of_length_le (by omega)];rfl
     rw[e0,Nat.mul_zero,Nat.add_zero]at hT;have aD:=iO ho.byte hol hT;have htl:aA key data=out:=aD.symm;simp -implicitDefEqProofs only[go_sem,↓reduceIte,f11,f16,f18,f19,f20,f87,YJ];rw[htl];exact⟨ho.mono (by omega),hH9.trans (IU.mono (by omega))⟩
theorem DY (T:World) (h:Hp) (v u:Value) (key data:List Nat) (sk:Bs h v key) (sd:Bs h u data) (ck:VR v) (cu:VR u) :
  Zc Tryz.prog T 133 #[v,u] h fun v' h'=>oW h.size h' v' key data∧Zf h.size h h':=by
 obtain⟨p,c,rfl,hkc⟩:=sk.open;obtain⟨q,d,rfl,hdc⟩:=sd.open;refine Zc.Zk (args:=[_,_]) Tryz.func133 rfl rfl rfl rfl ?_;unfold oW;by_cases hk:key.length=32
 ·by_cases hd:4000<data.length
  ·have hd':4000<(data.length:Int):=by omega
   have Oh:(key.length:Int)=32:=by omega
   have e:Vu key data=1:=by unfold Vu;rw[if_pos (.inr hd)]
   rw[e];simp -implicitDefEqProofs only[go_sem,↓reduceIte,hd',Oh];exact⟨_,rfl,Z0.nil _ _ _⟩
  ·have hd':¬4000<(data.length:Int):=by omega
   have Oh:(key.length:Int)=32:=by omega
   have e:Vu key data=0:=by unfold Vu;rw[if_neg (by omega)]
   rw[e,if_pos rfl];simp -implicitDefEqProofs only[go_sem,↓reduceIte,hd',Oh];refine (aK T _ _ _ key data sk sd hk (by omega) ck cu).use ?_;rintro v1 h1 ⟨o1,b1⟩;simp -implicitDefEqProofs only[go_sem,↓reduceIte];exact⟨⟨_,rfl,o1⟩,b1⟩
 ·have Oh:¬(key.length:Int)=32:=by omega
  have e:Vu key data=1:=by unfold Vu;rw[if_pos (.inl hk)]
  rw[e];simp -implicitDefEqProofs only[go_sem,↓reduceIte,Oh];exact⟨_,rfl,Z0.nil _ _ _⟩
end Go.Proofs.YtboeoomhjbcecaaGreatDoor
