/- The program's clamped key, its blocks' numbers and its last bytes, in plain numbers; no condition but those in the statements. -/
import Derived.Test.YtboeoomhjbcecaaGreatDoorPik
import Derived.Test.YtboeoomhjbcecaaGreatDoorW14
namespace Go.Proofs.YtboeoomhjbcecaaGreatDoor
open Go Go.V
set_option linter.unusedSimpArgs false
set_option linter.unusedVariables false
set_option maxRecDepth 100000
def aF (l:List Nat):Nat→List Nat
 | 0=>l
 | i+1=>(aF l i).set (4*i+3) ((aF l i).getD (4*i+3) 0%16)
def dY (l:List Nat):Nat→List Nat
 | 0=>l
 | i+1=>(dY l i).set (4*i+4) ((dY l i).getD (4*i+4) 0/4*4)
theorem KJ (l:List Nat):∀i,(aF l i).length=l.length
 | 0=>rfl
 | i+1=>by rw[aF,List.length_set,KJ l i]
theorem KK (l:List Nat):∀i,(dY l i).length=l.length
 | 0=>rfl
 | i+1=>by rw[dY,List.length_set,KK l i]
theorem aG {l:List Nat} (w:Dg l):∀i,Dg (aF l i)
 | 0=>w
 | i+1=>(aG w i).set _ (by have:=(aG w i).getD (4*i+3);omega)
theorem aH {l:List Nat} (w:Dg l):∀i,Dg (dY l i)
 | 0=>w
 | i+1=>(aH w i).set _ (by have:=(aH w i).getD (4*i+4);omega)
theorem vQ {l:List Nat} (hl:l.length=16):dY (aF l 4) 3=Jc l:=by
 match l,hl with
 | [a0,a1,a2,a3,a4,a5,a6,a7,a8,a9,a10,a11,a12,a13,a14,a15],_=>rfl
theorem DY (key:List Nat):Jc key=Jc (key.take 16):=by
 unfold Jc;apply List.map_congr_left;intro i hi;have Dd:i<16:=by simpa using hi
 have e:(key.take 16).getD i 0=key.getD i 0:=by
  rw[List.getD_eq_getElem?_getD,List.getElem?_take,if_pos Dd,List.getD_eq_getElem?_getD]
 unfold pj;rw[e]
theorem iH {key:List Nat} (hk:key.length=32):dY (aF (key.take 16) 4) 3=Jc key:=by
 rw[DY];exact vQ (by rw[List.length_take];omega)
theorem S5 {l:List Nat} (w:Dg l) (hl:l.length=16):Xa l<340282366920938463463374607431768211456:=by
 have:=Wm w (n:=16) (by omega);exact this
theorem Sw (n t:Nat):(FC n t).length=5:=rfl
theorem FL {n t:Nat} (hn:n<340282366920938463463374607431768211456) (ht:t≤1):Yl 67108864 (FC n t):=
 Yl.M3 (by omega) (by omega) (by omega) (by omega) (by omega)
theorem KL {n t:Nat} (hn:n<340282366920938463463374607431768211456):Yp (FC n t)=n+340282366920938463463374607431768211456*t:=by
 simp only[FC,Yp];omega
def VZ (a x:List Nat):Nat→List Nat
 | 0=>a
 | i+1=>(VZ a x i).set i ((VZ a x i).getD i 0+x.getD i 0)
theorem Mt (a x:List Nat):∀i,(VZ a x i).length=a.length
 | 0=>rfl
 | i+1=>by rw[VZ,List.length_set,Mt a x i]
theorem dZ {a x:List Nat} {K L:Nat} (wa:Yl K a) (wx:Yl L x) (hK:0<K) (hL:0<L):∀i,Yl (K+i*L) (VZ a x i)
 | 0=>by rw[Nat.zero_mul];exact wa
 | i+1=>by
  have h:=dZ wa wx hK hL i;have q1:=h.getD (by omega) i;have q2:=wx.getD hL i;rw[VZ,Nat.add_mul,Nat.one_mul];exact (h.mono (by omega)).set _ _ (by omega)
theorem pE {a x:List Nat} (ha:a.length=5) (hx:x.length=5) (wa:Yl 134217728 a) (wx:Yl 67108864 x):Yl 268435456 (VZ a x 5)∧Yp (VZ a x 5)=Yp a+Yp x:=by
 obtain⟨a0,a1,a2,a3,a4,rfl⟩:=M3 ha;obtain⟨x0,x1,x2,x3,x4,rfl⟩:=M3 hx;obtain⟨w0,w1,w2,w3,w4⟩:=wa.vK;obtain⟨u0,u1,u2,u3,u4⟩:=wx.vK;have e:VZ [a0,a1,a2,a3,a4] [x0,x1,x2,x3,x4] 5=[a0+x0,a1+x1,a2+x2,a3+x3,a4+x4]:=rfl;rw[e];exact⟨Yl.M3 (by omega) (by omega) (by omega) (by omega) (by omega),by simp only[Yp];omega⟩
theorem KM (a b:List Nat):Xa (a++b)=Xa a+256 ^ a.length*Xa b:=by
 induction a with
 | nil=>simp[Xa]
 | cons x a ih=>simp only[List.cons_append,Xa,ih,List.length_cons,Nat.pow_succ,Nat.mul_add,Nat.add_assoc];congr 2;rw[←Nat.mul_assoc,Nat.mul_comm 256]
theorem aI (n:Nat):Xa (List.replicate n 0)=0:=by
 induction n with
 | zero=>rfl
 | succ n ih=>rw[List.replicate_succ,Xa,ih]
def Xj (l:List Nat):List Nat:=l++[1]++List.replicate (16-l.length) 0
theorem FM {l:List Nat} (hl:l.length≤16):(Xj l).length=17:=by simp[Xj];omega
theorem iI {l:List Nat} (hl:l.length≤16):Xa ((Xj l).take 16)+340282366920938463463374607431768211456*(Xj l).getD 16 0=Xa (l++[1]):=by
 by_cases h:l.length=16
 ·have e1:(Xj l).take 16=l:=by unfold Xj;rw[List.append_assoc,List.take_left' h]
  have e2:(Xj l).getD 16 0=1:=by
   unfold Xj;rw[List.getD_eq_getElem?_getD,List.append_assoc,List.getElem?_append_right (by omega),h];rfl
  rw[e1,e2,KM,h];rfl
 ·have e2:(Xj l).getD 16 0=0:=by
   unfold Xj;rw[List.getD_eq_getElem?_getD,List.getElem?_append_right (by simp;omega),List.getElem?_replicate];split<;>rfl
  have e1:(Xj l).take 16=(l++[1])++List.replicate (15-l.length) 0:=by
   unfold Xj;rw[List.take_append,List.take_of_length_le (by simp;omega),List.take_replicate]
   congr 2
   simp;omega
  rw[e1,e2,KM,aI];omega
theorem iJ {l:List Nat} (hl:l.length≤16):(Xj l).getD 16 0≤1:=by
 by_cases h:l.length=16
 ·have e2:(Xj l).getD 16 0=1:=by
   unfold Xj;rw[List.getD_eq_getElem?_getD,List.append_assoc,List.getElem?_append_right (by omega),h];rfl
  omega
 ·have e2:(Xj l).getD 16 0=0:=by
   unfold Xj;rw[List.getD_eq_getElem?_getD,List.getElem?_append_right (by simp;omega),List.getElem?_replicate];split<;>rfl
  omega
theorem pF {l:List Nat} (w:Dg l):Dg (Xj l):=by
 intro x hx;unfold Xj at hx;simp only[List.mem_append,List.mem_singleton,List.mem_replicate]at hx;rcases hx with (h|h)|h
 ·exact w x h
 ·omega
 ·omega
theorem iK {l:List Nat} (hl:l.length≤16):(l++List.replicate (17-l.length) 0).set l.length 1=Xj l:=by
 have e:List.replicate (17-l.length) 0=0 :: List.replicate (16-l.length) 0:=by rw[←List.replicate_succ];congr 1;omega
 rw[e,List.set_append_right _ _ (Nat.le_refl _),Nat.sub_self,List.set_cons_zero];unfold Xj;rw[List.append_assoc];rfl
def Oz:List Nat→List Nat→Nat
 | x :: l,y :: k=>(x+y)+67108864*Oz l k
 | _,_=>0
theorem DZ:∀(l k:List Nat),l.length=k.length→Oz l k=Yp l+Yp k
 | [],[],_=>rfl
 | x :: l,y :: k,h=>by simp only[Oz,Yp];rw[DZ l k (by simpa using h)];omega
theorem iL {out:List Nat} {t R:Nat} (w:Dg out) (hl:out.length=16) (h:t=Xa out+256 ^ 16*R):out=(List.range 16).map fun i=>t/256 ^ i%256:=by
 apply List.ext_getElem?;intro i;by_cases hi:i<16
 ·rw[List.getElem?_map,List.getElem?_range hi];have e:=au w i;rw[List.getD_eq_getElem?_getD,List.getElem?_eq_getElem (by omega)]at e;rw[List.getElem?_eq_getElem (by omega)];simp only[Option.map_some,Option.some.injEq];simp only[Option.getD_some]at e;rw[e,h];have e2:256 ^ 16*R=256 ^ i*(256*(256 ^ (15-i)*R)):=by
   rw[←Nat.mul_assoc 256,←Nat.mul_assoc,←Nat.pow_succ',←Nat.pow_add]
   congr 2;omega
  rw[e2,Nat.add_mul_div_left _ _ (Nat.pow_pos (by omega)),Nat.add_mul_mod_self_left]
 ·rw[List.getElem?_eq_none (by omega),List.getElem?_eq_none (by simp;omega)]
theorem pG {T v n s B R:Nat} (hB:256≤B) (hd:B%256=0) (h:T=v+n*(s+B*R)):T=v+n*(s%256)+n*256*(s/256+B/256*R):=by
 have e:s+B*R=s%256+256*(s/256+B/256*R):=by
  have e1:B=256*(B/256):=by omega
  have e2:B*R=256*(B/256*R):=by rw[←Nat.mul_assoc,←e1]
  have e3:=Nat.mod_add_div s 256;rw[Nat.mul_add,e2];omega
 rw[h,e,Nat.mul_add,←Nat.mul_assoc,←Nat.add_assoc]
theorem iM {i:Nat} (hi:i<4):nth [Value.int .i64 3,.int .i64 7,.int .i64 11,.int .i64 15] i=some (.int .i64 ((4*i+3:Nat):Int)):=by
 match i,hi with
 | 0,_=>rfl
 | 1,_=>rfl
 | 2,_=>rfl
 | 3,_=>rfl
theorem iN {i:Nat} (hi:i<3):nth [Value.int .i64 4,.int .i64 8,.int .i64 12] i=some (.int .i64 ((4*i+4:Nat):Int)):=by
 match i,hi with
 | 0,_=>rfl
 | 1,_=>rfl
 | 2,_=>rfl
theorem ZfT (x:Nat) (hx:x<256):Yb .and .u8 (x:Int) 15=((x%16:Nat):Int):=by
 have h:=nt x 15 hx (by decide);have e:x &&& 15=x%16:=Nat.and_two_pow_sub_one_eq_mod x 4;rw[e]at h;exact h
theorem ZbI (x:Nat) (hx:x<256):Yb .and .u8 (x:Int) 252=((x/4*4:Nat):Int):=by
 have h:=nt x 252 hx (by decide);have e:x &&& 252=x/4*4:=by
  have:∀y:Fin 256,y.val &&& 252=y.val/4*4:=by decide
  exact this ⟨x,hx⟩
 rw[e]at h;exact h
def ZnZ:Value→Nat
 | .slice _ l _=>l
 | _=>0
theorem iO (n:Nat) (vs:List Nat) (h:vs.length≤n):Yw ((List.replicate n 0).map bv) 0 (vs.map bv)=(vs++List.replicate (n-vs.length) 0).map bv:=by
 rw[Qy _ _ (by simpa using h),List.length_map,←List.map_drop,List.drop_replicate,List.map_append]
theorem aJ {M S:List Nat} {i:Nat} (hM:i<M.length) (hS:i<S.length):Oz (M.drop i) (S.drop i)=(M.getD i 0+S.getD i 0)+67108864*Oz (M.drop (i+1)) (S.drop (i+1)):=by
 rw[List.drop_eq_getElem_cons hM,List.drop_eq_getElem_cons hS,Oz,List.getD_eq_getElem?_getD,List.getD_eq_getElem?_getD,List.getElem?_eq_getElem hM,List.getElem?_eq_getElem hS];rfl
theorem vS {T v n s b c R:Nat} (h:T=v+n*(s+2 ^ b*(c+67108864*R))):T=v+n*(s+c*2 ^ b+2 ^ (b+26)*R):=by
 rw[h,Nat.mul_add (2 ^ b),Nat.mul_comm (2 ^ b) c,Nat.pow_add,←Nat.mul_assoc (2 ^ b),Nat.add_assoc]
theorem iP {b:Nat} (h:b<8):2 ^ b≤128:=by
 have:=Nat.pow_le_pow_right (show 0<2 by decide) (show b≤7 by omega);exact this
theorem iQ {s c b:Nat} (hs:s<8*2 ^ b) (hc:c<268435456):s+c*2 ^ b<8*2 ^ (b+26):=by
 have h1:c*2 ^ b≤268435455*2 ^ b:=Nat.mul_le_mul_right _ (by omega);rw[Nat.pow_add];have:2 ^ 26=67108864:=rfl;rw[this];omega
theorem iR {s b:Nat} (hs:s<8*2 ^ b) (hb:8≤b):s/256<8*2 ^ (b-8):=by
 have:2 ^ b=2 ^ (b-8)*256:=by
  have e:b=b-8+8:=by omega
  rw[e,Nat.pow_add,Nat.add_sub_cancel]
 rw[this]at hs;omega
theorem pH {T v n s b R:Nat} (hb:8≤b) (h:T=v+256 ^ n*(s+2 ^ b*R)):T=v+256 ^ n*(s%256)+256 ^ (n+1)*(s/256+2 ^ (b-8)*R):=by
 have e:2 ^ b=2 ^ (b-8)*256:=by
  have e:b=b-8+8:=by omega
  rw[e,Nat.pow_add,Nat.add_sub_cancel]
 have hp:0<2 ^ (b-8):=Nat.pow_pos (by omega);have:=pG (B:=2 ^ b) (by rw[e];omega) (by rw[e];omega) h;rw[show 2 ^ b/256=2 ^ (b-8) by rw[e,Nat.mul_div_cancel _ (by omega)]]at this;rw[Nat.pow_succ];exact this
theorem aK (l:List Nat) (x:Nat):Xa (l++[x])=Xa l+256 ^ l.length*x:=by rw[KM];rfl
theorem ZbJ:(XZ 16 [Value.int .u8 0])=(List.replicate 16 0).map bv:=rfl
set_option maxHeartbeats 2000000 in
theorem aL (T:World) (h:Hp) (v u:Value) (key data:List Nat) (sk:Bs h v key) (sd:Bs h u data) (hk:key.length=32) (hd:data.length≤4000) (ck:Tu v) (cu:Tu u) :
  Zc Tryz.prog T 137 #[v,u] h fun v' h'=>Z0 h.size 5 h' v' (aB key data)∧Zg h.size h h':=by
 have wk:=sk.byte;have wd:=sd.byte;obtain⟨p,c,rfl,hkc⟩:=sk.UN;have ck:key.length≤c:=ck;have l16:(key.take 16).length=16:=by rw[List.length_take];omega
 have s16:=S4 sk (m:=16) (by omega) c;have c16:(16:Int)≤c:=by omega
 refine Zc.Zj (args:=[_,_]) Tryz.func137 rfl rfl rfl rfl ?_;simp -implicitDefEqProofs only[go_sem,↓reduceIte,c16];refine Zv (E:=5) (B:=h.size) YA Tryz.underlying48 Wi WY WX (Z0.nil _ _ _) (Nat.le_refl _) (by rw[hk]at sk;simpa using s16) (by rw[l16];decide) ?_;intro v1 h1 o1 b1 _;rw[List.nil_append]at o1;have o1n:=o1.own;rcases o1n with⟨_,hm,_⟩|⟨bc,cap,spare,hbc,rfl,P9,XR,Rp,QN⟩
 ·omega
 obtain⟨L,hL⟩:=Zy (key.take 16);have wL:Dg L:=by rw[hL];exact fun x hx=>wk x (List.mem_of_mem_take hx)
 have ZfU:dY (aF L 4) 3=Jc key:=by rw[hL];exact iH hk
 rw[←hL]at l16 P9 XR Rp QN ⊢;clear o1 s16 hL;have Zzs:=Za P9;simp -implicitDefEqProofs only[go_sem,↓reduceIte];refine VS.ZW (fun F g=>F 0=.slice p key.length c∧F 1=u∧F 5=.slice (some ⟨bc,0,none⟩) L.length cap∧F 25=.agg #[.int .i64 3,.int .i64 7,.int .i64 11,.int .i64 15]∧∃i:Nat,i≤4∧F 26=.int .i64 i∧g=h1.setIfInBounds bc (.cells ((aF L i).map bv++spare).toArray 5))
  (fun F _=>4-(vi (F 26)).toNat) rfl ⟨rfl,rfl,rfl,rfl,0,by omega,rfl,(Uv P9).symm⟩ ?_
 rintro F g ⟨f0,f1,f5,f25,i,hi,f26,rfl⟩;have hx:=ZT (o:=.cells ((aF L i).map bv++spare).toArray 5) P9;have wA:=aG wL i;have lA:=KJ L i;by_cases ZD:i<4
 ·have ZP:(i:Int)<4:=by omega
  have YV:aF L (i+1)=(aF L i).set (4*i+3) ((aF L i).getD (4*i+3) 0%16):=rfl;obtain⟨r,hr⟩:=Zy (aF L i);rw[←hr]at hx wA lA YV ⊢;obtain⟨G,hG⟩:=Zy (h1.setIfInBounds bc (.cells (r.map bv++spare).toArray 5));rw[←hG]at hx ⊢;have n1:=iM ZD;have g1:=ZN hx (i:=4*i+3) (by omega);have x1:=wA.getD (4*i+3);unfold bv at g1;obtain⟨x,tK⟩:=Zy (r.getD (4*i+3) 0);rw[←tK]at g1 x1 YV;have e1:=ZfT x x1;have hi1:((4*i+3:Nat):Int)<L.length:=by omega
  have c1:JK G ⟨bc,4*i+3,none⟩ (.int .u8 (x%16:Nat))=_:=Z2 (f:=bv) hx (i:=4*i+3) (by omega) (x%16) rfl;simp -implicitDefEqProofs only[go_sem,↓reduceIte,f0,f1,f5,f25,f26,ZP,Int.toNat_natCast,Nat.zero_add,n1,hi1,g1,e1,c1];refine⟨⟨f0,f1,f5,f25,i+1,ZD,rfl,?_⟩,?_⟩
  ·rw[hG,set_set,YV]
  ·simp only[vi,Zm,↓reduceIte,f26];omega
 ·have YK:¬(i:Int)<4:=by omega
  obtain rfl:i=4:=by omega
  have c4:((4:Nat):Int)=4:=rfl;rw[c4]at f26 YK;obtain⟨L2,hL2⟩:=Zy (aF L 4);rw[←hL2]at hx wA lA ZfU ⊢;have B2:Zg h.size h (h1.setIfInBounds bc (.cells (L2.map bv++spare).toArray 5)):=b1.Zk hbc _;generalize h1.setIfInBounds bc (.cells (L2.map bv++spare).toArray 5)=h2 at *;clear hL2;simp -implicitDefEqProofs only[go_sem,↓reduceIte,f0,f1,f5,f25,f26,YK];refine VS.ZW (fun F g=>F 0=.slice p key.length c∧F 1=u∧F 5=.slice (some ⟨bc,0,none⟩) L.length cap∧F 36=.agg #[.int .i64 4,.int .i64 8,.int .i64 12]∧∃i:Nat,i≤3∧F 37=.int .i64 i∧g=h2.setIfInBounds bc (.cells ((dY L2 i).map bv++spare).toArray 5))
   (fun F _=>3-(vi (F 37)).toNat) rfl ⟨f0,f1,f5,rfl,0,by omega,rfl,(Uv hx).symm⟩ ?_
  clear f0 f1 f5 f25 f26 YK F;rintro F g ⟨f0,f1,f5,f36,i,hi,f37,rfl⟩;have az:=ZT (o:=.cells ((dY L2 i).map bv++spare).toArray 5) hx;have wB:=aH wA i;have lB:=KK L2 i;by_cases ZD:i<3
  ·have ZP:(i:Int)<3:=by omega
   have YV:dY L2 (i+1)=(dY L2 i).set (4*i+4) ((dY L2 i).getD (4*i+4) 0/4*4):=rfl;obtain⟨r,hr⟩:=Zy (dY L2 i);rw[←hr]at az wB lB YV ⊢;obtain⟨G,hG⟩:=Zy (h2.setIfInBounds bc (.cells (r.map bv++spare).toArray 5));rw[←hG]at az ⊢;have n1:=iN ZD;have g1:=ZN az (i:=4*i+4) (by omega);have x1:=wB.getD (4*i+4);unfold bv at g1;obtain⟨x,tK⟩:=Zy (r.getD (4*i+4) 0);rw[←tK]at g1 x1 YV;have e1:=ZbI x x1;have hi1:((4*i+4:Nat):Int)<L.length:=by omega
   have c1:JK G ⟨bc,4*i+4,none⟩ (.int .u8 (x/4*4:Nat))=_:=Z2 (f:=bv) az (i:=4*i+4) (by omega) (x/4*4) rfl;simp -implicitDefEqProofs only[go_sem,↓reduceIte,f0,f1,f5,f36,f37,ZP,Int.toNat_natCast,Nat.zero_add,n1,hi1,g1,e1,c1];refine⟨⟨f0,f1,f5,f36,i+1,ZD,rfl,?_⟩,?_⟩
   ·rw[hG,set_set,YV]
   ·simp only[vi,Zm,↓reduceIte,f37];omega
  ·have YK:¬(i:Int)<3:=by omega
   obtain rfl:i=3:=by omega
   have c3:((3:Nat):Int)=3:=rfl;rw[c3]at f37 YK;rw[ZfU]at az wB lB ⊢;have B3:Zg h.size h (h2.setIfInBounds bc (.cells ((Jc key).map bv++spare).toArray 5)):=B2.Zk hbc _;generalize h2.setIfInBounds bc (.cells ((Jc key).map bv++spare).toArray 5)=h3 at *;have vU:=Hk key;have oc:Z0 h.size 5 h3 (.slice (some ⟨bc,0,none⟩) L.length cap) (Jc key):=
    ⟨.inr ⟨bc,cap,spare,hbc,by rw[l16,vU],az,by simp,by rw[Rp,l16,vU],by omega⟩,wB⟩
   simp -implicitDefEqProofs only[go_sem,↓reduceIte,f0,f1,f5,f36,f37,YK];refine (Ns T _ _ (Jc key) 0 oc.bs vU (by omega)).use ?_;rintro _ h4 ⟨rfl,b4⟩;have B4:Zg h.size h h4:=B3.trans (b4.mono B3.size);have hR:=S5 wB vU;have hrv:Yp (FC (Xa (Jc key)) 0)=Xa (Jc key):=by rw[KL hR,Nat.mul_zero,Nat.add_zero]
   have tM:=FL (t:=0) hR (by omega);have hrn:=Sw (Xa (Jc key)) 0;obtain⟨R,hRR⟩:=Zy (FC (Xa (Jc key)) 0);rw[←hRR]at hrv tM hrn ⊢;have lR:(R.map uv).length=5:=by simpa using hrn
   have hoR:(R.map uv).all Z6=true:=by simp[uv,Z6]
   have lp:Yw [Value.int .u64 0,.int .u64 0,.int .u64 0,.int .u64 0,.int .u64 0] 0 (R.map uv)=R.map uv:=ZH lR;simp -implicitDefEqProofs only[go_sem,↓reduceIte,f0,f1,f5,f36,f37,lR,hoR,lp];obtain⟨bR,hbR⟩:∃b,b=h4.size:=⟨_,rfl⟩
   obtain⟨bA,hbA⟩:∃b,b=h4.size+1:=⟨_,rfl⟩
   obtain⟨H,hH⟩:=Zy (((h4.push (.cells (R.map uv).toArray 237)).push (.cells #[.int .u64 0,.int .u64 0,.int .u64 0,.int .u64 0,.int .u64 0] 237)):Hp);have HB:Zg h.size h H:=by rw[hH];exact (B4.Yg B4.size _).Yg (by have:=B4.size;simp;omega) _
   have HR:H[bR]? = some (Yf R):=by
    rw[hH,hbR,Zu (by simp),Zb];unfold Yf;rw[List.append_nil]
   have HA:H[bA]? = some (Yf [0,0,0,0,0]):=by
    have:=Zb (h:=(h4.push (.cells (R.map uv).toArray 237))) (o:=.cells #[.int .u64 0,.int .u64 0,.int .u64 0,.int .u64 0,.int .u64 0] 237);rw[Array.size_push]at this;rw[hH,hbA,this];rfl
   have ZfW:h.size≤bR:=by have:=B4.size;omega
   rw[←hH,←hbA,←hbR];have Zzv:bA=bR+1:=by omega
   clear hH hbA hbR;have sd0:Bs h (F 1) (data.drop (16*0)):=by rw[f1];exact sd
   have cu0:Tu (F 1):=by rw[f1];exact cu
   refine VS.ZW (fun F g=>F 0=.slice p key.length c∧F 10=.pointer (some ⟨bR,0,none⟩)∧F 11=.pointer (some ⟨bA,0,none⟩)∧Zg h.size h g∧g[bR]? = some (Yf R)∧∃(k:Nat) (A:List Nat),16*k<data.length+16∧Bs h (F 1) (data.drop (16*k))∧Tu (F 1)∧g[bA]? = some (Yf A)∧A.length=5∧Yl 134217728 A∧Yp A%VY=po (Xa (Jc key)) data k)
    (fun F _=>ZnZ (F 1)) rfl ⟨f0,rfl,rfl,HB,HR,0,[0,0,0,0,0],by omega,sd0,cu0,HA,rfl,Yl.M3 (by omega) (by omega) (by omega) (by omega) (by omega),rfl⟩ ?_
   clear f0 f1 f5 f36 f37 YK sd0 cu0 F HB HR HA H;rintro F g ⟨f0,f10,f11,hg,gR,k,A,Zzw,s1,pI,gA,lA5,TV,Qb⟩;obtain⟨q,d,f1,zO⟩:=s1.open;rw[f1]at s1 pI;have pI:(data.drop (16*k)).length≤d:=pI;have Zn3:(data.drop (16*k)).length=data.length-16*k:=List.length_drop;by_cases ZD:16*k<data.length
   ·have hgt:(0:Int)<((data.drop (16*k)).length:Int):=by omega
    obtain⟨rest,KN⟩:=Zy (data.drop (16*k));have nF:ZfL data k=rest.take 16++[1]:=by rw[KN];rfl
    have YV:data.drop (16*(k+1))=rest.drop 16:=by rw[KN,List.drop_drop];congr 1
    have ZfX:Dg rest:=by rw[KN];exact fun x hx=>wd x (List.mem_of_mem_drop hx)
    rw[←KN]at f1 s1 pI zO hgt Zn3;clear KN;have z17:(#[Value.int .u8 0,.int .u8 0,.int .u8 0,.int .u8 0,.int .u8 0,.int .u8 0,.int .u8 0,.int .u8 0,.int .u8 0,.int .u8 0,.int .u8 0,.int .u8 0,.int .u8 0,.int .u8 0,.int .u8 0,.int .u8 0,.int .u8 0]:Array Value)=((List.replicate 17 0).map bv).toArray:=rfl;simp -implicitDefEqProofs only[go_sem,↓reduceIte,f0,f1,f10,f11,hgt,z17];have Y9:=Tt rest;refine Ki (E:=5) (E':=239) (c:=(List.replicate 17 0).map bv) YA Wi Zb ((s1.Z3 hg).Z3 (Zg.push (Nat.le_refl _) _)).sl Y9 (by simp;omega) ?_;obtain⟨n,hn⟩:=Zy (min rest.length 16);have hB:(rest.map bv).take n=(rest.take n).map bv:=List.map_take.symm;have hBl:(rest.take n).length=n:=by rw[List.length_take];omega
    have ZfY:rest.take n=rest.take 16:=by
     by_cases hc:rest.length≤16
     ·rw[List.take_of_length_le (by omega),List.take_of_length_le (by omega)]
     ·rw[hn,Nat.min_eq_right (by omega)]
    rw[←hn,hB,iO 17 _ (by omega),hBl,ZfY];rw[ZfY]at hBl;have ZfZ:Dg (rest.take 16):=fun x hx=>ZfX x (List.mem_of_mem_take hx);obtain⟨B,hBB⟩:=Zy (rest.take 16);rw[←hBB]at hBl nF ZfZ ⊢;have e17:(B++List.replicate (17-n) 0).set n 1=Xj B:=by rw[←hBl];exact iK (by omega)
    have Zn4:(n:Int)<17:=by omega
    have ZtP:((B++List.replicate (17-n) 0).map bv).set n (.int .u8 1)=(Xj B).map bv:=by rw[←e17,List.map_set];rfl
    have Zf0:(B++List.replicate (17-n) 0).length=17:=by simp;omega
    have Zn5:=hg.size;have ZtQ:=Za gR;have ZtR:=Za gA;obtain⟨bw,hbw⟩:=Zy (g.size);have hGR:∀o,((g.push o).setIfInBounds bw (.cells ((B++List.replicate (17-n) 0).map bv).toArray 239))[bR]? = some (Yf R):=fun o=>by
     rw[Array.getElem?_setIfInBounds,if_neg (by omega),Zu (by omega)];exact gR
    have hGA:∀o,((g.push o).setIfInBounds bw (.cells ((B++List.replicate (17-n) 0).map bv).toArray 239))[bA]? = some (Yf A):=fun o=>by
     rw[Array.getElem?_setIfInBounds,if_neg (by omega),Zu (by omega)];exact gA
    have hGW:∀o,((g.push o).setIfInBounds bw (.cells ((B++List.replicate (17-n) 0).map bv).toArray 239))[bw]? = some (.cells ((B++List.replicate (17-n) 0).map bv++[]).toArray 239):=fun o=>by
     rw[List.append_nil,hbw];exact ZT Zb
    have hGB:∀o,Zg h.size h ((g.push o).setIfInBounds bw (.cells ((B++List.replicate (17-n) 0).map bv).toArray 239)):=fun o=>(hg.Yg Zn5 _).Zk (by omega) _;have hGS:∀o,((g.push o).setIfInBounds bw (.cells ((B++List.replicate (17-n) 0).map bv).toArray 239)).size=bw+1:=fun o=>by rw[Array.size_setIfInBounds,Array.size_push,hbw]
    rw[←hbw];specialize hGR (.cells ((List.replicate 17 0).map bv).toArray 239);specialize hGA (.cells ((List.replicate 17 0).map bv).toArray 239);specialize hGW (.cells ((List.replicate 17 0).map bv).toArray 239);specialize hGB (.cells ((List.replicate 17 0).map bv).toArray 239);specialize hGS (.cells ((List.replicate 17 0).map bv).toArray 239);obtain⟨G1,kU⟩:=Zy (((g.push (.cells ((List.replicate 17 0).map bv).toArray 239)).setIfInBounds bw (.cells ((B++List.replicate (17-n) 0).map bv).toArray 239)));rw[←kU]at hGR hGA hGW hGB hGS ⊢;clear kU;have c1:JK G1 ⟨bw,n,none⟩ (.int .u8 1)=_:=Z2 (f:=bv) hGW (i:=n) (by rw[Zf0];omega) 1 rfl;rw[e17]at c1;have hW2:=ZT (o:=.cells ((Xj B).map bv++[]).toArray 239) hGW;have hR2:(G1.setIfInBounds bw (.cells ((Xj B).map bv++[]).toArray 239))[bR]? = some (Yf R):=by rw[Array.getElem?_setIfInBounds,if_neg (by omega)];exact hGR
    have hA2:(G1.setIfInBounds bw (.cells ((Xj B).map bv++[]).toArray 239))[bA]? = some (Yf A):=by rw[Array.getElem?_setIfInBounds,if_neg (by omega)];exact hGA
    have T8:Zg h.size h (G1.setIfInBounds bw (.cells ((Xj B).map bv++[]).toArray 239)):=hGB.Zk (by omega) _;have hS2:(G1.setIfInBounds bw (.cells ((Xj B).map bv++[]).toArray 239)).size=bw+1:=by rw[Array.size_setIfInBounds,hGS]
    obtain⟨G2,dM⟩:=Zy (G1.setIfInBounds bw (.cells ((Xj B).map bv++[]).toArray 239));rw[←dM]at c1 hW2 hR2 hA2 T8 hS2;clear dM hGR hGA hGW hGB hGS;have l17:=FM (l:=B) (by omega);have w17:=pF ZfZ;have o17:Z0 h.size 239 G2 (.slice (some ⟨bw,0,none⟩) 17 17) (Xj B):=
     ⟨.inr ⟨bw,17,[],by omega,by rw[l17],hW2,by simp,by rw[l17];rfl,by omega⟩,w17⟩
    have s17:=S4 o17.bs (m:=16) (by omega) 17;have t17:((Xj B).take 16).length=16:=by rw[List.length_take];omega
    have g16:=ZN hW2 (i:=16) (by omega);unfold bv at g16;have ZbL:=iJ (l:=B) (by omega);have MY:=iI (l:=B) (by omega);have wt:=S5 (l:=(Xj B).take 16) (fun x hx=>w17 x (List.mem_of_mem_take hx)) t17;obtain⟨top,FN⟩:=Zy ((Xj B).getD 16 0);rw[←FN]at g16 ZbL MY;have em:((top:Nat):Int)%18446744073709551616=(top:Nat):=by omega
    simp -implicitDefEqProofs only[go_sem,↓reduceIte,f0,f1,f10,f11,Zn4,Int.toNat_natCast,Zf0,c1];refine VS.w (bw+1) [] (.q 0 (.q 1 (.q 2 (.q 3 (.q 5 (.s 4 .nil)))))) mixed (by kernel_rfl) ?_;simp -implicitDefEqProofs only[go_sem,↓reduceIte,g16,em];refine (Ns T _ _ ((Xj B).take 16) top s17 t17 ZbL).use ?_;rintro _ G3 ⟨rfl,b3⟩;rw[hS2]at b3;have hR3:=b3.get (k:=bR) (by omega) hR2;have hA3:=b3.get (k:=bA) (by omega) hA2;have hB3:Zg h.size h G3:=T8.trans (b3.mono (by omega));have hxv:=KL (t:=top) wt;rw[MY]at hxv;have Ex:=FL (t:=top) wt ZbL;have hxn:=Sw (Xa ((Xj B).take 16)) top;obtain⟨X,hX⟩:=Zy (FC (Xa ((Xj B).take 16)) top);rw[←hX]at hxv Ex hxn ⊢;rw[←nF]at hxv;have b3T:Zg (bw+1) G2 G3=True:=eq_true b3;simp -implicitDefEqProofs only[go_sem,↓reduceIte,b3T];refine VS.ZW (fun F g=>F 0=.slice p key.length c∧F 1=.slice q rest.length d∧F 10=.pointer (some ⟨bR,0,none⟩)∧F 11=.pointer (some ⟨bA,0,none⟩)∧F 66=.agg (X.map uv).toArray∧∃i:Nat,i≤5∧F 67=.int .i64 i∧g=G3.setIfInBounds bA (Yf (VZ A X i)))
     (fun F _=>5-(vi (F 67)).toNat) rfl ⟨f0,f1,f10,f11,rfl,0,by omega,rfl,(Uv hA3).symm⟩ ?_
    clear f0 f1 f10 f11 F gR gA hg;rintro F g' ⟨f0,f1,f10,f11,f66,i,hi,f67,rfl⟩;have Bw:(G3.setIfInBounds bA (Yf (VZ A X i)))[bA]? = some (Yf (VZ A X i)):=ZT hA3;have lN:(VZ A X i).length=5:=by rw[Mt,lA5]
    have wN:=dZ TV Ex (by omega) (by omega) i;by_cases ae:i<5
    ·have oL:(i:Int)<5:=by omega
     have hnx:VZ A X (i+1)=(VZ A X i).set i ((VZ A X i).getD i 0+X.getD i 0):=rfl;obtain⟨r,hr⟩:=Zy (VZ A X i);rw[←hr]at Bw lN wN hnx ⊢;obtain⟨G,hG⟩:=Zy (G3.setIfInBounds bA (Yf r));rw[←hG]at Bw ⊢;have n1:=FG (l:=X) (i:=i) (by omega);have g1:=ZN Bw (i:=i) (by omega);unfold uv at g1;have y1:=wN.getD (by omega) i;have y2:=Ex.getD (by omega) i;obtain⟨a,ha⟩:=Zy (r.getD i 0);obtain⟨b,hb⟩:=Zy (X.getD i 0);rw[←ha]at g1 y1 hnx;rw[←hb]at n1 y2 hnx;have e1:(a:Int)+(b:Int)=((a+b:Nat):Int):=rfl;have e2:((a+b:Nat):Int)%18446744073709551616=((a+b:Nat):Int):=by omega
     have c2:JK G ⟨bA,i,none⟩ (.int .u64 (a+b:Nat))=_:=Z2 (f:=uv) Bw (i:=i) (by omega) (a+b) rfl;simp -implicitDefEqProofs only[go_sem,↓reduceIte,f0,f1,f10,f11,f66,f67,oL,Int.toNat_natCast,Nat.zero_add,n1,g1,e1,e2,c2];refine⟨⟨f0,f1,f10,f11,f66,i+1,ae,rfl,?_⟩,?_⟩
     ·rw[hG,set_set,hnx];rfl
     ·simp only[vi,Zm,↓reduceIte,f67];omega
    ·have vF:¬(i:Int)<5:=by omega
     obtain rfl:i=5:=by omega
     have c5:((5:Nat):Int)=5:=rfl;rw[c5]at f67 vF;obtain⟨wN5,vN5⟩:=pE lA5 hxn TV Ex;have hR4:(G3.setIfInBounds bA (Yf (VZ A X 5)))[bR]? = some (Yf R):=by rw[Array.getElem?_setIfInBounds,if_neg (by omega)];exact hR3
     have dR:Zg h.size h (G3.setIfInBounds bA (Yf (VZ A X 5))):=hB3.Zk (by omega) _;obtain⟨N,hN⟩:=Zy (VZ A X 5);rw[←hN]at Bw lN wN5 vN5 hR4 dR ⊢;generalize G3.setIfInBounds bA (Yf N)=G4 at *;have r1:=Sv lN Bw;have r2:=Sv hrn hR4;have lNm:(N.map uv).length=5:=by simpa using lN
     have tN:(N.map uv).take 5=N.map uv:=List.take_of_length_le (by omega);have tR:(R.map uv).take 5=R.map uv:=List.take_of_length_le (by omega);simp -implicitDefEqProofs only[go_sem,↓reduceIte,f0,f1,f10,f11,f66,f67,vF,r1,r2];refine (DR T G4 N R lN hrn wN5 tM).use ?_;rintro _ G5 ⟨rfl,b5⟩;obtain⟨w1,w2,w3⟩:=Gf lN hrn wN5 tM;obtain⟨m1,m2,m3,_⟩:=S3 w2 w1;obtain⟨M,hM⟩:=Zy (Xh (UY N R 5));rw[←hM]at m1 m2 m3 ⊢;have hA5:=b5.get (Za Bw) Bw;have hR5:=b5.get (Za hR4) hR4;have hB5:Zg h.size h G5:=dR.trans (b5.mono dR.size);have lM:(M.map uv).length=5:=by simpa using m1
     have hoM:(M.map uv).all Z6=true:=by simp[uv,Z6]
     have w5:=ZU (h:=G5) (b:=bA) (l:=(N.map uv)) (by unfold Yf at hA5;rw[List.append_nil]at hA5;exact hA5) 0 (M.map uv);rw[if_pos ⟨by simp[lM,lNm],hoM⟩,ZH (by simp[lM,lNm])]at w5;have QN:(rest.length:Int)≤d:=by omega
     obtain⟨mn,hmn⟩:=Zy (min 16 rest.length);have oU:(if (rest.length:Int)<16 then (rest.length:Int) else 16)=((mn:Nat):Int):=by split<;>omega
     have Zob:(mn:Int)≤rest.length:=by omega
     have Zf4:rest.drop mn=data.drop (16*(k+1)):=by
      rw[YV];by_cases hc:rest.length≤16
      ·rw[List.drop_of_length_le (by omega),List.drop_of_length_le (by omega)]
      ·rw[hmn,Nat.min_eq_left (by omega)]
     have s2:=SW s1 rfl (k:=mn) (by omega) pI (d-mn);rw[Zf4]at s2;have Zf5:Yp M%VY=po (Xa (Jc key)) data (k+1):=by
      rw[m3,w3,vN5,hxv,hrv,po,←Qb,Nat.mul_mod,←Nat.mod_add_mod,←Nat.mul_mod]
     simp -implicitDefEqProofs only[go_sem,↓reduceIte,f0,f1,f10,f11,w5,lM,oU,Zob,Int.toNat_natCast,Q7];refine⟨⟨f0,f10,f11,hB5.Zk (by omega) _,?_,k+1,M,by omega,s2,?_,?_,m1,m2,Zf5⟩,?_⟩
     ·rw[Array.getElem?_setIfInBounds,if_neg (by omega)];exact hR5
     ·show rest.length-mn≤d-mn;omega
     ·have:=ZT (o:=.cells (M.map uv).toArray 237) hA5;unfold Yf;rw[List.append_nil];exact this
     ·show rest.length-mn<rest.length;omega
   ·have Zf6:¬(0:Int)<((data.drop (16*k)).length:Int):=by omega
    have hk2:k=(data.length+15)/16:=by omega
    rw[hk2]at Qb;obtain⟨rest,KN⟩:=Zy (data.drop (16*k));rw[←KN]at f1 Zf6;have r1:=Sv lA5 gA;have tA:(A.map uv).take 5=A.map uv:=List.take_of_length_le (by simp[lA5]);simp -implicitDefEqProofs only[go_sem,↓reduceIte,f0,f1,f10,f11,Zf6,r1];refine (DS T g A lA5 (TV.mono (by decide))).use ?_;rintro _ g6 ⟨rfl,b6⟩;obtain⟨m1,m2,m3,m4⟩:=S3 lA5 (TV.mono (by decide));obtain⟨q1,q2,q3⟩:=iB m1 m2 m4;rw[m3,Qb]at q3;obtain⟨M,hM⟩:=Zy (Su (Xh A));rw[←hM]at q1 q2 q3 ⊢;have hA6:=b6.get (Za gA) gA;have hB6:Zg h.size h g6:=hg.trans (b6.mono hg.size);have lM:(M.map uv).length=5:=by simpa using q1
    have lAm:(A.map uv).length=5:=by simpa using lA5
    have hoM:(M.map uv).all Z6=true:=by simp[uv,Z6]
    have w5:=ZU (h:=g6) (b:=bA) (l:=(A.map uv)) (by unfold Yf at hA6;rw[List.append_nil]at hA6;exact hA6) 0 (M.map uv);rw[if_pos ⟨by simp[lM,lAm],hoM⟩,ZH (by simp[lM,lAm])]at w5;have hB7:Zg h.size h (g6.setIfInBounds bA (.cells (M.map uv).toArray 237)):=hB6.Zk (by omega) _;have hA7:(g6.setIfInBounds bA (.cells (M.map uv).toArray 237))[bA]? = some (Yf M):=by
     have:=ZT (o:=.cells (M.map uv).toArray 237) hA6;unfold Yf;rw[List.append_nil];exact this
    obtain⟨g7,hg7⟩:=Zy (g6.setIfInBounds bA (.cells (M.map uv).toArray 237));rw[←hg7]at w5 hB7 hA7;clear hg7;have sm:Bs g7 (.slice (A9 p 1 c 16) 16 (c-16)) ((key.drop 16).take 16):=ZbH (sk.Z3 hB7) rfl (by omega) ck _;have ZbM:((key.drop 16).take 16).length=16:=by rw[List.length_take,List.length_drop];omega
    have u2:(32:Int)≤c:=by omega
    have wkl:Dg ((key.drop 16).take 16):=fun x hx=>wk x (List.mem_of_mem_drop (List.mem_of_mem_take hx));simp -implicitDefEqProofs only[go_sem,↓reduceIte,f0,f1,f10,f11,w5,lM,u2,Q7];refine (Ns T _ _ _ 0 sm ZbM (by omega)).use ?_;rintro _ g8 ⟨rfl,b8⟩;have hSv:=KL (t:=0) (S5 wkl ZbM);rw[Nat.mul_zero,Nat.add_zero]at hSv;have hSl:=FL (t:=0) (S5 wkl ZbM) (by omega);have hSn:=Sw (Xa ((key.drop 16).take 16)) 0;obtain⟨S,hS⟩:=Zy (FC (Xa ((key.drop 16).take 16)) 0);rw[←hS]at hSv hSl hSn ⊢;clear hS;have hA8:=b8.get (Za hA7) hA7;have hB8:Zg h.size h g8:=hB7.trans (b8.mono hB7.size);have lS:(S.map uv).length=5:=by simpa using hSn
    have hoS:(S.map uv).all Z6=true:=by simp[uv,Z6]
    have lpS:Yw [Value.int .u64 0,.int .u64 0,.int .u64 0,.int .u64 0,.int .u64 0] 0 (S.map uv)=S.map uv:=ZH lS;simp -implicitDefEqProofs only[go_sem,↓reduceIte,f0,f1,f10,f11,lS,hoS,lpS,ZbJ];have T0:vM key data=Yp M+Yp S:=by rw[q3,hSv];rfl
    have hB9:Zg (g8.size+1) (g8.push (.cells (S.map uv).toArray 237)) ((g8.push (.cells (S.map uv).toArray 237)).push (.cells ((List.replicate 16 0).map bv).toArray 5)):=Zg.push (by simp) _;have hS9:(g8.push (.cells (S.map uv).toArray 237))[g8.size]? = some (Yf S):=by rw[Zb];unfold Yf;rw[List.append_nil]
    have hA9:(g8.push (.cells (S.map uv).toArray 237))[bA]? = some (Yf M):=by rw[Zu (Za hA8)];exact hA8
    have hH9:Zg h.size h (g8.push (.cells (S.map uv).toArray 237)):=hB8.Yg hB8.size _;have o9:Z0 (g8.size+1) 5 ((g8.push (.cells (S.map uv).toArray 237)).push (.cells ((List.replicate 16 0).map bv).toArray 5)) (.slice (some ⟨g8.size+1,0,none⟩) 0 16) []:=by
     refine⟨.inr ⟨g8.size+1,16,(List.replicate 16 0).map bv,Nat.le_refl _,rfl,?_,rfl,by simp,Nat.zero_le _⟩,fun x hx=>by cases hx⟩;have:=Zb (h:=g8.push (.cells (S.map uv).toArray 237)) (o:=.cells ((List.replicate 16 0).map bv).toArray 5);rw[Array.size_push]at this;exact this
    have Zoh:=Za hA8;have Zf7:=hB8.size;have hz9:(g8.push (.cells (S.map uv).toArray 237)).size=g8.size+1:=by simp
    obtain⟨bS,hbS⟩:∃b,b=g8.size:=⟨_,rfl⟩
    rw[←hbS]at hB9 hS9 o9 Zoh Zf7 hz9 ⊢;obtain⟨J,hJ⟩:=Zy (g8.push (.cells (S.map uv).toArray 237));rw[←hJ]at hB9 hS9 hA9 hH9 o9 hz9 ⊢;clear hJ;refine VS.ZW (fun F g=>F 11=.pointer (some ⟨bA,0,none⟩)∧F 16=.pointer (some ⟨bS,0,none⟩)∧Zg (bS+1) J g∧∃(i n sum bits:Nat) (out:List Nat),i≤5∧F 87=.int .i64 i∧F 18=.int .u64 sum∧F 19=.int .u64 bits∧F 20=.int .i64 n∧Z0 (bS+1) 5 g (F 17) out∧out.length=n∧bits<8∧26*i=8*n+bits∧sum<8*2 ^ bits∧vM key data=Xa out+256 ^ n*(sum+2 ^ bits*Oz (M.drop i) (S.drop i)))
     (fun F _=>5-(vi (F 87)).toNat) rfl ⟨f11,rfl,hB9,0,0,0,0,[],by omega,rfl,rfl,rfl,rfl,o9,rfl,by omega,by omega,by omega,by rw[T0,List.drop_zero,List.drop_zero,DZ _ _ (by omega)];simp[Xa]⟩ ?_
    clear f0 f1 f10 f11 F hB9 o9;rintro F g' ⟨f11,f16,IM,i,n,sum,bits,out,hi,f87,f18,f19,f20,ho,hol,hb8,hbn,iS,hT⟩;have gA':=IM.get (k:=bA) (by omega) hA9;have gS':=IM.get (k:=bS) (by omega) hS9;have Zf9:=IM.size;by_cases ZD:i<5
    ·have ZP:(i:Int)<5:=by omega
     rw[aJ (by omega) (by omega)]at hT;have g1:=ZN gA' (i:=i) (by omega);have g2:=ZN gS' (i:=i) (by omega);unfold uv at g1 g2;have y1:=q2.getD (by omega) i;have y2:=hSl.getD (by omega) i;obtain⟨a,ha⟩:=Zy (M.getD i 0);obtain⟨b,hb⟩:=Zy (S.getD i 0);rw[←ha]at g1 y1 hT;rw[←hb]at g2 y2 hT;have hT2:=vS hT;have D0:=iQ (c:=a+b) iS (by omega);have p8:=iP hb8;have IY:(a+b)*2 ^ bits≤268435455*128:=Nat.mul_le_mul (by omega) p8;have Zoj:sum<1024:=by omega
     have e1:(a:Int)+(b:Int)=((a+b:Nat):Int):=rfl;have e2:((a+b:Nat):Int)%18446744073709551616=((a+b:Nat):Int):=by omega
     have e3:YI .u64 ((a+b:Nat):Int) (bits:Int)=(((a+b)*2 ^ bits:Nat):Int):=by
      rw[Lw _ _ (by omega),Nat.mod_eq_of_lt (by omega)]
     obtain⟨cc,tO⟩:=Zy ((a+b)*2 ^ bits);rw[←tO]at e3 IY hT2 D0;have e4:(sum:Int)+(cc:Int)=((sum+cc:Nat):Int):=rfl;have e5:((sum+cc:Nat):Int)%18446744073709551616=((sum+cc:Nat):Int):=by omega
     have e6:(bits:Int)+26=((bits+26:Nat):Int):=rfl;have e7:((bits+26:Nat):Int)%18446744073709551616=((bits+26:Nat):Int):=by omega
     have e8:¬(bits:Int)<0:=by omega
     simp -implicitDefEqProofs only[go_sem,↓reduceIte,f11,f16,f18,f19,f20,f87,ZP];refine VS.q mixed (by kernel_rfl) ?_;simp -implicitDefEqProofs only[go_sem,↓reduceIte,f11,f16,f18,f19,f20,f87,ZP,Int.toNat_natCast,Nat.zero_add,g1,g2,e1,e2,e3,e4,e5,e6,e7,e8];refine VS.ZW (fun F g=>F 11=.pointer (some ⟨bA,0,none⟩)∧F 16=.pointer (some ⟨bS,0,none⟩)∧F 87=.int .i64 i∧Zg (bS+1) J g∧∃(n sum bits:Nat) (out:List Nat),F 18=.int .u64 sum∧F 19=.int .u64 bits∧F 20=.int .i64 n∧Z0 (bS+1) 5 g (F 17) out∧out.length=n∧bits<34∧26*(i+1)=8*n+bits∧sum<8*2 ^ bits∧vM key data=Xa out+256 ^ n*(sum+2 ^ bits*Oz (M.drop (i+1)) (S.drop (i+1))))
      (fun F _=>(vi (F 19)).toNat) rfl ⟨f11,f16,f87,IM,n,sum+cc,bits+26,out,rfl,rfl,f20,ho,hol,by omega,by omega,D0,hT2⟩ ?_
     clear f11 f16 f18 f19 f20 f87 ho hol hT hT2 iS D0 hbn hb8 IM gA' gS' Zf9 g1 g2 e3 e4 e5 e6 e7 e8 p8 IY tO Zoj F cc;clear n sum bits out g';rintro F g' ⟨f11,f16,f87,IM,n,sum,bits,out,f18,f19,f20,ho,hol,hb8,hbn,iS,hT⟩;have Zf9:=IM.size;by_cases hb:8≤bits
     ·have Ka:(8:Int)≤bits:=by omega
      have hn1:(n:Int)<16:=by omega
      have D0:=iR iS hb;have hT2:=pH hb hT;have hp:2 ^ bits≤2 ^ 34:=Nat.pow_le_pow_right (by decide) (by omega);have NX:sum<18446744073709551616:=Nat.lt_of_lt_of_le iS (Nat.le_trans (Nat.mul_le_mul_left 8 hp) (by decide));have em:((sum:Nat):Int)%256=((sum%256:Nat):Int):=rfl;have es:YT .u64 (sum:Int) 8=((sum/256:Nat):Int):=SZ sum 8 (by decide);have eb:(bits:Int)-8=((bits-8:Nat):Int):=by omega
      have eb2:((bits-8:Nat):Int)%18446744073709551616=((bits-8:Nat):Int):=by omega
      simp -implicitDefEqProofs only[go_sem,↓reduceIte,f11,f16,f18,f19,f20,f87,Ka,hn1,em];have hX:sum%256<256:=by omega
      refine Zv (E:=5) (B:=bS+1) YA Tryz.underlying48 Wi WY WX (ho.push _) (by simp;omega) (Bs.one hX 1) (by simp;omega) ?_;intro v' h' RS XU _;simp -implicitDefEqProofs only[go_sem,↓reduceIte,f11,f16,f18,f19,f20,f87,es,eb,eb2];refine⟨⟨f11,f16,f87,(IM.Yg (by omega) _).trans XU,n+1,sum/256,bits-8,out++[sum%256],rfl,rfl,rfl,RS,by simp[hol],by omega,by omega,D0,?_⟩,?_⟩
      ·rw[hT2,aK,hol]
      ·simp only[vi,Zm,↓reduceIte,Nat.reduceEqDiff,f19];omega
     ·have Ka:¬(8:Int)≤bits:=by omega
      have e9:(i:Int)+1=((i+1:Nat):Int):=rfl;simp -implicitDefEqProofs only[go_sem,↓reduceIte,f11,f16,f18,f19,f20,f87,Ka,e9];refine⟨⟨f11,f16,IM,i+1,n,sum,bits,out,ZD,rfl,f18,f19,f20,ho,hol,by omega,hbn,iS,hT⟩,?_⟩;simp only[vi,Zm,↓reduceIte,f87];omega
    ·have YK:¬(i:Int)<5:=by omega
     obtain rfl:i=5:=by omega
     have c5:((5:Nat):Int)=5:=rfl;rw[c5]at f87 YK;obtain rfl:n=16:=by omega
     have e0:Oz (M.drop 5) (S.drop 5)=0:=by rw[List.drop_of_length_le (by omega),List.drop_of_length_le (by omega)];rfl
     rw[e0,Nat.mul_zero,Nat.add_zero]at hT;have aE:=iL ho.byte hol hT;have htl:aB key data=out:=aE.symm;simp -implicitDefEqProofs only[go_sem,↓reduceIte,f11,f16,f18,f19,f20,f87,YK];rw[htl];exact⟨ho.mono (by omega),hH9.trans (IM.mono (by omega))⟩
theorem D1 (T:World) (h:Hp) (v u:Value) (key data:List Nat) (sk:Bs h v key) (sd:Bs h u data) (ck:Tu v) (cu:Tu u) :
  Zc Tryz.prog T 133 #[v,u] h fun v' h'=>px h.size h' v' key data∧Zg h.size h h':=by
 obtain⟨p,c,rfl,hkc⟩:=sk.open;obtain⟨q,d,rfl,hdc⟩:=sd.open;refine Zc.Zj (args:=[_,_]) Tryz.func133 rfl rfl rfl rfl ?_;unfold px;by_cases hk:key.length=32
 ·by_cases hd:4000<data.length
  ·have hd':4000<(data.length:Int):=by omega
   have PZ:(key.length:Int)=32:=by omega
   have e:Vv key data=1:=by unfold Vv;rw[if_pos (.inr hd)]
   rw[e];simp -implicitDefEqProofs only[go_sem,↓reduceIte,hd',PZ];exact⟨_,rfl,Z0.nil _ _ _⟩
  ·have hd':¬4000<(data.length:Int):=by omega
   have PZ:(key.length:Int)=32:=by omega
   have e:Vv key data=0:=by unfold Vv;rw[if_neg (by omega)]
   rw[e,if_pos rfl];simp -implicitDefEqProofs only[go_sem,↓reduceIte,hd',PZ];refine (aL T _ _ _ key data sk sd hk (by omega) ck cu).use ?_;rintro v1 h1 ⟨o1,b1⟩;simp -implicitDefEqProofs only[go_sem,↓reduceIte];exact⟨⟨_,rfl,o1⟩,b1⟩
 ·have PZ:¬(key.length:Int)=32:=by omega
  have e:Vv key data=1:=by unfold Vv;rw[if_pos (.inl hk)]
  rw[e];simp -implicitDefEqProofs only[go_sem,↓reduceIte,PZ];exact⟨_,rfl,Z0.nil _ _ _⟩
end Go.Proofs.YtboeoomhjbcecaaGreatDoor
