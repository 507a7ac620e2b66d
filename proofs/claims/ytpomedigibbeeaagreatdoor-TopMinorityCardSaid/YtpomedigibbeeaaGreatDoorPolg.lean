/- The program's clamped key, its blocks' numbers and its last bytes, in plain numbers; no condition but those in the statements. -/
import Derived.Test.YtpomedigibbeeaaGreatDoorPik
import Derived.Test.YtpomedigibbeeaaGreatDoorW14
namespace Go.Proofs.YtpomedigibbeeaaGreatDoor
open Go Go.V
set_option linter.unusedSimpArgs false
set_option linter.unusedVariables false
set_option maxRecDepth 100000
def Bz (l:List Nat):Nat→List Nat
 | 0=>l
 | i+1=>(Bz l i).set (4*i+3) ((Bz l i).getD (4*i+3) 0%16)
def aI (l:List Nat):Nat→List Nat
 | 0=>l
 | i+1=>(aI l i).set (4*i+4) ((aI l i).getD (4*i+4) 0/4*4)
theorem LA (l:List Nat):∀i,(Bz l i).length=l.length
 | 0=>rfl
 | i+1=>by rw[Bz,List.length_set,LA l i]
theorem LB (l:List Nat):∀i,(aI l i).length=l.length
 | 0=>rfl
 | i+1=>by rw[aI,List.length_set,LB l i]
theorem BA {l:List Nat} (w:Dg l):∀i,Dg (Bz l i)
 | 0=>w
 | i+1=>(BA w i).set _ (by have:=(BA w i).getD (4*i+3);omega)
theorem BC {l:List Nat} (w:Dg l):∀i,Dg (aI l i)
 | 0=>w
 | i+1=>(BC w i).set _ (by have:=(BC w i).getD (4*i+4);omega)
theorem qJ {l:List Nat} (hl:l.length=16):aI (Bz l 4) 3=XS l:=by
 match l,hl with
 | [a0,a1,a2,a3,a4,a5,a6,a7,a8,a9,a10,a11,a12,a13,a14,a15],_=>rfl
theorem Eo (key:List Nat):XS key=XS (key.take 16):=by
 unfold XS
 apply List.map_congr_left
 intro i hi
 have ad:i<16:=by simpa using hi
 have e:(key.take 16).getD i 0=key.getD i 0:=by
  rw[List.getD_eq_getElem?_getD,List.getElem?_take,if_pos ad,List.getD_eq_getElem?_getD]
 unfold kJ
 rw[e]
theorem dY {key:List Nat} (hk:key.length=32):aI (Bz (key.take 16) 4) 3=XS key:=by
 rw[Eo];exact qJ (by rw[List.length_take];omega)
theorem Sm {l:List Nat} (w:Dg l) (hl:l.length=16):YV l<340282366920938463463374607431768211456:=by
 have:=UM w (n:=16) (by omega)
 exact this
theorem TN (n t:Nat):(Gf n t).length=5:=rfl
theorem Gq {n t:Nat} (hn:n<340282366920938463463374607431768211456) (ht:t≤1):Yh 67108864 (Gf n t):=
 Yh.Ov (by omega) (by omega) (by omega) (by omega) (by omega)
theorem LC {n t:Nat} (hn:n<340282366920938463463374607431768211456):Yj (Gf n t)=n+340282366920938463463374607431768211456*t:=by
 simp only[Gf,Yj];omega
def Vi (a x:List Nat):Nat→List Nat
 | 0=>a
 | i+1=>(Vi a x i).set i ((Vi a x i).getD i 0+x.getD i 0)
theorem Nk (a x:List Nat):∀i,(Vi a x i).length=a.length
 | 0=>rfl
 | i+1=>by rw[Vi,List.length_set,Nk a x i]
theorem aJ {a x:List Nat} {K L:Nat} (wa:Yh K a) (wx:Yh L x) (hK:0<K) (hL:0<L):∀i,Yh (K+i*L) (Vi a x i)
 | 0=>by rw[Nat.zero_mul];exact wa
 | i+1=>by
  have h:=aJ wa wx hK hL i
  have q1:=h.getD (by omega) i
  have q2:=wx.getD hL i
  rw[Vi,Nat.add_mul,Nat.one_mul]
  exact (h.mono (by omega)).set _ _ (by omega)
theorem kP {a x:List Nat} (ha:a.length=5) (hx:x.length=5) (wa:Yh 134217728 a) (wx:Yh 67108864 x):Yh 268435456 (Vi a x 5)∧Yj (Vi a x 5)=Yj a+Yj x:=by
 obtain⟨a0,a1,a2,a3,a4,rfl⟩:=Ov ha
 obtain⟨x0,x1,x2,x3,x4,rfl⟩:=Ov hx
 obtain⟨w0,w1,w2,w3,w4⟩:=wa.qC
 obtain⟨u0,u1,u2,u3,u4⟩:=wx.qC
 have e:Vi [a0,a1,a2,a3,a4] [x0,x1,x2,x3,x4] 5=[a0+x0,a1+x1,a2+x2,a3+x3,a4+x4]:=rfl
 rw[e]
 exact⟨Yh.Ov (by omega) (by omega) (by omega) (by omega) (by omega),by simp only[Yj];omega⟩
theorem LD (a b:List Nat):YV (a++b)=YV a+256 ^ a.length*YV b:=by
 induction a with
 | nil=>simp[YV]
 | cons x a ih=>simp only[List.cons_append,YV,ih,List.length_cons,Nat.pow_succ,Nat.mul_add,Nat.add_assoc];congr 2;rw[←Nat.mul_assoc,Nat.mul_comm 256]
theorem BD (n:Nat):YV (List.replicate n 0)=0:=by
 induction n with
 | zero=>rfl
 | succ n ih=>rw[List.replicate_succ,YV,ih]
def Y3 (l:List Nat):List Nat:=l++[1]++List.replicate (16-l.length) 0
theorem Gs {l:List Nat} (hl:l.length≤16):(Y3 l).length=17:=by simp[Y3];omega
theorem dZ {l:List Nat} (hl:l.length≤16):YV ((Y3 l).take 16)+340282366920938463463374607431768211456*(Y3 l).getD 16 0=YV (l++[1]):=by
 by_cases h:l.length=16
 ·have e1:(Y3 l).take 16=l:=by unfold Y3;rw[List.append_assoc,List.take_left' h]
  have e2:(Y3 l).getD 16 0=1:=by
   unfold Y3
   rw[List.getD_eq_getElem?_getD,List.append_assoc,List.getElem?_append_right (by omega),h];rfl
  rw[e1,e2,LD,h];rfl
 ·have e2:(Y3 l).getD 16 0=0:=by
   unfold Y3
   rw[List.getD_eq_getElem?_getD,List.getElem?_append_right (by simp;omega),List.getElem?_replicate]
   split<;>rfl
  have e1:(Y3 l).take 16=(l++[1])++List.replicate (15-l.length) 0:=by
   unfold Y3
   rw[List.take_append,List.take_of_length_le (by simp;omega),List.take_replicate]
   congr 2
   simp;omega
  rw[e1,e2,LD,BD];omega
theorem eh {l:List Nat} (hl:l.length≤16):(Y3 l).getD 16 0≤1:=by
 by_cases h:l.length=16
 ·have e2:(Y3 l).getD 16 0=1:=by
   unfold Y3
   rw[List.getD_eq_getElem?_getD,List.append_assoc,List.getElem?_append_right (by omega),h];rfl
  omega
 ·have e2:(Y3 l).getD 16 0=0:=by
   unfold Y3
   rw[List.getD_eq_getElem?_getD,List.getElem?_append_right (by simp;omega),List.getElem?_replicate]
   split<;>rfl
  omega
theorem kQ {l:List Nat} (w:Dg l):Dg (Y3 l):=by
 intro x hx
 unfold Y3 at hx
 simp only[List.mem_append,List.mem_singleton,List.mem_replicate]at hx
 rcases hx with (h|h)|h
 ·exact w x h
 ·omega
 ·omega
theorem ej {l:List Nat} (hl:l.length≤16):(l++List.replicate (17-l.length) 0).set l.length 1=Y3 l:=by
 have e:List.replicate (17-l.length) 0=0 :: List.replicate (16-l.length) 0:=by rw[←List.replicate_succ];congr 1;omega
 rw[e,List.set_append_right _ _ (Nat.le_refl _),Nat.sub_self,List.set_cons_zero]
 unfold Y3;rw[List.append_assoc];rfl
def Pm:List Nat→List Nat→Nat
 | x :: l,y :: k=>(x+y)+67108864*Pm l k
 | _,_=>0
theorem Ep:∀(l k:List Nat),l.length=k.length→Pm l k=Yj l+Yj k
 | [],[],_=>rfl
 | x :: l,y :: k,h=>by simp only[Pm,Yj];rw[Ep l k (by simpa using h)];omega
theorem eu {out:List Nat} {t R:Nat} (w:Dg out) (hl:out.length=16) (h:t=YV out+256 ^ 16*R):out=(List.range 16).map fun i=>t/256 ^ i%256:=by
 apply List.ext_getElem?
 intro i
 by_cases hi:i<16
 ·rw[List.getElem?_map,List.getElem?_range hi]
  have e:=Bn w i
  rw[List.getD_eq_getElem?_getD,List.getElem?_eq_getElem (by omega)]at e
  rw[List.getElem?_eq_getElem (by omega)]
  simp only[Option.map_some,Option.some.injEq]
  simp only[Option.getD_some]at e
  rw[e,h]
  have e2:256 ^ 16*R=256 ^ i*(256*(256 ^ (15-i)*R)):=by
   rw[←Nat.mul_assoc 256,←Nat.mul_assoc,←Nat.pow_succ',←Nat.pow_add]
   congr 2;omega
  rw[e2,Nat.add_mul_div_left _ _ (Nat.pow_pos (by omega)),Nat.add_mul_mod_self_left]
 ·rw[List.getElem?_eq_none (by omega),List.getElem?_eq_none (by simp;omega)]
theorem kR {T v n s B R:Nat} (hB:256≤B) (hd:B%256=0) (h:T=v+n*(s+B*R)):T=v+n*(s%256)+n*256*(s/256+B/256*R):=by
 have e:s+B*R=s%256+256*(s/256+B/256*R):=by
  have e1:B=256*(B/256):=by omega
  have e2:B*R=256*(B/256*R):=by rw[←Nat.mul_assoc,←e1]
  have e3:=Nat.mod_add_div s 256
  rw[Nat.mul_add,e2];omega
 rw[h,e,Nat.mul_add,←Nat.mul_assoc,←Nat.add_assoc]
theorem ew {i:Nat} (hi:i<4):nth [Value.int .i64 3,.int .i64 7,.int .i64 11,.int .i64 15] i=some (.int .i64 ((4*i+3:Nat):Int)):=by
 match i,hi with
 | 0,_=>rfl
 | 1,_=>rfl
 | 2,_=>rfl
 | 3,_=>rfl
theorem ey {i:Nat} (hi:i<3):nth [Value.int .i64 4,.int .i64 8,.int .i64 12] i=some (.int .i64 ((4*i+4:Nat):Int)):=by
 match i,hi with
 | 0,_=>rfl
 | 1,_=>rfl
 | 2,_=>rfl
theorem Zc3 (x:Nat) (hx:x<256):Z5 .and .u8 (x:Int) 15=((x%16:Nat):Int):=by
 have h:=jC x 15 hx (by decide)
 have e:x &&& 15=x%16:=Nat.and_two_pow_sub_one_eq_mod x 4
 rw[e]at h;exact h
theorem ya (x:Nat) (hx:x<256):Z5 .and .u8 (x:Int) 252=((x/4*4:Nat):Int):=by
 have h:=jC x 252 hx (by decide)
 have e:x &&& 252=x/4*4:=by
  have:∀y:Fin 256,y.val &&& 252=y.val/4*4:=by decide
  exact this ⟨x,hx⟩
 rw[e]at h;exact h
def ZkU:Value→Nat
 | .slice _ l _=>l
 | _=>0
theorem eB (n:Nat) (vs:List Nat) (h:vs.length≤n):Ym ((List.replicate n 0).map bv) 0 (vs.map bv)=(vs++List.replicate (n-vs.length) 0).map bv:=by
 rw[JW _ _ (by simpa using h),List.length_map,←List.map_drop,List.drop_replicate,List.map_append]
theorem BE {M S:List Nat} {i:Nat} (hM:i<M.length) (hS:i<S.length):Pm (M.drop i) (S.drop i)=(M.getD i 0+S.getD i 0)+67108864*Pm (M.drop (i+1)) (S.drop (i+1)):=by
 rw[List.drop_eq_getElem_cons hM,List.drop_eq_getElem_cons hS,Pm,List.getD_eq_getElem?_getD,List.getD_eq_getElem?_getD,List.getElem?_eq_getElem hM,List.getElem?_eq_getElem hS];rfl
theorem qL {T v n s b c R:Nat} (h:T=v+n*(s+2 ^ b*(c+67108864*R))):T=v+n*(s+c*2 ^ b+2 ^ (b+26)*R):=by
 rw[h,Nat.mul_add (2 ^ b),Nat.mul_comm (2 ^ b) c,Nat.pow_add,←Nat.mul_assoc (2 ^ b),Nat.add_assoc]
theorem eE {b:Nat} (h:b<8):2 ^ b≤128:=by
 have:=Nat.pow_le_pow_right (show 0<2 by decide) (show b≤7 by omega)
 exact this
theorem eG {s c b:Nat} (hs:s<8*2 ^ b) (hc:c<268435456):s+c*2 ^ b<8*2 ^ (b+26):=by
 have h1:c*2 ^ b≤268435455*2 ^ b:=Nat.mul_le_mul_right _ (by omega)
 rw[Nat.pow_add]
 have:2 ^ 26=67108864:=rfl
 rw[this];omega
theorem eH {s b:Nat} (hs:s<8*2 ^ b) (hb:8≤b):s/256<8*2 ^ (b-8):=by
 have:2 ^ b=2 ^ (b-8)*256:=by
  have e:b=b-8+8:=by omega
  rw[e,Nat.pow_add,Nat.add_sub_cancel]
 rw[this]at hs;omega
theorem kS {T v n s b R:Nat} (hb:8≤b) (h:T=v+256 ^ n*(s+2 ^ b*R)):T=v+256 ^ n*(s%256)+256 ^ (n+1)*(s/256+2 ^ (b-8)*R):=by
 have e:2 ^ b=2 ^ (b-8)*256:=by
  have e:b=b-8+8:=by omega
  rw[e,Nat.pow_add,Nat.add_sub_cancel]
 have hp:0<2 ^ (b-8):=Nat.pow_pos (by omega)
 have:=kR (B:=2 ^ b) (by rw[e];omega) (by rw[e];omega) h
 rw[show 2 ^ b/256=2 ^ (b-8) by rw[e,Nat.mul_div_cancel _ (by omega)]]at this
 rw[Nat.pow_succ];exact this
theorem BF (l:List Nat) (x:Nat):YV (l++[x])=YV l+256 ^ l.length*x:=by rw[LD];rfl
theorem yc:(XI 16 [Value.int .u8 0])=(List.replicate 16 0).map bv:=rfl
set_option maxHeartbeats 2000000 in
theorem BG (T:World) (h:Hp) (v u:Value) (key data:List Nat) (sk:Bs h v key) (sd:Bs h u data) (hk:key.length=32) (hd:data.length≤4000) (ck:Td v) (cu:Td u) :
  Zc Tryz.prog T 106 #[v,u] h fun v' h'=>ZZ h.size 5 h' v' (Bu key data)∧Zf h.size h h':=by
 have wk:=sk.byte
 have wd:=sd.byte
 obtain⟨p,c,rfl,hkc⟩:=sk.Uh
 have ck:key.length≤c:=ck
 have l16:(key.take 16).length=16:=by rw[List.length_take];omega
 have s16:=Sj sk (m:=16) (by omega) c
 have c16:(16:Int)≤c:=by omega
 refine Zc.Zh (args:=[_,_]) Tryz.func106 rfl rfl rfl rfl ?_
 simp -implicitDefEqProofs only[go_sem,↓reduceIte,c16]
 refine Zv (E:=5) (B:=h.size) Yt Tryz.underlying34 Wh Vb Va (ZZ.nil _ _ _) (Nat.le_refl _) (by rw[hk]at sk;simpa using s16) (by rw[l16];decide) ?_
 intro v1 h1 o1 b1 _
 rw[List.nil_append]at o1
 have o1n:=o1.own
 rcases o1n with⟨_,hm,_⟩|⟨bc,cap,spare,hbc,rfl,RQ,XY,Sz,Qa⟩
 ·omega
 obtain⟨L,hL⟩:=Zy (key.take 16)
 have wL:Dg L:=by rw[hL];exact fun x hx=>wk x (List.mem_of_mem_take hx)
 have Zc4:aI (Bz L 4) 3=XS key:=by rw[hL];exact dY hk
 rw[←hL]at l16 RQ XY Sz Qa ⊢
 clear o1 s16 hL
 have ZvW:=Za RQ
 simp -implicitDefEqProofs only[go_sem,↓reduceIte]
 refine VS.ZV (fun F g=>F 0=.slice p key.length c∧F 1=u∧F 5=.slice (some ⟨bc,0,none⟩) L.length cap∧F 25=.agg #[.int .i64 3,.int .i64 7,.int .i64 11,.int .i64 15]∧∃i:Nat,i≤4∧F 26=.int .i64 i∧g=h1.setIfInBounds bc (.cells ((Bz L i).map bv++spare).toArray 5))
  (fun F _=>4-(vi (F 26)).toNat) rfl ⟨rfl,rfl,rfl,rfl,0,by omega,rfl,(QY RQ).symm⟩ ?_
 rintro F g ⟨f0,f1,f5,f25,i,hi,f26,rfl⟩
 have hx:=ZO (o:=.cells ((Bz L i).map bv++spare).toArray 5) RQ
 have wA:=BA wL i
 have lA:=LA L i
 by_cases ZA:i<4
 ·have ZI:(i:Int)<4:=by omega
  have YE:Bz L (i+1)=(Bz L i).set (4*i+3) ((Bz L i).getD (4*i+3) 0%16):=rfl
  obtain⟨r,hr⟩:=Zy (Bz L i)
  rw[←hr]at hx wA lA YE ⊢
  obtain⟨G,hG⟩:=Zy (h1.setIfInBounds bc (.cells (r.map bv++spare).toArray 5))
  rw[←hG]at hx ⊢
  have n1:=ew ZA
  have g1:=ZJ hx (i:=4*i+3) (by omega)
  have x1:=wA.getD (4*i+3)
  unfold bv at g1
  obtain⟨x,nZ⟩:=Zy (r.getD (4*i+3) 0)
  rw[←nZ]at g1 x1 YE
  have e1:=Zc3 x x1
  have hi1:((4*i+3:Nat):Int)<L.length:=by omega
  have c1:Jg G ⟨bc,4*i+3,none⟩ (.int .u8 (x%16:Nat))=_:=ZY (f:=bv) hx (i:=4*i+3) (by omega) (x%16) rfl
  simp -implicitDefEqProofs only[go_sem,↓reduceIte,f0,f1,f5,f25,f26,ZI,Int.toNat_natCast,Nat.zero_add,n1,hi1,g1,e1,c1]
  refine⟨⟨f0,f1,f5,f25,i+1,ZA,rfl,?_⟩,?_⟩
  ·rw[hG,set_set,YE]
  ·simp only[vi,Zj,↓reduceIte,f26];omega
 ·have YF:¬(i:Int)<4:=by omega
  obtain rfl:i=4:=by omega
  have c4:((4:Nat):Int)=4:=rfl
  rw[c4]at f26 YF
  obtain⟨L2,hL2⟩:=Zy (Bz L 4)
  rw[←hL2]at hx wA lA Zc4 ⊢
  have B2:Zf h.size h (h1.setIfInBounds bc (.cells (L2.map bv++spare).toArray 5)):=b1.Zk hbc _
  generalize h1.setIfInBounds bc (.cells (L2.map bv++spare).toArray 5)=h2 at *
  clear hL2
  simp -implicitDefEqProofs only[go_sem,↓reduceIte,f0,f1,f5,f25,f26,YF]
  refine VS.ZV (fun F g=>F 0=.slice p key.length c∧F 1=u∧F 5=.slice (some ⟨bc,0,none⟩) L.length cap∧F 36=.agg #[.int .i64 4,.int .i64 8,.int .i64 12]∧∃i:Nat,i≤3∧F 37=.int .i64 i∧g=h2.setIfInBounds bc (.cells ((aI L2 i).map bv++spare).toArray 5))
   (fun F _=>3-(vi (F 37)).toNat) rfl ⟨f0,f1,f5,rfl,0,by omega,rfl,(QY hx).symm⟩ ?_
  clear f0 f1 f5 f25 f26 YF F
  rintro F g ⟨f0,f1,f5,f36,i,hi,f37,rfl⟩
  have Br:=ZO (o:=.cells ((aI L2 i).map bv++spare).toArray 5) hx
  have wB:=BC wA i
  have lB:=LB L2 i
  by_cases ZA:i<3
  ·have ZI:(i:Int)<3:=by omega
   have YE:aI L2 (i+1)=(aI L2 i).set (4*i+4) ((aI L2 i).getD (4*i+4) 0/4*4):=rfl
   obtain⟨r,hr⟩:=Zy (aI L2 i)
   rw[←hr]at Br wB lB YE ⊢
   obtain⟨G,hG⟩:=Zy (h2.setIfInBounds bc (.cells (r.map bv++spare).toArray 5))
   rw[←hG]at Br ⊢
   have n1:=ey ZA
   have g1:=ZJ Br (i:=4*i+4) (by omega)
   have x1:=wB.getD (4*i+4)
   unfold bv at g1
   obtain⟨x,nZ⟩:=Zy (r.getD (4*i+4) 0)
   rw[←nZ]at g1 x1 YE
   have e1:=ya x x1
   have hi1:((4*i+4:Nat):Int)<L.length:=by omega
   have c1:Jg G ⟨bc,4*i+4,none⟩ (.int .u8 (x/4*4:Nat))=_:=ZY (f:=bv) Br (i:=4*i+4) (by omega) (x/4*4) rfl
   simp -implicitDefEqProofs only[go_sem,↓reduceIte,f0,f1,f5,f36,f37,ZI,Int.toNat_natCast,Nat.zero_add,n1,hi1,g1,e1,c1]
   refine⟨⟨f0,f1,f5,f36,i+1,ZA,rfl,?_⟩,?_⟩
   ·rw[hG,set_set,YE]
   ·simp only[vi,Zj,↓reduceIte,f37];omega
  ·have YF:¬(i:Int)<3:=by omega
   obtain rfl:i=3:=by omega
   have c3:((3:Nat):Int)=3:=rfl
   rw[c3]at f37 YF
   rw[Zc4]at Br wB lB ⊢
   have B3:Zf h.size h (h2.setIfInBounds bc (.cells ((XS key).map bv++spare).toArray 5)):=B2.Zk hbc _
   generalize h2.setIfInBounds bc (.cells ((XS key).map bv++spare).toArray 5)=h3 at *
   have qM:=K0 key
   have oc:ZZ h.size 5 h3 (.slice (some ⟨bc,0,none⟩) L.length cap) (XS key):=
    ⟨.inr ⟨bc,cap,spare,hbc,by rw[l16,qM],Br,by simp,by rw[Sz,l16,qM],by omega⟩,wB⟩
   simp -implicitDefEqProofs only[go_sem,↓reduceIte,f0,f1,f5,f36,f37,YF]
   refine (Ou T _ _ (XS key) 0 oc.bs qM (by omega)).use ?_
   rintro _ h4 ⟨rfl,b4⟩
   have B4:Zf h.size h h4:=B3.trans (b4.mono B3.size)
   have hR:=Sm wB qM
   have hrv:Yj (Gf (YV (XS key)) 0)=YV (XS key):=by rw[LC hR,Nat.mul_zero,Nat.add_zero]
   have om:=Gq (t:=0) hR (by omega)
   have hrn:=TN (YV (XS key)) 0
   obtain⟨R,hRR⟩:=Zy (Gf (YV (XS key)) 0)
   rw[←hRR]at hrv om hrn ⊢
   have lR:(R.map uv).length=5:=by simpa using hrn
   have hoR:(R.map uv).all Z6=true:=by simp[uv,Z6]
   have lp:Ym [Value.int .u64 0,.int .u64 0,.int .u64 0,.int .u64 0,.int .u64 0] 0 (R.map uv)=R.map uv:=ZM lR
   simp -implicitDefEqProofs only[go_sem,↓reduceIte,f0,f1,f5,f36,f37,lR,hoR,lp]
   obtain⟨bR,hbR⟩:∃b,b=h4.size:=⟨_,rfl⟩
   obtain⟨bA,hbA⟩:∃b,b=h4.size+1:=⟨_,rfl⟩
   obtain⟨H,hH⟩:=Zy (((h4.push (.cells (R.map uv).toArray 227)).push (.cells #[.int .u64 0,.int .u64 0,.int .u64 0,.int .u64 0,.int .u64 0] 227)):Hp)
   have HB:Zf h.size h H:=by rw[hH];exact (B4.Yf B4.size _).Yf (by have:=B4.size;simp;omega) _
   have HR:H[bR]? = some (Yb R):=by
    rw[hH,hbR,Zq (by simp),Zb];unfold Yb;rw[List.append_nil]
   have HA:H[bA]? = some (Yb [0,0,0,0,0]):=by
    have:=Zb (h:=(h4.push (.cells (R.map uv).toArray 227))) (o:=.cells #[.int .u64 0,.int .u64 0,.int .u64 0,.int .u64 0,.int .u64 0] 227)
    rw[Array.size_push]at this
    rw[hH,hbA,this];rfl
   have Zc6:h.size≤bR:=by have:=B4.size;omega
   rw[←hH,←hbA,←hbR]
   have ZvZ:bA=bR+1:=by omega
   clear hH hbA hbR
   have sd0:Bs h (F 1) (data.drop (16*0)):=by rw[f1];exact sd
   have cu0:Td (F 1):=by rw[f1];exact cu
   refine VS.ZV (fun F g=>F 0=.slice p key.length c∧F 10=.pointer (some ⟨bR,0,none⟩)∧F 11=.pointer (some ⟨bA,0,none⟩)∧Zf h.size h g∧g[bR]? = some (Yb R)∧∃(k:Nat) (A:List Nat),16*k<data.length+16∧Bs h (F 1) (data.drop (16*k))∧Td (F 1)∧g[bA]? = some (Yb A)∧A.length=5∧Yh 134217728 A∧Yj A%Vh=kK (YV (XS key)) data k)
    (fun F _=>ZkU (F 1)) rfl ⟨f0,rfl,rfl,HB,HR,0,[0,0,0,0,0],by omega,sd0,cu0,HA,rfl,Yh.Ov (by omega) (by omega) (by omega) (by omega) (by omega),rfl⟩ ?_
   clear f0 f1 f5 f36 f37 YF sd0 cu0 F HB HR HA H
   rintro F g ⟨f0,f10,f11,hg,gR,k,A,Zv0,s1,kT,gA,ye,V3,Er⟩
   obtain⟨q,d,f1,uS⟩:=s1.open
   rw[f1]at s1 kT
   have kT:(data.drop (16*k)).length≤d:=kT
   have ZkY:(data.drop (16*k)).length=data.length-16*k:=List.length_drop
   by_cases ZA:16*k<data.length
   ·have yf:(0:Int)<((data.drop (16*k)).length:Int):=by omega
    obtain⟨rest,SM⟩:=Zy (data.drop (16*k))
    have jJ:ZcV data k=rest.take 16++[1]:=by rw[SM];rfl
    have YE:data.drop (16*(k+1))=rest.drop 16:=by rw[SM,List.drop_drop];congr 1
    have Zc7:Dg rest:=by rw[SM];exact fun x hx=>wd x (List.mem_of_mem_drop hx)
    rw[←SM]at f1 s1 kT uS yf ZkY
    clear SM
    have z17:(#[Value.int .u8 0,.int .u8 0,.int .u8 0,.int .u8 0,.int .u8 0,.int .u8 0,.int .u8 0,.int .u8 0,.int .u8 0,.int .u8 0,.int .u8 0,.int .u8 0,.int .u8 0,.int .u8 0,.int .u8 0,.int .u8 0,.int .u8 0]:Array Value)=((List.replicate 17 0).map bv).toArray:=rfl
    simp -implicitDefEqProofs only[go_sem,↓reduceIte,f0,f1,f10,f11,yf,z17]
    have Y8:=VA rest
    refine Lc (E:=5) (E':=229) (c:=(List.replicate 17 0).map bv) Yt Wh Zb ((s1.Z7 hg).Z7 (Zf.push (Nat.le_refl _) _)).sl Y8 (by simp;omega) ?_
    obtain⟨n,hn⟩:=Zy (min rest.length 16)
    have hB:(rest.map bv).take n=(rest.take n).map bv:=List.map_take.symm
    have hBl:(rest.take n).length=n:=by rw[List.length_take];omega
    have Zc8:rest.take n=rest.take 16:=by
     by_cases hc:rest.length≤16
     ·rw[List.take_of_length_le (by omega),List.take_of_length_le (by omega)]
     ·rw[hn,Nat.min_eq_right (by omega)]
    rw[←hn,hB,eB 17 _ (by omega),hBl,Zc8]
    rw[Zc8]at hBl
    have Zc9:Dg (rest.take 16):=fun x hx=>Zc7 x (List.mem_of_mem_take hx)
    obtain⟨B,hBB⟩:=Zy (rest.take 16)
    rw[←hBB]at hBl jJ Zc9 ⊢
    have e17:(B++List.replicate (17-n) 0).set n 1=Y3 B:=by rw[←hBl];exact ej (by omega)
    have ZkZ:(n:Int)<17:=by omega
    have ZqH:((B++List.replicate (17-n) 0).map bv).set n (.int .u8 1)=(Y3 B).map bv:=by rw[←e17,List.map_set];rfl
    have Zda:(B++List.replicate (17-n) 0).length=17:=by simp;omega
    have Zk0:=hg.size
    have ZqI:=Za gR
    have ZqJ:=Za gA
    obtain⟨bw,hbw⟩:=Zy (g.size)
    have hGR:∀o,((g.push o).setIfInBounds bw (.cells ((B++List.replicate (17-n) 0).map bv).toArray 229))[bR]? = some (Yb R):=fun o=>by
     rw[Array.getElem?_setIfInBounds,if_neg (by omega),Zq (by omega)];exact gR
    have hGA:∀o,((g.push o).setIfInBounds bw (.cells ((B++List.replicate (17-n) 0).map bv).toArray 229))[bA]? = some (Yb A):=fun o=>by
     rw[Array.getElem?_setIfInBounds,if_neg (by omega),Zq (by omega)];exact gA
    have hGW:∀o,((g.push o).setIfInBounds bw (.cells ((B++List.replicate (17-n) 0).map bv).toArray 229))[bw]? = some (.cells ((B++List.replicate (17-n) 0).map bv++[]).toArray 229):=fun o=>by
     rw[List.append_nil,hbw];exact ZO Zb
    have hGB:∀o,Zf h.size h ((g.push o).setIfInBounds bw (.cells ((B++List.replicate (17-n) 0).map bv).toArray 229)):=fun o=>(hg.Yf Zk0 _).Zk (by omega) _
    have hGS:∀o,((g.push o).setIfInBounds bw (.cells ((B++List.replicate (17-n) 0).map bv).toArray 229)).size=bw+1:=fun o=>by rw[Array.size_setIfInBounds,Array.size_push,hbw]
    rw[←hbw]
    specialize hGR (.cells ((List.replicate 17 0).map bv).toArray 229)
    specialize hGA (.cells ((List.replicate 17 0).map bv).toArray 229)
    specialize hGW (.cells ((List.replicate 17 0).map bv).toArray 229)
    specialize hGB (.cells ((List.replicate 17 0).map bv).toArray 229)
    specialize hGS (.cells ((List.replicate 17 0).map bv).toArray 229)
    obtain⟨G1,gQ⟩:=Zy (((g.push (.cells ((List.replicate 17 0).map bv).toArray 229)).setIfInBounds bw (.cells ((B++List.replicate (17-n) 0).map bv).toArray 229)))
    rw[←gQ]at hGR hGA hGW hGB hGS ⊢
    clear gQ
    have c1:Jg G1 ⟨bw,n,none⟩ (.int .u8 1)=_:=ZY (f:=bv) hGW (i:=n) (by rw[Zda];omega) 1 rfl
    rw[e17]at c1
    have hW2:=ZO (o:=.cells ((Y3 B).map bv++[]).toArray 229) hGW
    have hR2:(G1.setIfInBounds bw (.cells ((Y3 B).map bv++[]).toArray 229))[bR]? = some (Yb R):=by rw[Array.getElem?_setIfInBounds,if_neg (by omega)];exact hGR
    have hA2:(G1.setIfInBounds bw (.cells ((Y3 B).map bv++[]).toArray 229))[bA]? = some (Yb A):=by rw[Array.getElem?_setIfInBounds,if_neg (by omega)];exact hGA
    have Tn:Zf h.size h (G1.setIfInBounds bw (.cells ((Y3 B).map bv++[]).toArray 229)):=hGB.Zk (by omega) _
    have hS2:(G1.setIfInBounds bw (.cells ((Y3 B).map bv++[]).toArray 229)).size=bw+1:=by rw[Array.size_setIfInBounds,hGS]
    obtain⟨G2,az⟩:=Zy (G1.setIfInBounds bw (.cells ((Y3 B).map bv++[]).toArray 229))
    rw[←az]at c1 hW2 hR2 hA2 Tn hS2
    clear az hGR hGA hGW hGB hGS
    have l17:=Gs (l:=B) (by omega)
    have w17:=kQ Zc9
    have o17:ZZ h.size 229 G2 (.slice (some ⟨bw,0,none⟩) 17 17) (Y3 B):=
     ⟨.inr ⟨bw,17,[],by omega,by rw[l17],hW2,by simp,by rw[l17];rfl,by omega⟩,w17⟩
    have s17:=Sj o17.bs (m:=16) (by omega) 17
    have t17:((Y3 B).take 16).length=16:=by rw[List.length_take];omega
    have g16:=ZJ hW2 (i:=16) (by omega)
    unfold bv at g16
    have yg:=eh (l:=B) (by omega)
    have NO:=dZ (l:=B) (by omega)
    have wt:=Sm (l:=(Y3 B).take 16) (fun x hx=>w17 x (List.mem_of_mem_take hx)) t17
    obtain⟨top,eI⟩:=Zy ((Y3 B).getD 16 0)
    rw[←eI]at g16 yg NO
    have em:((top:Nat):Int)%18446744073709551616=(top:Nat):=by omega
    simp -implicitDefEqProofs only[go_sem,↓reduceIte,f0,f1,f10,f11,ZkZ,Int.toNat_natCast,Zda,c1]
    refine VS.w (bw+1) [] (.q 0 (.q 1 (.q 2 (.q 3 (.q 5 (.s 4 .nil)))))) mixed (by kernel_rfl) ?_
    simp -implicitDefEqProofs only[go_sem,↓reduceIte,g16,em]
    refine (Ou T _ _ ((Y3 B).take 16) top s17 t17 yg).use ?_
    rintro _ G3 ⟨rfl,b3⟩
    rw[hS2]at b3
    have hR3:=b3.get (k:=bR) (by omega) hR2
    have hA3:=b3.get (k:=bA) (by omega) hA2
    have hB3:Zf h.size h G3:=Tn.trans (b3.mono (by omega))
    have hxv:=LC (t:=top) wt
    rw[NO]at hxv
    have BH:=Gq (t:=top) wt yg
    have hxn:=TN (YV ((Y3 B).take 16)) top
    obtain⟨X,hX⟩:=Zy (Gf (YV ((Y3 B).take 16)) top)
    rw[←hX]at hxv BH hxn ⊢
    rw[←jJ]at hxv
    have b3T:Zf (bw+1) G2 G3=True:=eq_true b3
    simp -implicitDefEqProofs only[go_sem,↓reduceIte,b3T]
    refine VS.ZV (fun F g=>F 0=.slice p key.length c∧F 1=.slice q rest.length d∧F 10=.pointer (some ⟨bR,0,none⟩)∧F 11=.pointer (some ⟨bA,0,none⟩)∧F 66=.agg (X.map uv).toArray∧∃i:Nat,i≤5∧F 67=.int .i64 i∧g=G3.setIfInBounds bA (Yb (Vi A X i)))
     (fun F _=>5-(vi (F 67)).toNat) rfl ⟨f0,f1,f10,f11,rfl,0,by omega,rfl,(QY hA3).symm⟩ ?_
    clear f0 f1 f10 f11 F gR gA hg
    rintro F g' ⟨f0,f1,f10,f11,f66,i,hi,f67,rfl⟩
    have DO:(G3.setIfInBounds bA (Yb (Vi A X i)))[bA]? = some (Yb (Vi A X i)):=ZO hA3
    have lN:(Vi A X i).length=5:=by rw[Nk,ye]
    have wN:=aJ V3 BH (by omega) (by omega) i
    by_cases Bb:i<5
    ·have ko:(i:Int)<5:=by omega
     have hnx:Vi A X (i+1)=(Vi A X i).set i ((Vi A X i).getD i 0+X.getD i 0):=rfl
     obtain⟨r,hr⟩:=Zy (Vi A X i)
     rw[←hr]at DO lN wN hnx ⊢
     obtain⟨G,hG⟩:=Zy (G3.setIfInBounds bA (Yb r))
     rw[←hG]at DO ⊢
     have n1:=Gk (l:=X) (i:=i) (by omega)
     have g1:=ZJ DO (i:=i) (by omega)
     unfold uv at g1
     have y1:=wN.getD (by omega) i
     have y2:=BH.getD (by omega) i
     obtain⟨a,ha⟩:=Zy (r.getD i 0)
     obtain⟨b,hb⟩:=Zy (X.getD i 0)
     rw[←ha]at g1 y1 hnx
     rw[←hb]at n1 y2 hnx
     have e1:(a:Int)+(b:Int)=((a+b:Nat):Int):=rfl
     have e2:((a+b:Nat):Int)%18446744073709551616=((a+b:Nat):Int):=by omega
     have c2:Jg G ⟨bA,i,none⟩ (.int .u64 (a+b:Nat))=_:=ZY (f:=uv) DO (i:=i) (by omega) (a+b) rfl
     simp -implicitDefEqProofs only[go_sem,↓reduceIte,f0,f1,f10,f11,f66,f67,ko,Int.toNat_natCast,Nat.zero_add,n1,g1,e1,e2,c2]
     refine⟨⟨f0,f1,f10,f11,f66,i+1,Bb,rfl,?_⟩,?_⟩
     ·rw[hG,set_set,hnx];rfl
     ·simp only[vi,Zj,↓reduceIte,f67];omega
    ·have qw:¬(i:Int)<5:=by omega
     obtain rfl:i=5:=by omega
     have c5:((5:Nat):Int)=5:=rfl
     rw[c5]at f67 qw
     obtain⟨wN5,vN5⟩:=kP ye hxn V3 BH
     have hR4:(G3.setIfInBounds bA (Yb (Vi A X 5)))[bR]? = some (Yb R):=by rw[Array.getElem?_setIfInBounds,if_neg (by omega)];exact hR3
     have aE:Zf h.size h (G3.setIfInBounds bA (Yb (Vi A X 5))):=hB3.Zk (by omega) _
     obtain⟨N,hN⟩:=Zy (Vi A X 5)
     rw[←hN]at DO lN wN5 vN5 hR4 aE ⊢
     generalize G3.setIfInBounds bA (Yb N)=G4 at *
     have r1:=TL lN DO
     have r2:=TL hrn hR4
     have lNm:(N.map uv).length=5:=by simpa using lN
     have tN:(N.map uv).take 5=N.map uv:=List.take_of_length_le (by omega)
     have tR:(R.map uv).take 5=R.map uv:=List.take_of_length_le (by omega)
     simp -implicitDefEqProofs only[go_sem,↓reduceIte,f0,f1,f10,f11,f66,f67,qw,r1,r2]
     refine (Ei T G4 N R lN hrn wN5 om).use ?_
     rintro _ G5 ⟨rfl,b5⟩
     obtain⟨w1,w2,w3⟩:=IP lN hrn wN5 om
     obtain⟨m1,m2,m3,_⟩:=Si w2 w1
     obtain⟨M,hM⟩:=Zy (YZ (Ut N R 5))
     rw[←hM]at m1 m2 m3 ⊢
     have hA5:=b5.get (Za DO) DO
     have hR5:=b5.get (Za hR4) hR4
     have hB5:Zf h.size h G5:=aE.trans (b5.mono aE.size)
     have lM:(M.map uv).length=5:=by simpa using m1
     have hoM:(M.map uv).all Z6=true:=by simp[uv,Z6]
     have w5:=ZP (h:=G5) (b:=bA) (l:=(N.map uv)) (by unfold Yb at hA5;rw[List.append_nil]at hA5;exact hA5) 0 (M.map uv)
     rw[if_pos ⟨by simp[lM,lNm],hoM⟩,ZM (by simp[lM,lNm])]at w5
     have Qa:(rest.length:Int)≤d:=by omega
     obtain⟨mn,hmn⟩:=Zy (min 16 rest.length)
     have kC:(if (rest.length:Int)<16 then (rest.length:Int) else 16)=((mn:Nat):Int):=by split<;>omega
     have Zk6:(mn:Int)≤rest.length:=by omega
     have Zde:rest.drop mn=data.drop (16*(k+1)):=by
      rw[YE]
      by_cases hc:rest.length≤16
      ·rw[List.drop_of_length_le (by omega),List.drop_of_length_le (by omega)]
      ·rw[hmn,Nat.min_eq_left (by omega)]
     have s2:=Sf s1 rfl (k:=mn) (by omega) kT (d-mn)
     rw[Zde]at s2
     have Zdf:Yj M%Vh=kK (YV (XS key)) data (k+1):=by
      rw[m3,w3,vN5,hxv,hrv,kK,←Er,Nat.mul_mod,←Nat.mod_add_mod,←Nat.mul_mod]
     simp -implicitDefEqProofs only[go_sem,↓reduceIte,f0,f1,f10,f11,w5,lM,kC,Zk6,Int.toNat_natCast,QF]
     refine⟨⟨f0,f10,f11,hB5.Zk (by omega) _,?_,k+1,M,by omega,s2,?_,?_,m1,m2,Zdf⟩,?_⟩
     ·rw[Array.getElem?_setIfInBounds,if_neg (by omega)];exact hR5
     ·show rest.length-mn≤d-mn;omega
     ·have:=ZO (o:=.cells (M.map uv).toArray 227) hA5
      unfold Yb;rw[List.append_nil];exact this
     ·show rest.length-mn<rest.length;omega
   ·have Zdg:¬(0:Int)<((data.drop (16*k)).length:Int):=by omega
    have hk2:k=(data.length+15)/16:=by omega
    rw[hk2]at Er
    obtain⟨rest,SM⟩:=Zy (data.drop (16*k))
    rw[←SM]at f1 Zdg
    have r1:=TL ye gA
    have tA:(A.map uv).take 5=A.map uv:=List.take_of_length_le (by simp[ye])
    simp -implicitDefEqProofs only[go_sem,↓reduceIte,f0,f1,f10,f11,Zdg,r1]
    refine (Ej T g A ye (V3.mono (by decide))).use ?_
    rintro _ g6 ⟨rfl,b6⟩
    obtain⟨m1,m2,m3,m4⟩:=Si ye (V3.mono (by decide))
    obtain⟨q1,q2,q3⟩:=dR m1 m2 m4
    rw[m3,Er]at q3
    obtain⟨M,hM⟩:=Zy (TK (YZ A))
    rw[←hM]at q1 q2 q3 ⊢
    have hA6:=b6.get (Za gA) gA
    have hB6:Zf h.size h g6:=hg.trans (b6.mono hg.size)
    have lM:(M.map uv).length=5:=by simpa using q1
    have lAm:(A.map uv).length=5:=by simpa using ye
    have hoM:(M.map uv).all Z6=true:=by simp[uv,Z6]
    have w5:=ZP (h:=g6) (b:=bA) (l:=(A.map uv)) (by unfold Yb at hA6;rw[List.append_nil]at hA6;exact hA6) 0 (M.map uv)
    rw[if_pos ⟨by simp[lM,lAm],hoM⟩,ZM (by simp[lM,lAm])]at w5
    have hB7:Zf h.size h (g6.setIfInBounds bA (.cells (M.map uv).toArray 227)):=hB6.Zk (by omega) _
    have hA7:(g6.setIfInBounds bA (.cells (M.map uv).toArray 227))[bA]? = some (Yb M):=by
     have:=ZO (o:=.cells (M.map uv).toArray 227) hA6
     unfold Yb;rw[List.append_nil];exact this
    obtain⟨g7,hg7⟩:=Zy (g6.setIfInBounds bA (.cells (M.map uv).toArray 227))
    rw[←hg7]at w5 hB7 hA7
    clear hg7
    have sm:Bs g7 (.slice (C8 p 1 c 16) 16 (c-16)) ((key.drop 16).take 16):=xX (sk.Z7 hB7) rfl (by omega) ck _
    have yh:((key.drop 16).take 16).length=16:=by rw[List.length_take,List.length_drop];omega
    have u2:(32:Int)≤c:=by omega
    have wkl:Dg ((key.drop 16).take 16):=fun x hx=>wk x (List.mem_of_mem_drop (List.mem_of_mem_take hx))
    simp -implicitDefEqProofs only[go_sem,↓reduceIte,f0,f1,f10,f11,w5,lM,u2,QF]
    refine (Ou T _ _ _ 0 sm yh (by omega)).use ?_
    rintro _ g8 ⟨rfl,b8⟩
    have hSv:=LC (t:=0) (Sm wkl yh)
    rw[Nat.mul_zero,Nat.add_zero]at hSv
    have hSl:=Gq (t:=0) (Sm wkl yh) (by omega)
    have hSn:=TN (YV ((key.drop 16).take 16)) 0
    obtain⟨S,hS⟩:=Zy (Gf (YV ((key.drop 16).take 16)) 0)
    rw[←hS]at hSv hSl hSn ⊢
    clear hS
    have hA8:=b8.get (Za hA7) hA7
    have hB8:Zf h.size h g8:=hB7.trans (b8.mono hB7.size)
    have lS:(S.map uv).length=5:=by simpa using hSn
    have hoS:(S.map uv).all Z6=true:=by simp[uv,Z6]
    have lpS:Ym [Value.int .u64 0,.int .u64 0,.int .u64 0,.int .u64 0,.int .u64 0] 0 (S.map uv)=S.map uv:=ZM lS
    simp -implicitDefEqProofs only[go_sem,↓reduceIte,f0,f1,f10,f11,lS,hoS,lpS,yc]
    have T0:qE key data=Yj M+Yj S:=by rw[q3,hSv];rfl
    have hB9:Zf (g8.size+1) (g8.push (.cells (S.map uv).toArray 227)) ((g8.push (.cells (S.map uv).toArray 227)).push (.cells ((List.replicate 16 0).map bv).toArray 5)):=Zf.push (by simp) _
    have hS9:(g8.push (.cells (S.map uv).toArray 227))[g8.size]? = some (Yb S):=by rw[Zb];unfold Yb;rw[List.append_nil]
    have hA9:(g8.push (.cells (S.map uv).toArray 227))[bA]? = some (Yb M):=by rw[Zq (Za hA8)];exact hA8
    have hH9:Zf h.size h (g8.push (.cells (S.map uv).toArray 227)):=hB8.Yf hB8.size _
    have o9:ZZ (g8.size+1) 5 ((g8.push (.cells (S.map uv).toArray 227)).push (.cells ((List.replicate 16 0).map bv).toArray 5)) (.slice (some ⟨g8.size+1,0,none⟩) 0 16) []:=by
     refine⟨.inr ⟨g8.size+1,16,(List.replicate 16 0).map bv,Nat.le_refl _,rfl,?_,rfl,by simp,Nat.zero_le _⟩,fun x hx=>by cases hx⟩
     have:=Zb (h:=g8.push (.cells (S.map uv).toArray 227)) (o:=.cells ((List.replicate 16 0).map bv).toArray 5)
     rw[Array.size_push]at this
     exact this
    have Zlc:=Za hA8
    have Zdi:=hB8.size
    have hz9:(g8.push (.cells (S.map uv).toArray 227)).size=g8.size+1:=by simp
    obtain⟨bS,hbS⟩:∃b,b=g8.size:=⟨_,rfl⟩
    rw[←hbS]at hB9 hS9 o9 Zlc Zdi hz9 ⊢
    obtain⟨J,hJ⟩:=Zy (g8.push (.cells (S.map uv).toArray 227))
    rw[←hJ]at hB9 hS9 hA9 hH9 o9 hz9 ⊢
    clear hJ
    refine VS.ZV (fun F g=>F 11=.pointer (some ⟨bA,0,none⟩)∧F 16=.pointer (some ⟨bS,0,none⟩)∧Zf (bS+1) J g∧∃(i n sum bits:Nat) (out:List Nat),i≤5∧F 87=.int .i64 i∧F 18=.int .u64 sum∧F 19=.int .u64 bits∧F 20=.int .i64 n∧ZZ (bS+1) 5 g (F 17) out∧out.length=n∧bits<8∧26*i=8*n+bits∧sum<8*2 ^ bits∧qE key data=YV out+256 ^ n*(sum+2 ^ bits*Pm (M.drop i) (S.drop i)))
     (fun F _=>5-(vi (F 87)).toNat) rfl ⟨f11,rfl,hB9,0,0,0,0,[],by omega,rfl,rfl,rfl,rfl,o9,rfl,by omega,by omega,by omega,by rw[T0,List.drop_zero,List.drop_zero,Ep _ _ (by omega)];simp[YV]⟩ ?_
    clear f0 f1 f10 f11 F hB9 o9
    rintro F g' ⟨f11,f16,Es,i,n,sum,bits,out,hi,f87,f18,f19,f20,ho,yi,hb8,yj,eJ,hT⟩
    have gA':=Es.get (k:=bA) (by omega) hA9
    have gS':=Es.get (k:=bS) (by omega) hS9
    have Zdk:=Es.size
    by_cases ZA:i<5
    ·have ZI:(i:Int)<5:=by omega
     rw[BE (by omega) (by omega)]at hT
     have g1:=ZJ gA' (i:=i) (by omega)
     have g2:=ZJ gS' (i:=i) (by omega)
     unfold uv at g1 g2
     have y1:=q2.getD (by omega) i
     have y2:=hSl.getD (by omega) i
     obtain⟨a,ha⟩:=Zy (M.getD i 0)
     obtain⟨b,hb⟩:=Zy (S.getD i 0)
     rw[←ha]at g1 y1 hT
     rw[←hb]at g2 y2 hT
     have hT2:=qL hT
     have Et:=eG (c:=a+b) eJ (by omega)
     have p8:=eE hb8
     have Hu:(a+b)*2 ^ bits≤268435455*128:=Nat.mul_le_mul (by omega) p8
     have Zle:sum<1024:=by omega
     have e1:(a:Int)+(b:Int)=((a+b:Nat):Int):=rfl
     have e2:((a+b:Nat):Int)%18446744073709551616=((a+b:Nat):Int):=by omega
     have e3:Yw .u64 ((a+b:Nat):Int) (bits:Int)=(((a+b)*2 ^ bits:Nat):Int):=by
      rw[Mo _ _ (by omega),Nat.mod_eq_of_lt (by omega)]
     obtain⟨cc,oq⟩:=Zy ((a+b)*2 ^ bits)
     rw[←oq]at e3 Hu hT2 Et
     have e4:(sum:Int)+(cc:Int)=((sum+cc:Nat):Int):=rfl
     have e5:((sum+cc:Nat):Int)%18446744073709551616=((sum+cc:Nat):Int):=by omega
     have e6:(bits:Int)+26=((bits+26:Nat):Int):=rfl
     have e7:((bits+26:Nat):Int)%18446744073709551616=((bits+26:Nat):Int):=by omega
     have e8:¬(bits:Int)<0:=by omega
     simp -implicitDefEqProofs only[go_sem,↓reduceIte,f11,f16,f18,f19,f20,f87,ZI]
     refine VS.q mixed (by kernel_rfl) ?_
     simp -implicitDefEqProofs only[go_sem,↓reduceIte,f11,f16,f18,f19,f20,f87,ZI,Int.toNat_natCast,Nat.zero_add,g1,g2,e1,e2,e3,e4,e5,e6,e7,e8]
     refine VS.ZV (fun F g=>F 11=.pointer (some ⟨bA,0,none⟩)∧F 16=.pointer (some ⟨bS,0,none⟩)∧F 87=.int .i64 i∧Zf (bS+1) J g∧∃(n sum bits:Nat) (out:List Nat),F 18=.int .u64 sum∧F 19=.int .u64 bits∧F 20=.int .i64 n∧ZZ (bS+1) 5 g (F 17) out∧out.length=n∧bits<34∧26*(i+1)=8*n+bits∧sum<8*2 ^ bits∧qE key data=YV out+256 ^ n*(sum+2 ^ bits*Pm (M.drop (i+1)) (S.drop (i+1))))
      (fun F _=>(vi (F 19)).toNat) rfl ⟨f11,f16,f87,Es,n,sum+cc,bits+26,out,rfl,rfl,f20,ho,yi,by omega,by omega,Et,hT2⟩ ?_
     clear f11 f16 f18 f19 f20 f87 ho yi hT hT2 eJ Et yj hb8 Es gA' gS' Zdk g1 g2 e3 e4 e5 e6 e7 e8 p8 Hu oq Zle F cc
     clear n sum bits out g'
     rintro F g' ⟨f11,f16,f87,Es,n,sum,bits,out,f18,f19,f20,ho,yi,hb8,yj,eJ,hT⟩
     have Zdk:=Es.size
     by_cases hb:8≤bits
     ·have HE:(8:Int)≤bits:=by omega
      have hn1:(n:Int)<16:=by omega
      have Et:=eH eJ hb
      have hT2:=kS hb hT
      have hp:2 ^ bits≤2 ^ 34:=Nat.pow_le_pow_right (by decide) (by omega)
      have OM:sum<18446744073709551616:=Nat.lt_of_lt_of_le eJ (Nat.le_trans (Nat.mul_le_mul_left 8 hp) (by decide))
      have em:((sum:Nat):Int)%256=((sum%256:Nat):Int):=rfl
      have es:Y7 .u64 (sum:Int) 8=((sum/256:Nat):Int):=Sh sum 8 (by decide)
      have eb:(bits:Int)-8=((bits-8:Nat):Int):=by omega
      have eb2:((bits-8:Nat):Int)%18446744073709551616=((bits-8:Nat):Int):=by omega
      simp -implicitDefEqProofs only[go_sem,↓reduceIte,f11,f16,f18,f19,f20,f87,HE,hn1,em]
      have hX:sum%256<256:=by omega
      refine Zv (E:=5) (B:=bS+1) Yt Tryz.underlying34 Wh Vb Va (ho.push _) (by simp;omega) (Bs.one hX 1) (by simp;omega) ?_
      intro v' h' S4 XX _
      simp -implicitDefEqProofs only[go_sem,↓reduceIte,f11,f16,f18,f19,f20,f87,es,eb,eb2]
      refine⟨⟨f11,f16,f87,(Es.Yf (by omega) _).trans XX,n+1,sum/256,bits-8,out++[sum%256],rfl,rfl,rfl,S4,by simp[yi],by omega,by omega,Et,?_⟩,?_⟩
      ·rw[hT2,BF,yi]
      ·simp only[vi,Zj,↓reduceIte,Nat.reduceEqDiff,f19];omega
     ·have HE:¬(8:Int)≤bits:=by omega
      have e9:(i:Int)+1=((i+1:Nat):Int):=rfl
      simp -implicitDefEqProofs only[go_sem,↓reduceIte,f11,f16,f18,f19,f20,f87,HE,e9]
      refine⟨⟨f11,f16,Es,i+1,n,sum,bits,out,ZA,rfl,f18,f19,f20,ho,yi,by omega,yj,eJ,hT⟩,?_⟩
      simp only[vi,Zj,↓reduceIte,f87];omega
    ·have YF:¬(i:Int)<5:=by omega
     obtain rfl:i=5:=by omega
     have c5:((5:Nat):Int)=5:=rfl
     rw[c5]at f87 YF
     obtain rfl:n=16:=by omega
     have e0:Pm (M.drop 5) (S.drop 5)=0:=by rw[List.drop_of_length_le (by omega),List.drop_of_length_le (by omega)];rfl
     rw[e0,Nat.mul_zero,Nat.add_zero]at hT
     have By:=eu ho.byte yi hT
     have htl:Bu key data=out:=By.symm
     simp -implicitDefEqProofs only[go_sem,↓reduceIte,f11,f16,f18,f19,f20,f87,YF]
     rw[htl]
     exact⟨ho.mono (by omega),hH9.trans (Es.mono (by omega))⟩
theorem Eu (T:World) (h:Hp) (v u:Value) (key data:List Nat) (sk:Bs h v key) (sd:Bs h u data) (ck:Td v) (cu:Td u) :
  Zc Tryz.prog T 87 #[v,u] h fun v' h'=>kL h.size h' v' key data∧Zf h.size h h':=by
 obtain⟨p,c,rfl,hkc⟩:=sk.open
 obtain⟨q,d,rfl,hdc⟩:=sd.open
 refine Zc.Zh (args:=[_,_]) Tryz.func87 rfl rfl rfl rfl ?_
 unfold kL
 by_cases hk:key.length=32
 ·by_cases hd:4000<data.length
  ·have hd':4000<(data.length:Int):=by omega
   have RP:(key.length:Int)=32:=by omega
   have e:WD key data=1:=by unfold WD;rw[if_pos (.inr hd)]
   rw[e]
   simp -implicitDefEqProofs only[go_sem,↓reduceIte,hd',RP]
   exact⟨_,rfl,ZZ.nil _ _ _⟩
  ·have hd':¬4000<(data.length:Int):=by omega
   have RP:(key.length:Int)=32:=by omega
   have e:WD key data=0:=by unfold WD;rw[if_neg (by omega)]
   rw[e,if_pos rfl]
   simp -implicitDefEqProofs only[go_sem,↓reduceIte,hd',RP]
   refine (BG T _ _ _ key data sk sd hk (by omega) ck cu).use ?_
   rintro v1 h1 ⟨o1,b1⟩
   simp -implicitDefEqProofs only[go_sem,↓reduceIte]
   exact⟨⟨_,rfl,o1⟩,b1⟩
 ·have RP:¬(key.length:Int)=32:=by omega
  have e:WD key data=1:=by unfold WD;rw[if_pos (.inl hk)]
  rw[e]
  simp -implicitDefEqProofs only[go_sem,↓reduceIte,RP]
  exact⟨_,rfl,ZZ.nil _ _ _⟩
end Go.Proofs.YtpomedigibbeeaaGreatDoor
