/- The program's clamped key, its blocks' numbers and its last bytes, in plain numbers; no condition but those in the statements. -/
import Derived.Test.YtpomedigibbeeaaGreatDoorPik
import Derived.Test.YtpomedigibbeeaaGreatDoorW14
namespace Go.Proofs.YtpomedigibbeeaaGreatDoor
open Go Go.V
set_option linter.unusedSimpArgs false
set_option linter.unusedVariables false
set_option maxRecDepth 100000
def Ay (l:List Nat):Nat→List Nat
 | 0=>l
 | i+1=>(Ay l i).set (4*i+3) ((Ay l i).getD (4*i+3) 0%16)
def cG (l:List Nat):Nat→List Nat
 | 0=>l
 | i+1=>(cG l i).set (4*i+4) ((cG l i).getD (4*i+4) 0/4*4)
theorem Kc (l:List Nat):∀i,(Ay l i).length=l.length
 | 0=>rfl
 | i+1=>by rw[Ay,List.length_set,Kc l i]
theorem Kd (l:List Nat):∀i,(cG l i).length=l.length
 | 0=>rfl
 | i+1=>by rw[cG,List.length_set,Kd l i]
theorem Az {l:List Nat} (w:Dg l):∀i,Dg (Ay l i)
 | 0=>w
 | i+1=>(Az w i).set _ (by have:=(Az w i).getD (4*i+3);omega)
theorem AA {l:List Nat} (w:Dg l):∀i,Dg (cG l i)
 | 0=>w
 | i+1=>(AA w i).set _ (by have:=(AA w i).getD (4*i+4);omega)
theorem tP {l:List Nat} (hl:l.length=16):cG (Ay l 4) 3=X1 l:=by
 match l,hl with
 | [a0,a1,a2,a3,a4,a5,a6,a7,a8,a9,a10,a11,a12,a13,a14,a15],_=>rfl
theorem Dc (key:List Nat):X1 key=X1 (key.take 16):=by
 unfold X1
 apply List.map_congr_left
 intro i hi
 have bH:i<16:=by simpa using hi
 have e:(key.take 16).getD i 0=key.getD i 0:=by
  rw[List.getD_eq_getElem?_getD,List.getElem?_take,if_pos bH,List.getD_eq_getElem?_getD]
 unfold mV
 rw[e]
theorem fY {key:List Nat} (hk:key.length=32):cG (Ay (key.take 16) 4) 3=X1 key:=by
 rw[Dc];exact tP (by rw[List.length_take];omega)
theorem SU {l:List Nat} (w:Dg l) (hl:l.length=16):Y5 l<340282366920938463463374607431768211456:=by
 have:=U8 w (n:=16) (by omega)
 exact this
theorem Sk (n t:Nat):(GY n t).length=5:=rfl
theorem Fc {n t:Nat} (hn:n<340282366920938463463374607431768211456) (ht:t≤1):Yj 67108864 (GY n t):=
 Yj.MB (by omega) (by omega) (by omega) (by omega) (by omega)
theorem Ke {n t:Nat} (hn:n<340282366920938463463374607431768211456):Yn (GY n t)=n+340282366920938463463374607431768211456*t:=by
 simp only[GY,Yn];omega
def VH (a x:List Nat):Nat→List Nat
 | 0=>a
 | i+1=>(VH a x i).set i ((VH a x i).getD i 0+x.getD i 0)
theorem NZ (a x:List Nat):∀i,(VH a x i).length=a.length
 | 0=>rfl
 | i+1=>by rw[VH,List.length_set,NZ a x i]
theorem cH {a x:List Nat} {K L:Nat} (wa:Yj K a) (wx:Yj L x) (hK:0<K) (hL:0<L):∀i,Yj (K+i*L) (VH a x i)
 | 0=>by rw[Nat.zero_mul];exact wa
 | i+1=>by
  have h:=cH wa wx hK hL i
  have q1:=h.getD (by omega) i
  have q2:=wx.getD hL i
  rw[VH,Nat.add_mul,Nat.one_mul]
  exact (h.mono (by omega)).set _ _ (by omega)
theorem nc {a x:List Nat} (ha:a.length=5) (hx:x.length=5) (wa:Yj 134217728 a) (wx:Yj 67108864 x):Yj 268435456 (VH a x 5)∧Yn (VH a x 5)=Yn a+Yn x:=by
 obtain⟨a0,a1,a2,a3,a4,rfl⟩:=MB ha
 obtain⟨x0,x1,x2,x3,x4,rfl⟩:=MB hx
 obtain⟨w0,w1,w2,w3,w4⟩:=wa.tI
 obtain⟨u0,u1,u2,u3,u4⟩:=wx.tI
 have e:VH [a0,a1,a2,a3,a4] [x0,x1,x2,x3,x4] 5=[a0+x0,a1+x1,a2+x2,a3+x3,a4+x4]:=rfl
 rw[e]
 exact⟨Yj.MB (by omega) (by omega) (by omega) (by omega) (by omega),by simp only[Yn];omega⟩
theorem Kf (a b:List Nat):Y5 (a++b)=Y5 a+256 ^ a.length*Y5 b:=by
 induction a with
 | nil=>simp[Y5]
 | cons x a ih=>simp only[List.cons_append,Y5,ih,List.length_cons,Nat.pow_succ,Nat.mul_add,Nat.add_assoc];congr 2;rw[←Nat.mul_assoc,Nat.mul_comm 256]
theorem AB (n:Nat):Y5 (List.replicate n 0)=0:=by
 induction n with
 | zero=>rfl
 | succ n ih=>rw[List.replicate_succ,Y5,ih]
def Xe (l:List Nat):List Nat:=l++[1]++List.replicate (16-l.length) 0
theorem Fe {l:List Nat} (hl:l.length≤16):(Xe l).length=17:=by simp[Xe];omega
theorem fZ {l:List Nat} (hl:l.length≤16):Y5 ((Xe l).take 16)+340282366920938463463374607431768211456*(Xe l).getD 16 0=Y5 (l++[1]):=by
 by_cases h:l.length=16
 ·have e1:(Xe l).take 16=l:=by unfold Xe;rw[List.append_assoc,List.take_left' h]
  have e2:(Xe l).getD 16 0=1:=by
   unfold Xe
   rw[List.getD_eq_getElem?_getD,List.append_assoc,List.getElem?_append_right (by omega),h];rfl
  rw[e1,e2,Kf,h];rfl
 ·have e2:(Xe l).getD 16 0=0:=by
   unfold Xe
   rw[List.getD_eq_getElem?_getD,List.getElem?_append_right (by simp;omega),List.getElem?_replicate]
   split<;>rfl
  have e1:(Xe l).take 16=(l++[1])++List.replicate (15-l.length) 0:=by
   unfold Xe
   rw[List.take_append,List.take_of_length_le (by simp;omega),List.take_replicate]
   congr 2
   simp;omega
  rw[e1,e2,Kf,AB];omega
theorem ga {l:List Nat} (hl:l.length≤16):(Xe l).getD 16 0≤1:=by
 by_cases h:l.length=16
 ·have e2:(Xe l).getD 16 0=1:=by
   unfold Xe
   rw[List.getD_eq_getElem?_getD,List.append_assoc,List.getElem?_append_right (by omega),h];rfl
  omega
 ·have e2:(Xe l).getD 16 0=0:=by
   unfold Xe
   rw[List.getD_eq_getElem?_getD,List.getElem?_append_right (by simp;omega),List.getElem?_replicate]
   split<;>rfl
  omega
theorem nf {l:List Nat} (w:Dg l):Dg (Xe l):=by
 intro x hx
 unfold Xe at hx
 simp only[List.mem_append,List.mem_singleton,List.mem_replicate]at hx
 rcases hx with (h|h)|h
 ·exact w x h
 ·omega
 ·omega
theorem gd {l:List Nat} (hl:l.length≤16):(l++List.replicate (17-l.length) 0).set l.length 1=Xe l:=by
 have e:List.replicate (17-l.length) 0=0 :: List.replicate (16-l.length) 0:=by rw[←List.replicate_succ];congr 1;omega
 rw[e,List.set_append_right _ _ (Nat.le_refl _),Nat.sub_self,List.set_cons_zero]
 unfold Xe;rw[List.append_assoc];rfl
def Ol:List Nat→List Nat→Nat
 | x :: l,y :: k=>(x+y)+67108864*Ol l k
 | _,_=>0
theorem Dd:∀(l k:List Nat),l.length=k.length→Ol l k=Yn l+Yn k
 | [],[],_=>rfl
 | x :: l,y :: k,h=>by simp only[Ol,Yn];rw[Dd l k (by simpa using h)];omega
theorem gf {out:List Nat} {t R:Nat} (w:Dg out) (hl:out.length=16) (h:t=Y5 out+256 ^ 16*R):out=(List.range 16).map fun i=>t/256 ^ i%256:=by
 apply List.ext_getElem?
 intro i
 by_cases hi:i<16
 ·rw[List.getElem?_map,List.getElem?_range hi]
  have e:=An w i
  rw[List.getD_eq_getElem?_getD,List.getElem?_eq_getElem (by omega)]at e
  rw[List.getElem?_eq_getElem (by omega)]
  simp only[Option.map_some,Option.some.injEq]
  simp only[Option.getD_some]at e
  rw[e,h]
  have e2:256 ^ 16*R=256 ^ i*(256*(256 ^ (15-i)*R)):=by
   rw[←Nat.mul_assoc 256,←Nat.mul_assoc,←Nat.pow_succ',←Nat.pow_add]
   congr 2;omega
  rw[e2,Nat.add_mul_div_left _ _ (Nat.pow_pos (by omega)),Nat.add_mul_mod_self_left]
 ·rw[List.getElem?_eq_none (by omega),List.getElem?_eq_none (by simp;omega)]
theorem ng {T v n s B R:Nat} (hB:256≤B) (hd:B%256=0) (h:T=v+n*(s+B*R)):T=v+n*(s%256)+n*256*(s/256+B/256*R):=by
 have e:s+B*R=s%256+256*(s/256+B/256*R):=by
  have e1:B=256*(B/256):=by omega
  have e2:B*R=256*(B/256*R):=by rw[←Nat.mul_assoc,←e1]
  have e3:=Nat.mod_add_div s 256
  rw[Nat.mul_add,e2];omega
 rw[h,e,Nat.mul_add,←Nat.mul_assoc,←Nat.add_assoc]
theorem gg {i:Nat} (hi:i<4):nth [Value.int .i64 3,.int .i64 7,.int .i64 11,.int .i64 15] i=some (.int .i64 ((4*i+3:Nat):Int)):=by
 match i,hi with
 | 0,_=>rfl
 | 1,_=>rfl
 | 2,_=>rfl
 | 3,_=>rfl
theorem gh {i:Nat} (hi:i<3):nth [Value.int .i64 4,.int .i64 8,.int .i64 12] i=some (.int .i64 ((4*i+4:Nat):Int)):=by
 match i,hi with
 | 0,_=>rfl
 | 1,_=>rfl
 | 2,_=>rfl
theorem Zex (x:Nat) (hx:x<256):Z9 .and .u8 (x:Int) 15=((x%16:Nat):Int):=by
 have h:=lj x 15 hx (by decide)
 have e:x &&& 15=x%16:=Nat.and_two_pow_sub_one_eq_mod x 4
 rw[e]at h;exact h
theorem Zaj (x:Nat) (hx:x<256):Z9 .and .u8 (x:Int) 252=((x/4*4:Nat):Int):=by
 have h:=lj x 252 hx (by decide)
 have e:x &&& 252=x/4*4:=by
  have:∀y:Fin 256,y.val &&& 252=y.val/4*4:=by decide
  exact this ⟨x,hx⟩
 rw[e]at h;exact h
def Zmn:Value→Nat
 | .slice _ l _=>l
 | _=>0
theorem gj (n:Nat) (vs:List Nat) (h:vs.length≤n):Ys ((List.replicate n 0).map bv) 0 (vs.map bv)=(vs++List.replicate (n-vs.length) 0).map bv:=by
 rw[Qk _ _ (by simpa using h),List.length_map,←List.map_drop,List.drop_replicate,List.map_append]
theorem AD {M S:List Nat} {i:Nat} (hM:i<M.length) (hS:i<S.length):Ol (M.drop i) (S.drop i)=(M.getD i 0+S.getD i 0)+67108864*Ol (M.drop (i+1)) (S.drop (i+1)):=by
 rw[List.drop_eq_getElem_cons hM,List.drop_eq_getElem_cons hS,Ol,List.getD_eq_getElem?_getD,List.getD_eq_getElem?_getD,List.getElem?_eq_getElem hM,List.getElem?_eq_getElem hS];rfl
theorem tQ {T v n s b c R:Nat} (h:T=v+n*(s+2 ^ b*(c+67108864*R))):T=v+n*(s+c*2 ^ b+2 ^ (b+26)*R):=by
 rw[h,Nat.mul_add (2 ^ b),Nat.mul_comm (2 ^ b) c,Nat.pow_add,←Nat.mul_assoc (2 ^ b),Nat.add_assoc]
theorem gk {b:Nat} (h:b<8):2 ^ b≤128:=by
 have:=Nat.pow_le_pow_right (show 0<2 by decide) (show b≤7 by omega)
 exact this
theorem gm {s c b:Nat} (hs:s<8*2 ^ b) (hc:c<268435456):s+c*2 ^ b<8*2 ^ (b+26):=by
 have h1:c*2 ^ b≤268435455*2 ^ b:=Nat.mul_le_mul_right _ (by omega)
 rw[Nat.pow_add]
 have:2 ^ 26=67108864:=rfl
 rw[this];omega
theorem gn {s b:Nat} (hs:s<8*2 ^ b) (hb:8≤b):s/256<8*2 ^ (b-8):=by
 have:2 ^ b=2 ^ (b-8)*256:=by
  have e:b=b-8+8:=by omega
  rw[e,Nat.pow_add,Nat.add_sub_cancel]
 rw[this]at hs;omega
theorem nh {T v n s b R:Nat} (hb:8≤b) (h:T=v+256 ^ n*(s+2 ^ b*R)):T=v+256 ^ n*(s%256)+256 ^ (n+1)*(s/256+2 ^ (b-8)*R):=by
 have e:2 ^ b=2 ^ (b-8)*256:=by
  have e:b=b-8+8:=by omega
  rw[e,Nat.pow_add,Nat.add_sub_cancel]
 have hp:0<2 ^ (b-8):=Nat.pow_pos (by omega)
 have:=ng (B:=2 ^ b) (by rw[e];omega) (by rw[e];omega) h
 rw[show 2 ^ b/256=2 ^ (b-8) by rw[e,Nat.mul_div_cancel _ (by omega)]]at this
 rw[Nat.pow_succ];exact this
theorem AE (l:List Nat) (x:Nat):Y5 (l++[x])=Y5 l+256 ^ l.length*x:=by rw[Kf];rfl
theorem Zak:(XS 16 [Value.int .u8 0])=(List.replicate 16 0).map bv:=rfl
set_option maxHeartbeats 2000000 in
theorem AF (T:World) (h:Hp) (v u:Value) (key data:List Nat) (sk:Bs h v key) (sd:Bs h u data) (hk:key.length=32) (hd:data.length≤4000) (ck:Ta v) (cu:Ta u) :
  Zd Tryz.prog T 106 #[v,u] h fun v' h'=>Z0 h.size 5 h' v' (At key data)∧Zg h.size h h':=by
 have wk:=sk.byte
 have wd:=sd.byte
 obtain⟨p,c,rfl,hkc⟩:=sk.Uz
 have ck:key.length≤c:=ck
 have l16:(key.take 16).length=16:=by rw[List.length_take];omega
 have s16:=SQ sk (m:=16) (by omega) c
 have c16:(16:Int)≤c:=by omega
 refine Zd.Zj (args:=[_,_]) Tryz.func106 rfl rfl rfl rfl ?_
 simp -implicitDefEqProofs only[go_sem,↓reduceIte,c16]
 refine Zw (E:=5) (B:=h.size) YC Tryz.underlying34 WH VA Vz (Z0.nil _ _ _) (Nat.le_refl _) (by rw[hk]at sk;simpa using s16) (by rw[l16];decide) ?_
 intro v1 h1 o1 b1 _
 rw[List.nil_append]at o1
 have o1n:=o1.own
 rcases o1n with⟨_,hm,_⟩|⟨bc,cap,spare,hbc,rfl,PT,XY,Rg,QB⟩
 ·omega
 obtain⟨L,hL⟩:=Zy (key.take 16)
 have wL:Dg L:=by rw[hL];exact fun x hx=>wk x (List.mem_of_mem_take hx)
 have Zey:cG (Ay L 4) 3=X1 key:=by rw[hL];exact fY hk
 rw[←hL]at l16 PT XY Rg QB ⊢
 clear o1 s16 hL
 have Zxt:=Za PT
 simp -implicitDefEqProofs only[go_sem,↓reduceIte]
 refine VS.ZV (fun F g=>F 0=.slice p key.length c∧F 1=u∧F 5=.slice (some ⟨bc,0,none⟩) L.length cap∧F 25=.agg #[.int .i64 3,.int .i64 7,.int .i64 11,.int .i64 15]∧∃i:Nat,i≤4∧F 26=.int .i64 i∧g=h1.setIfInBounds bc (.cells ((Ay L i).map bv++spare).toArray 5))
  (fun F _=>4-(vi (F 26)).toNat) rfl ⟨rfl,rfl,rfl,rfl,0,by omega,rfl,(Uh PT).symm⟩ ?_
 rintro F g ⟨f0,f1,f5,f25,i,hi,f26,rfl⟩
 have hx:=ZR (o:=.cells ((Ay L i).map bv++spare).toArray 5) PT
 have wA:=Az wL i
 have lA:=Kc L i
 by_cases ZD:i<4
 ·have ZL:(i:Int)<4:=by omega
  have YA:Ay L (i+1)=(Ay L i).set (4*i+3) ((Ay L i).getD (4*i+3) 0%16):=rfl
  obtain⟨r,hr⟩:=Zy (Ay L i)
  rw[←hr]at hx wA lA YA ⊢
  obtain⟨G,hG⟩:=Zy (h1.setIfInBounds bc (.cells (r.map bv++spare).toArray 5))
  rw[←hG]at hx ⊢
  have n1:=gg ZD
  have g1:=ZK hx (i:=4*i+3) (by omega)
  have x1:=wA.getD (4*i+3)
  unfold bv at g1
  obtain⟨x,qC⟩:=Zy (r.getD (4*i+3) 0)
  rw[←qC]at g1 x1 YA
  have e1:=Zex x x1
  have hi1:((4*i+3:Nat):Int)<L.length:=by omega
  have c1:Jx G ⟨bc,4*i+3,none⟩ (.int .u8 (x%16:Nat))=_:=ZZ (f:=bv) hx (i:=4*i+3) (by omega) (x%16) rfl
  simp -implicitDefEqProofs only[go_sem,↓reduceIte,f0,f1,f5,f25,f26,ZL,Int.toNat_natCast,Nat.zero_add,n1,hi1,g1,e1,c1]
  refine⟨⟨f0,f1,f5,f25,i+1,ZD,rfl,?_⟩,?_⟩
  ·rw[hG,set_set,YA]
  ·simp only[vi,Zk,↓reduceIte,f26];omega
 ·have YJ:¬(i:Int)<4:=by omega
  obtain rfl:i=4:=by omega
  have c4:((4:Nat):Int)=4:=rfl
  rw[c4]at f26 YJ
  obtain⟨L2,hL2⟩:=Zy (Ay L 4)
  rw[←hL2]at hx wA lA Zey ⊢
  have B2:Zg h.size h (h1.setIfInBounds bc (.cells (L2.map bv++spare).toArray 5)):=b1.Zl hbc _
  generalize h1.setIfInBounds bc (.cells (L2.map bv++spare).toArray 5)=h2 at *
  clear hL2
  simp -implicitDefEqProofs only[go_sem,↓reduceIte,f0,f1,f5,f25,f26,YJ]
  refine VS.ZV (fun F g=>F 0=.slice p key.length c∧F 1=u∧F 5=.slice (some ⟨bc,0,none⟩) L.length cap∧F 36=.agg #[.int .i64 4,.int .i64 8,.int .i64 12]∧∃i:Nat,i≤3∧F 37=.int .i64 i∧g=h2.setIfInBounds bc (.cells ((cG L2 i).map bv++spare).toArray 5))
   (fun F _=>3-(vi (F 37)).toNat) rfl ⟨f0,f1,f5,rfl,0,by omega,rfl,(Uh hx).symm⟩ ?_
  clear f0 f1 f5 f25 f26 YJ F
  rintro F g ⟨f0,f1,f5,f36,i,hi,f37,rfl⟩
  have Ar:=ZR (o:=.cells ((cG L2 i).map bv++spare).toArray 5) hx
  have wB:=AA wA i
  have lB:=Kd L2 i
  by_cases ZD:i<3
  ·have ZL:(i:Int)<3:=by omega
   have YA:cG L2 (i+1)=(cG L2 i).set (4*i+4) ((cG L2 i).getD (4*i+4) 0/4*4):=rfl
   obtain⟨r,hr⟩:=Zy (cG L2 i)
   rw[←hr]at Ar wB lB YA ⊢
   obtain⟨G,hG⟩:=Zy (h2.setIfInBounds bc (.cells (r.map bv++spare).toArray 5))
   rw[←hG]at Ar ⊢
   have n1:=gh ZD
   have g1:=ZK Ar (i:=4*i+4) (by omega)
   have x1:=wB.getD (4*i+4)
   unfold bv at g1
   obtain⟨x,qC⟩:=Zy (r.getD (4*i+4) 0)
   rw[←qC]at g1 x1 YA
   have e1:=Zaj x x1
   have hi1:((4*i+4:Nat):Int)<L.length:=by omega
   have c1:Jx G ⟨bc,4*i+4,none⟩ (.int .u8 (x/4*4:Nat))=_:=ZZ (f:=bv) Ar (i:=4*i+4) (by omega) (x/4*4) rfl
   simp -implicitDefEqProofs only[go_sem,↓reduceIte,f0,f1,f5,f36,f37,ZL,Int.toNat_natCast,Nat.zero_add,n1,hi1,g1,e1,c1]
   refine⟨⟨f0,f1,f5,f36,i+1,ZD,rfl,?_⟩,?_⟩
   ·rw[hG,set_set,YA]
   ·simp only[vi,Zk,↓reduceIte,f37];omega
  ·have YJ:¬(i:Int)<3:=by omega
   obtain rfl:i=3:=by omega
   have c3:((3:Nat):Int)=3:=rfl
   rw[c3]at f37 YJ
   rw[Zey]at Ar wB lB ⊢
   have B3:Zg h.size h (h2.setIfInBounds bc (.cells ((X1 key).map bv++spare).toArray 5)):=B2.Zl hbc _
   generalize h2.setIfInBounds bc (.cells ((X1 key).map bv++spare).toArray 5)=h3 at *
   have tT:=IK key
   have oc:Z0 h.size 5 h3 (.slice (some ⟨bc,0,none⟩) L.length cap) (X1 key):=
    ⟨.inr ⟨bc,cap,spare,hbc,by rw[l16,tT],Ar,by simp,by rw[Rg,l16,tT],by omega⟩,wB⟩
   simp -implicitDefEqProofs only[go_sem,↓reduceIte,f0,f1,f5,f36,f37,YJ]
   refine (Nf T _ _ (X1 key) 0 oc.bs tT (by omega)).use ?_
   rintro _ h4 ⟨rfl,b4⟩
   have B4:Zg h.size h h4:=B3.trans (b4.mono B3.size)
   have hR:=SU wB tT
   have hrv:Yn (GY (Y5 (X1 key)) 0)=Y5 (X1 key):=by rw[Ke hR,Nat.mul_zero,Nat.add_zero]
   have qE:=Fc (t:=0) hR (by omega)
   have hrn:=Sk (Y5 (X1 key)) 0
   obtain⟨R,hRR⟩:=Zy (GY (Y5 (X1 key)) 0)
   rw[←hRR]at hrv qE hrn ⊢
   have lR:(R.map uv).length=5:=by simpa using hrn
   have hoR:(R.map uv).all Z7=true:=by simp[uv,Z7]
   have lp:Ys [Value.int .u64 0,.int .u64 0,.int .u64 0,.int .u64 0,.int .u64 0] 0 (R.map uv)=R.map uv:=ZP lR
   simp -implicitDefEqProofs only[go_sem,↓reduceIte,f0,f1,f5,f36,f37,lR,hoR,lp]
   obtain⟨bR,hbR⟩:∃b,b=h4.size:=⟨_,rfl⟩
   obtain⟨bA,hbA⟩:∃b,b=h4.size+1:=⟨_,rfl⟩
   obtain⟨H,hH⟩:=Zy (((h4.push (.cells (R.map uv).toArray 227)).push (.cells #[.int .u64 0,.int .u64 0,.int .u64 0,.int .u64 0,.int .u64 0] 227)):Hp)
   have HB:Zg h.size h H:=by rw[hH];exact (B4.Yh B4.size _).Yh (by have:=B4.size;simp;omega) _
   have HR:H[bR]? = some (Yd R):=by
    rw[hH,hbR,Zr (by simp),Zb];unfold Yd;rw[List.append_nil]
   have HA:H[bA]? = some (Yd [0,0,0,0,0]):=by
    have:=Zb (h:=(h4.push (.cells (R.map uv).toArray 227))) (o:=.cells #[.int .u64 0,.int .u64 0,.int .u64 0,.int .u64 0,.int .u64 0] 227)
    rw[Array.size_push]at this
    rw[hH,hbA,this];rfl
   have ZeA:h.size≤bR:=by have:=B4.size;omega
   rw[←hH,←hbA,←hbR]
   have Zxw:bA=bR+1:=by omega
   clear hH hbA hbR
   have sd0:Bs h (F 1) (data.drop (16*0)):=by rw[f1];exact sd
   have cu0:Ta (F 1):=by rw[f1];exact cu
   refine VS.ZV (fun F g=>F 0=.slice p key.length c∧F 10=.pointer (some ⟨bR,0,none⟩)∧F 11=.pointer (some ⟨bA,0,none⟩)∧Zg h.size h g∧g[bR]? = some (Yd R)∧∃(k:Nat) (A:List Nat),16*k<data.length+16∧Bs h (F 1) (data.drop (16*k))∧Ta (F 1)∧g[bA]? = some (Yd A)∧A.length=5∧Yj 134217728 A∧Yn A%VG=mW (Y5 (X1 key)) data k)
    (fun F _=>Zmn (F 1)) rfl ⟨f0,rfl,rfl,HB,HR,0,[0,0,0,0,0],by omega,sd0,cu0,HA,rfl,Yj.MB (by omega) (by omega) (by omega) (by omega) (by omega),rfl⟩ ?_
   clear f0 f1 f5 f36 f37 YJ sd0 cu0 F HB HR HA H
   rintro F g ⟨f0,f10,f11,hg,gR,k,A,Zxx,s1,nj,gA,lA5,TD,JZ⟩
   obtain⟨q,d,f1,xK⟩:=s1.open
   rw[f1]at s1 nj
   have nj:(data.drop (16*k)).length≤d:=nj
   have Zmr:(data.drop (16*k)).length=data.length-16*k:=List.length_drop
   by_cases ZD:16*k<data.length
   ·have hgt:(0:Int)<((data.drop (16*k)).length:Int):=by omega
    obtain⟨rest,Kg⟩:=Zy (data.drop (16*k))
    have lI:Zeo data k=rest.take 16++[1]:=by rw[Kg];rfl
    have YA:data.drop (16*(k+1))=rest.drop 16:=by rw[Kg,List.drop_drop];congr 1
    have ZeB:Dg rest:=by rw[Kg];exact fun x hx=>wd x (List.mem_of_mem_drop hx)
    rw[←Kg]at f1 s1 nj xK hgt Zmr
    clear Kg
    have z17:(#[Value.int .u8 0,.int .u8 0,.int .u8 0,.int .u8 0,.int .u8 0,.int .u8 0,.int .u8 0,.int .u8 0,.int .u8 0,.int .u8 0,.int .u8 0,.int .u8 0,.int .u8 0,.int .u8 0,.int .u8 0,.int .u8 0,.int .u8 0]:Array Value)=((List.replicate 17 0).map bv).toArray:=rfl
    simp -implicitDefEqProofs only[go_sem,↓reduceIte,f0,f1,f10,f11,hgt,z17]
    have Xj:=V3 rest
    refine LG (E:=5) (E':=229) (c:=(List.replicate 17 0).map bv) YC WH Zb ((s1.Ya hg).Ya (Zg.push (Nat.le_refl _) _)).sl Xj (by simp;omega) ?_
    obtain⟨n,hn⟩:=Zy (min rest.length 16)
    have hB:(rest.map bv).take n=(rest.take n).map bv:=List.map_take.symm
    have hBl:(rest.take n).length=n:=by rw[List.length_take];omega
    have ZeC:rest.take n=rest.take 16:=by
     by_cases hc:rest.length≤16
     ·rw[List.take_of_length_le (by omega),List.take_of_length_le (by omega)]
     ·rw[hn,Nat.min_eq_right (by omega)]
    rw[←hn,hB,gj 17 _ (by omega),hBl,ZeC]
    rw[ZeC]at hBl
    have ZeD:Dg (rest.take 16):=fun x hx=>ZeB x (List.mem_of_mem_take hx)
    obtain⟨B,hBB⟩:=Zy (rest.take 16)
    rw[←hBB]at hBl lI ZeD ⊢
    have e17:(B++List.replicate (17-n) 0).set n 1=Xe B:=by rw[←hBl];exact gd (by omega)
    have Zms:(n:Int)<17:=by omega
    have Zsb:((B++List.replicate (17-n) 0).map bv).set n (.int .u8 1)=(Xe B).map bv:=by rw[←e17,List.map_set];rfl
    have ZeE:(B++List.replicate (17-n) 0).length=17:=by simp;omega
    have Zmt:=hg.size
    have Zsc:=Za gR
    have Zsd:=Za gA
    obtain⟨bw,hbw⟩:=Zy (g.size)
    have hGR:∀o,((g.push o).setIfInBounds bw (.cells ((B++List.replicate (17-n) 0).map bv).toArray 229))[bR]? = some (Yd R):=fun o=>by
     rw[Array.getElem?_setIfInBounds,if_neg (by omega),Zr (by omega)];exact gR
    have hGA:∀o,((g.push o).setIfInBounds bw (.cells ((B++List.replicate (17-n) 0).map bv).toArray 229))[bA]? = some (Yd A):=fun o=>by
     rw[Array.getElem?_setIfInBounds,if_neg (by omega),Zr (by omega)];exact gA
    have hGW:∀o,((g.push o).setIfInBounds bw (.cells ((B++List.replicate (17-n) 0).map bv).toArray 229))[bw]? = some (.cells ((B++List.replicate (17-n) 0).map bv++[]).toArray 229):=fun o=>by
     rw[List.append_nil,hbw];exact ZR Zb
    have hGB:∀o,Zg h.size h ((g.push o).setIfInBounds bw (.cells ((B++List.replicate (17-n) 0).map bv).toArray 229)):=fun o=>(hg.Yh Zmt _).Zl (by omega) _
    have hGS:∀o,((g.push o).setIfInBounds bw (.cells ((B++List.replicate (17-n) 0).map bv).toArray 229)).size=bw+1:=fun o=>by rw[Array.size_setIfInBounds,Array.size_push,hbw]
    rw[←hbw]
    specialize hGR (.cells ((List.replicate 17 0).map bv).toArray 229)
    specialize hGA (.cells ((List.replicate 17 0).map bv).toArray 229)
    specialize hGW (.cells ((List.replicate 17 0).map bv).toArray 229)
    specialize hGB (.cells ((List.replicate 17 0).map bv).toArray 229)
    specialize hGS (.cells ((List.replicate 17 0).map bv).toArray 229)
    obtain⟨G1,jy⟩:=Zy (((g.push (.cells ((List.replicate 17 0).map bv).toArray 229)).setIfInBounds bw (.cells ((B++List.replicate (17-n) 0).map bv).toArray 229)))
    rw[←jy]at hGR hGA hGW hGB hGS ⊢
    clear jy
    have c1:Jx G1 ⟨bw,n,none⟩ (.int .u8 1)=_:=ZZ (f:=bv) hGW (i:=n) (by rw[ZeE];omega) 1 rfl
    rw[e17]at c1
    have hW2:=ZR (o:=.cells ((Xe B).map bv++[]).toArray 229) hGW
    have hR2:(G1.setIfInBounds bw (.cells ((Xe B).map bv++[]).toArray 229))[bR]? = some (Yd R):=by rw[Array.getElem?_setIfInBounds,if_neg (by omega)];exact hGR
    have hA2:(G1.setIfInBounds bw (.cells ((Xe B).map bv++[]).toArray 229))[bA]? = some (Yd A):=by rw[Array.getElem?_setIfInBounds,if_neg (by omega)];exact hGA
    have TN:Zg h.size h (G1.setIfInBounds bw (.cells ((Xe B).map bv++[]).toArray 229)):=hGB.Zl (by omega) _
    have hS2:(G1.setIfInBounds bw (.cells ((Xe B).map bv++[]).toArray 229)).size=bw+1:=by rw[Array.size_setIfInBounds,hGS]
    obtain⟨G2,bX⟩:=Zy (G1.setIfInBounds bw (.cells ((Xe B).map bv++[]).toArray 229))
    rw[←bX]at c1 hW2 hR2 hA2 TN hS2
    clear bX hGR hGA hGW hGB hGS
    have l17:=Fe (l:=B) (by omega)
    have w17:=nf ZeD
    have o17:Z0 h.size 229 G2 (.slice (some ⟨bw,0,none⟩) 17 17) (Xe B):=
     ⟨.inr ⟨bw,17,[],by omega,by rw[l17],hW2,by simp,by rw[l17];rfl,by omega⟩,w17⟩
    have s17:=SQ o17.bs (m:=16) (by omega) 17
    have t17:((Xe B).take 16).length=16:=by rw[List.length_take];omega
    have g16:=ZK hW2 (i:=16) (by omega)
    unfold bv at g16
    have Zan:=ga (l:=B) (by omega)
    have Mx:=fZ (l:=B) (by omega)
    have wt:=SU (l:=(Xe B).take 16) (fun x hx=>w17 x (List.mem_of_mem_take hx)) t17
    obtain⟨top,Ff⟩:=Zy ((Xe B).getD 16 0)
    rw[←Ff]at g16 Zan Mx
    have em:((top:Nat):Int)%18446744073709551616=(top:Nat):=by omega
    simp -implicitDefEqProofs only[go_sem,↓reduceIte,f0,f1,f10,f11,Zms,Int.toNat_natCast,ZeE,c1]
    refine VS.w (bw+1) [] (.q 0 (.q 1 (.q 2 (.q 3 (.q 5 (.s 4 .nil)))))) mixed (by kernel_rfl) ?_
    simp -implicitDefEqProofs only[go_sem,↓reduceIte,g16,em]
    refine (Nf T _ _ ((Xe B).take 16) top s17 t17 Zan).use ?_
    rintro _ G3 ⟨rfl,b3⟩
    rw[hS2]at b3
    have hR3:=b3.get (k:=bR) (by omega) hR2
    have hA3:=b3.get (k:=bA) (by omega) hA2
    have hB3:Zg h.size h G3:=TN.trans (b3.mono (by omega))
    have hxv:=Ke (t:=top) wt
    rw[Mx]at hxv
    have CD:=Fc (t:=top) wt Zan
    have hxn:=Sk (Y5 ((Xe B).take 16)) top
    obtain⟨X,hX⟩:=Zy (GY (Y5 ((Xe B).take 16)) top)
    rw[←hX]at hxv CD hxn ⊢
    rw[←lI]at hxv
    have b3T:Zg (bw+1) G2 G3=True:=eq_true b3
    simp -implicitDefEqProofs only[go_sem,↓reduceIte,b3T]
    refine VS.ZV (fun F g=>F 0=.slice p key.length c∧F 1=.slice q rest.length d∧F 10=.pointer (some ⟨bR,0,none⟩)∧F 11=.pointer (some ⟨bA,0,none⟩)∧F 66=.agg (X.map uv).toArray∧∃i:Nat,i≤5∧F 67=.int .i64 i∧g=G3.setIfInBounds bA (Yd (VH A X i)))
     (fun F _=>5-(vi (F 67)).toNat) rfl ⟨f0,f1,f10,f11,rfl,0,by omega,rfl,(Uh hA3).symm⟩ ?_
    clear f0 f1 f10 f11 F gR gA hg
    rintro F g' ⟨f0,f1,f10,f11,f66,i,hi,f67,rfl⟩
    have CA:(G3.setIfInBounds bA (Yd (VH A X i)))[bA]? = some (Yd (VH A X i)):=ZR hA3
    have lN:(VH A X i).length=5:=by rw[NZ,lA5]
    have wN:=cH TD CD (by omega) (by omega) i
    by_cases Aa:i<5
    ·have mH:(i:Int)<5:=by omega
     have hnx:VH A X (i+1)=(VH A X i).set i ((VH A X i).getD i 0+X.getD i 0):=rfl
     obtain⟨r,hr⟩:=Zy (VH A X i)
     rw[←hr]at CA lN wN hnx ⊢
     obtain⟨G,hG⟩:=Zy (G3.setIfInBounds bA (Yd r))
     rw[←hG]at CA ⊢
     have n1:=G7 (l:=X) (i:=i) (by omega)
     have g1:=ZK CA (i:=i) (by omega)
     unfold uv at g1
     have y1:=wN.getD (by omega) i
     have y2:=CD.getD (by omega) i
     obtain⟨a,ha⟩:=Zy (r.getD i 0)
     obtain⟨b,hb⟩:=Zy (X.getD i 0)
     rw[←ha]at g1 y1 hnx
     rw[←hb]at n1 y2 hnx
     have e1:(a:Int)+(b:Int)=((a+b:Nat):Int):=rfl
     have e2:((a+b:Nat):Int)%18446744073709551616=((a+b:Nat):Int):=by omega
     have c2:Jx G ⟨bA,i,none⟩ (.int .u64 (a+b:Nat))=_:=ZZ (f:=uv) CA (i:=i) (by omega) (a+b) rfl
     simp -implicitDefEqProofs only[go_sem,↓reduceIte,f0,f1,f10,f11,f66,f67,mH,Int.toNat_natCast,Nat.zero_add,n1,g1,e1,e2,c2]
     refine⟨⟨f0,f1,f10,f11,f66,i+1,Aa,rfl,?_⟩,?_⟩
     ·rw[hG,set_set,hnx];rfl
     ·simp only[vi,Zk,↓reduceIte,f67];omega
    ·have tD:¬(i:Int)<5:=by omega
     obtain rfl:i=5:=by omega
     have c5:((5:Nat):Int)=5:=rfl
     rw[c5]at f67 tD
     obtain⟨wN5,vN5⟩:=nc lA5 hxn TD CD
     have hR4:(G3.setIfInBounds bA (Yd (VH A X 5)))[bR]? = some (Yd R):=by rw[Array.getElem?_setIfInBounds,if_neg (by omega)];exact hR3
     have cC:Zg h.size h (G3.setIfInBounds bA (Yd (VH A X 5))):=hB3.Zl (by omega) _
     obtain⟨N,hN⟩:=Zy (VH A X 5)
     rw[←hN]at CA lN wN5 vN5 hR4 cC ⊢
     generalize G3.setIfInBounds bA (Yd N)=G4 at *
     have r1:=Sh lN CA
     have r2:=Sh hrn hR4
     have lNm:(N.map uv).length=5:=by simpa using lN
     have tN:(N.map uv).take 5=N.map uv:=List.take_of_length_le (by omega)
     have tR:(R.map uv).take 5=R.map uv:=List.take_of_length_le (by omega)
     simp -implicitDefEqProofs only[go_sem,↓reduceIte,f0,f1,f10,f11,f66,f67,tD,r1,r2]
     refine (E6 T G4 N R lN hrn wN5 qE).use ?_
     rintro _ G5 ⟨rfl,b5⟩
     obtain⟨w1,w2,w3⟩:=Hw lN hrn wN5 qE
     obtain⟨m1,m2,m3,_⟩:=SP w2 w1
     obtain⟨M,hM⟩:=Zy (Xc (UK N R 5))
     rw[←hM]at m1 m2 m3 ⊢
     have hA5:=b5.get (Za CA) CA
     have hR5:=b5.get (Za hR4) hR4
     have hB5:Zg h.size h G5:=cC.trans (b5.mono cC.size)
     have lM:(M.map uv).length=5:=by simpa using m1
     have hoM:(M.map uv).all Z7=true:=by simp[uv,Z7]
     have w5:=ZS (h:=G5) (b:=bA) (l:=(N.map uv)) (by unfold Yd at hA5;rw[List.append_nil]at hA5;exact hA5) 0 (M.map uv)
     rw[if_pos ⟨by simp[lM,lNm],hoM⟩,ZP (by simp[lM,lNm])]at w5
     have QB:(rest.length:Int)≤d:=by omega
     obtain⟨mn,hmn⟩:=Zy (min 16 rest.length)
     have mO:(if (rest.length:Int)<16 then (rest.length:Int) else 16)=((mn:Nat):Int):=by split<;>omega
     have Zmz:(mn:Int)≤rest.length:=by omega
     have ZeI:rest.drop mn=data.drop (16*(k+1)):=by
      rw[YA]
      by_cases hc:rest.length≤16
      ·rw[List.drop_of_length_le (by omega),List.drop_of_length_le (by omega)]
      ·rw[hmn,Nat.min_eq_left (by omega)]
     have s2:=SL s1 rfl (k:=mn) (by omega) nj (d-mn)
     rw[ZeI]at s2
     have ZeJ:Yn M%VG=mW (Y5 (X1 key)) data (k+1):=by
      rw[m3,w3,vN5,hxv,hrv,mW,←JZ,Nat.mul_mod,←Nat.mod_add_mod,←Nat.mul_mod]
     simp -implicitDefEqProofs only[go_sem,↓reduceIte,f0,f1,f10,f11,w5,lM,mO,Zmz,Int.toNat_natCast,QT]
     refine⟨⟨f0,f10,f11,hB5.Zl (by omega) _,?_,k+1,M,by omega,s2,?_,?_,m1,m2,ZeJ⟩,?_⟩
     ·rw[Array.getElem?_setIfInBounds,if_neg (by omega)];exact hR5
     ·show rest.length-mn≤d-mn;omega
     ·have:=ZR (o:=.cells (M.map uv).toArray 227) hA5
      unfold Yd;rw[List.append_nil];exact this
     ·show rest.length-mn<rest.length;omega
   ·have ZeK:¬(0:Int)<((data.drop (16*k)).length:Int):=by omega
    have hk2:k=(data.length+15)/16:=by omega
    rw[hk2]at JZ
    obtain⟨rest,Kg⟩:=Zy (data.drop (16*k))
    rw[←Kg]at f1 ZeK
    have r1:=Sh lA5 gA
    have tA:(A.map uv).take 5=A.map uv:=List.take_of_length_le (by simp[lA5])
    simp -implicitDefEqProofs only[go_sem,↓reduceIte,f0,f1,f10,f11,ZeK,r1]
    refine (E7 T g A lA5 (TD.mono (by decide))).use ?_
    rintro _ g6 ⟨rfl,b6⟩
    obtain⟨m1,m2,m3,m4⟩:=SP lA5 (TD.mono (by decide))
    obtain⟨q1,q2,q3⟩:=fR m1 m2 m4
    rw[m3,JZ]at q3
    obtain⟨M,hM⟩:=Zy (Sg (Xc A))
    rw[←hM]at q1 q2 q3 ⊢
    have hA6:=b6.get (Za gA) gA
    have hB6:Zg h.size h g6:=hg.trans (b6.mono hg.size)
    have lM:(M.map uv).length=5:=by simpa using q1
    have lAm:(A.map uv).length=5:=by simpa using lA5
    have hoM:(M.map uv).all Z7=true:=by simp[uv,Z7]
    have w5:=ZS (h:=g6) (b:=bA) (l:=(A.map uv)) (by unfold Yd at hA6;rw[List.append_nil]at hA6;exact hA6) 0 (M.map uv)
    rw[if_pos ⟨by simp[lM,lAm],hoM⟩,ZP (by simp[lM,lAm])]at w5
    have hB7:Zg h.size h (g6.setIfInBounds bA (.cells (M.map uv).toArray 227)):=hB6.Zl (by omega) _
    have hA7:(g6.setIfInBounds bA (.cells (M.map uv).toArray 227))[bA]? = some (Yd M):=by
     have:=ZR (o:=.cells (M.map uv).toArray 227) hA6
     unfold Yd;rw[List.append_nil];exact this
    obtain⟨g7,hg7⟩:=Zy (g6.setIfInBounds bA (.cells (M.map uv).toArray 227))
    rw[←hg7]at w5 hB7 hA7
    clear hg7
    have sm:Bs g7 (.slice (BX p 1 c 16) 16 (c-16)) ((key.drop 16).take 16):=Zai (sk.Ya hB7) rfl (by omega) ck _
    have Zao:((key.drop 16).take 16).length=16:=by rw[List.length_take,List.length_drop];omega
    have u2:(32:Int)≤c:=by omega
    have wkl:Dg ((key.drop 16).take 16):=fun x hx=>wk x (List.mem_of_mem_drop (List.mem_of_mem_take hx))
    simp -implicitDefEqProofs only[go_sem,↓reduceIte,f0,f1,f10,f11,w5,lM,u2,QT]
    refine (Nf T _ _ _ 0 sm Zao (by omega)).use ?_
    rintro _ g8 ⟨rfl,b8⟩
    have hSv:=Ke (t:=0) (SU wkl Zao)
    rw[Nat.mul_zero,Nat.add_zero]at hSv
    have hSl:=Fc (t:=0) (SU wkl Zao) (by omega)
    have hSn:=Sk (Y5 ((key.drop 16).take 16)) 0
    obtain⟨S,hS⟩:=Zy (GY (Y5 ((key.drop 16).take 16)) 0)
    rw[←hS]at hSv hSl hSn ⊢
    clear hS
    have hA8:=b8.get (Za hA7) hA7
    have hB8:Zg h.size h g8:=hB7.trans (b8.mono hB7.size)
    have lS:(S.map uv).length=5:=by simpa using hSn
    have hoS:(S.map uv).all Z7=true:=by simp[uv,Z7]
    have lpS:Ys [Value.int .u64 0,.int .u64 0,.int .u64 0,.int .u64 0,.int .u64 0] 0 (S.map uv)=S.map uv:=ZP lS
    simp -implicitDefEqProofs only[go_sem,↓reduceIte,f0,f1,f10,f11,lS,hoS,lpS,Zak]
    have T0:tK key data=Yn M+Yn S:=by rw[q3,hSv];rfl
    have hB9:Zg (g8.size+1) (g8.push (.cells (S.map uv).toArray 227)) ((g8.push (.cells (S.map uv).toArray 227)).push (.cells ((List.replicate 16 0).map bv).toArray 5)):=Zg.push (by simp) _
    have hS9:(g8.push (.cells (S.map uv).toArray 227))[g8.size]? = some (Yd S):=by rw[Zb];unfold Yd;rw[List.append_nil]
    have hA9:(g8.push (.cells (S.map uv).toArray 227))[bA]? = some (Yd M):=by rw[Zr (Za hA8)];exact hA8
    have hH9:Zg h.size h (g8.push (.cells (S.map uv).toArray 227)):=hB8.Yh hB8.size _
    have o9:Z0 (g8.size+1) 5 ((g8.push (.cells (S.map uv).toArray 227)).push (.cells ((List.replicate 16 0).map bv).toArray 5)) (.slice (some ⟨g8.size+1,0,none⟩) 0 16) []:=by
     refine⟨.inr ⟨g8.size+1,16,(List.replicate 16 0).map bv,Nat.le_refl _,rfl,?_,rfl,by simp,Nat.zero_le _⟩,fun x hx=>by cases hx⟩
     have:=Zb (h:=g8.push (.cells (S.map uv).toArray 227)) (o:=.cells ((List.replicate 16 0).map bv).toArray 5)
     rw[Array.size_push]at this
     exact this
    have ZmF:=Za hA8
    have ZeL:=hB8.size
    have hz9:(g8.push (.cells (S.map uv).toArray 227)).size=g8.size+1:=by simp
    obtain⟨bS,hbS⟩:∃b,b=g8.size:=⟨_,rfl⟩
    rw[←hbS]at hB9 hS9 o9 ZmF ZeL hz9 ⊢
    obtain⟨J,hJ⟩:=Zy (g8.push (.cells (S.map uv).toArray 227))
    rw[←hJ]at hB9 hS9 hA9 hH9 o9 hz9 ⊢
    clear hJ
    refine VS.ZV (fun F g=>F 11=.pointer (some ⟨bA,0,none⟩)∧F 16=.pointer (some ⟨bS,0,none⟩)∧Zg (bS+1) J g∧∃(i n sum bits:Nat) (out:List Nat),i≤5∧F 87=.int .i64 i∧F 18=.int .u64 sum∧F 19=.int .u64 bits∧F 20=.int .i64 n∧Z0 (bS+1) 5 g (F 17) out∧out.length=n∧bits<8∧26*i=8*n+bits∧sum<8*2 ^ bits∧tK key data=Y5 out+256 ^ n*(sum+2 ^ bits*Ol (M.drop i) (S.drop i)))
     (fun F _=>5-(vi (F 87)).toNat) rfl ⟨f11,rfl,hB9,0,0,0,0,[],by omega,rfl,rfl,rfl,rfl,o9,rfl,by omega,by omega,by omega,by rw[T0,List.drop_zero,List.drop_zero,Dd _ _ (by omega)];simp[Y5]⟩ ?_
    clear f0 f1 f10 f11 F hB9 o9
    rintro F g' ⟨f11,f16,Ih,i,n,sum,bits,out,hi,f87,f18,f19,f20,ho,hol,hb8,hbn,gq,hT⟩
    have gA':=Ih.get (k:=bA) (by omega) hA9
    have gS':=Ih.get (k:=bS) (by omega) hS9
    have ZeN:=Ih.size
    by_cases ZD:i<5
    ·have ZL:(i:Int)<5:=by omega
     rw[AD (by omega) (by omega)]at hT
     have g1:=ZK gA' (i:=i) (by omega)
     have g2:=ZK gS' (i:=i) (by omega)
     unfold uv at g1 g2
     have y1:=q2.getD (by omega) i
     have y2:=hSl.getD (by omega) i
     obtain⟨a,ha⟩:=Zy (M.getD i 0)
     obtain⟨b,hb⟩:=Zy (S.getD i 0)
     rw[←ha]at g1 y1 hT
     rw[←hb]at g2 y2 hT
     have hT2:=tQ hT
     have De:=gm (c:=a+b) gq (by omega)
     have p8:=gk hb8
     have Gj:(a+b)*2 ^ bits≤268435455*128:=Nat.mul_le_mul (by omega) p8
     have ZmH:sum<1024:=by omega
     have e1:(a:Int)+(b:Int)=((a+b:Nat):Int):=rfl
     have e2:((a+b:Nat):Int)%18446744073709551616=((a+b:Nat):Int):=by omega
     have e3:YE .u64 ((a+b:Nat):Int) (bits:Int)=(((a+b)*2 ^ bits:Nat):Int):=by
      rw[MW _ _ (by omega),Nat.mod_eq_of_lt (by omega)]
     obtain⟨cc,qF⟩:=Zy ((a+b)*2 ^ bits)
     rw[←qF]at e3 Gj hT2 De
     have e4:(sum:Int)+(cc:Int)=((sum+cc:Nat):Int):=rfl
     have e5:((sum+cc:Nat):Int)%18446744073709551616=((sum+cc:Nat):Int):=by omega
     have e6:(bits:Int)+26=((bits+26:Nat):Int):=rfl
     have e7:((bits+26:Nat):Int)%18446744073709551616=((bits+26:Nat):Int):=by omega
     have e8:¬(bits:Int)<0:=by omega
     simp -implicitDefEqProofs only[go_sem,↓reduceIte,f11,f16,f18,f19,f20,f87,ZL]
     refine VS.q mixed (by kernel_rfl) ?_
     simp -implicitDefEqProofs only[go_sem,↓reduceIte,f11,f16,f18,f19,f20,f87,ZL,Int.toNat_natCast,Nat.zero_add,g1,g2,e1,e2,e3,e4,e5,e6,e7,e8]
     refine VS.ZV (fun F g=>F 11=.pointer (some ⟨bA,0,none⟩)∧F 16=.pointer (some ⟨bS,0,none⟩)∧F 87=.int .i64 i∧Zg (bS+1) J g∧∃(n sum bits:Nat) (out:List Nat),F 18=.int .u64 sum∧F 19=.int .u64 bits∧F 20=.int .i64 n∧Z0 (bS+1) 5 g (F 17) out∧out.length=n∧bits<34∧26*(i+1)=8*n+bits∧sum<8*2 ^ bits∧tK key data=Y5 out+256 ^ n*(sum+2 ^ bits*Ol (M.drop (i+1)) (S.drop (i+1))))
      (fun F _=>(vi (F 19)).toNat) rfl ⟨f11,f16,f87,Ih,n,sum+cc,bits+26,out,rfl,rfl,f20,ho,hol,by omega,by omega,De,hT2⟩ ?_
     clear f11 f16 f18 f19 f20 f87 ho hol hT hT2 gq De hbn hb8 Ih gA' gS' ZeN g1 g2 e3 e4 e5 e6 e7 e8 p8 Gj qF ZmH F cc
     clear n sum bits out g'
     rintro F g' ⟨f11,f16,f87,Ih,n,sum,bits,out,f18,f19,f20,ho,hol,hb8,hbn,gq,hT⟩
     have ZeN:=Ih.size
     by_cases hb:8≤bits
     ·have Gt:(8:Int)≤bits:=by omega
      have hn1:(n:Int)<16:=by omega
      have De:=gn gq hb
      have hT2:=nh hb hT
      have hp:2 ^ bits≤2 ^ 34:=Nat.pow_le_pow_right (by decide) (by omega)
      have Nu:sum<18446744073709551616:=Nat.lt_of_lt_of_le gq (Nat.le_trans (Nat.mul_le_mul_left 8 hp) (by decide))
      have em:((sum:Nat):Int)%256=((sum%256:Nat):Int):=rfl
      have es:Xh .u64 (sum:Int) 8=((sum/256:Nat):Int):=SO sum 8 (by decide)
      have eb:(bits:Int)-8=((bits-8:Nat):Int):=by omega
      have eb2:((bits-8:Nat):Int)%18446744073709551616=((bits-8:Nat):Int):=by omega
      simp -implicitDefEqProofs only[go_sem,↓reduceIte,f11,f16,f18,f19,f20,f87,Gt,hn1,em]
      have hX:sum%256<256:=by omega
      refine Zw (E:=5) (B:=bS+1) YC Tryz.underlying34 WH VA Vz (ho.push _) (by simp;omega) (Bs.one hX 1) (by simp;omega) ?_
      intro v' h' RH XN _
      simp -implicitDefEqProofs only[go_sem,↓reduceIte,f11,f16,f18,f19,f20,f87,es,eb,eb2]
      refine⟨⟨f11,f16,f87,(Ih.Yh (by omega) _).trans XN,n+1,sum/256,bits-8,out++[sum%256],rfl,rfl,rfl,RH,by simp[hol],by omega,by omega,De,?_⟩,?_⟩
      ·rw[hT2,AE,hol]
      ·simp only[vi,Zk,↓reduceIte,Nat.reduceEqDiff,f19];omega
     ·have Gt:¬(8:Int)≤bits:=by omega
      have e9:(i:Int)+1=((i+1:Nat):Int):=rfl
      simp -implicitDefEqProofs only[go_sem,↓reduceIte,f11,f16,f18,f19,f20,f87,Gt,e9]
      refine⟨⟨f11,f16,Ih,i+1,n,sum,bits,out,ZD,rfl,f18,f19,f20,ho,hol,by omega,hbn,gq,hT⟩,?_⟩
      simp only[vi,Zk,↓reduceIte,f87];omega
    ·have YJ:¬(i:Int)<5:=by omega
     obtain rfl:i=5:=by omega
     have c5:((5:Nat):Int)=5:=rfl
     rw[c5]at f87 YJ
     obtain rfl:n=16:=by omega
     have e0:Ol (M.drop 5) (S.drop 5)=0:=by rw[List.drop_of_length_le (by omega),List.drop_of_length_le (by omega)];rfl
     rw[e0,Nat.mul_zero,Nat.add_zero]at hT
     have Ax:=gf ho.byte hol hT
     have htl:At key data=out:=Ax.symm
     simp -implicitDefEqProofs only[go_sem,↓reduceIte,f11,f16,f18,f19,f20,f87,YJ]
     rw[htl]
     exact⟨ho.mono (by omega),hH9.trans (Ih.mono (by omega))⟩
theorem Df (T:World) (h:Hp) (v u:Value) (key data:List Nat) (sk:Bs h v key) (sd:Bs h u data) (ck:Ta v) (cu:Ta u) :
  Zd Tryz.prog T 87 #[v,u] h fun v' h'=>mX h.size h' v' key data∧Zg h.size h h':=by
 obtain⟨p,c,rfl,hkc⟩:=sk.open
 obtain⟨q,d,rfl,hdc⟩:=sd.open
 refine Zd.Zj (args:=[_,_]) Tryz.func87 rfl rfl rfl rfl ?_
 unfold mX
 by_cases hk:key.length=32
 ·by_cases hd:4000<data.length
  ·have hd':4000<(data.length:Int):=by omega
   have PS:(key.length:Int)=32:=by omega
   have e:Ve key data=1:=by unfold Ve;rw[if_pos (.inr hd)]
   rw[e]
   simp -implicitDefEqProofs only[go_sem,↓reduceIte,hd',PS]
   exact⟨_,rfl,Z0.nil _ _ _⟩
  ·have hd':¬4000<(data.length:Int):=by omega
   have PS:(key.length:Int)=32:=by omega
   have e:Ve key data=0:=by unfold Ve;rw[if_neg (by omega)]
   rw[e,if_pos rfl]
   simp -implicitDefEqProofs only[go_sem,↓reduceIte,hd',PS]
   refine (AF T _ _ _ key data sk sd hk (by omega) ck cu).use ?_
   rintro v1 h1 ⟨o1,b1⟩
   simp -implicitDefEqProofs only[go_sem,↓reduceIte]
   exact⟨⟨_,rfl,o1⟩,b1⟩
 ·have PS:¬(key.length:Int)=32:=by omega
  have e:Ve key data=1:=by unfold Ve;rw[if_pos (.inl hk)]
  rw[e]
  simp -implicitDefEqProofs only[go_sem,↓reduceIte,PS]
  exact⟨_,rfl,Z0.nil _ _ _⟩
end Go.Proofs.YtpomedigibbeeaaGreatDoor
