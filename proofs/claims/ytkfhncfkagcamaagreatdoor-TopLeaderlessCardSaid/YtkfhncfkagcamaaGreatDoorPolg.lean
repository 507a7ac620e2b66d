/- The program's clamped key, its blocks' numbers and its last bytes, in plain numbers; no condition but those in the statements. -/
import Derived.Test.YtkfhncfkagcamaaGreatDoorPik
import Derived.Test.YtkfhncfkagcamaaGreatDoorW14
namespace Go.Proofs.YtkfhncfkagcamaaGreatDoor
open Go Go.V
set_option linter.unusedSimpArgs false
set_option linter.unusedVariables false
set_option maxRecDepth 100000
def Bx (l:List Nat):Nat→List Nat
 | 0=>l
 | i+1=>(Bx l i).set (4*i+3) ((Bx l i).getD (4*i+3) 0%16)
def aD (l:List Nat):Nat→List Nat
 | 0=>l
 | i+1=>(aD l i).set (4*i+4) ((aD l i).getD (4*i+4) 0/4*4)
theorem Lz (l:List Nat):∀i,(Bx l i).length=l.length
 | 0=>rfl
 | i+1=>by rw[Bx,List.length_set,Lz l i]
theorem LA (l:List Nat):∀i,(aD l i).length=l.length
 | 0=>rfl
 | i+1=>by rw[aD,List.length_set,LA l i]
theorem By {l:List Nat} (w:Dg l):∀i,Dg (Bx l i)
 | 0=>w
 | i+1=>(By w i).set _ (by have:=(By w i).getD (4*i+3);omega)
theorem Bz {l:List Nat} (w:Dg l):∀i,Dg (aD l i)
 | 0=>w
 | i+1=>(Bz w i).set _ (by have:=(Bz w i).getD (4*i+4);omega)
theorem qH {l:List Nat} (hl:l.length=16):aD (Bx l 4) 3=XS l:=by
 match l,hl with
 | [a0,a1,a2,a3,a4,a5,a6,a7,a8,a9,a10,a11,a12,a13,a14,a15],_=>rfl
theorem En (key:List Nat):XS key=XS (key.take 16):=by
 unfold XS
 apply List.map_congr_left
 intro i hi
 have A0:i<16:=by simpa using hi
 have e:(key.take 16).getD i 0=key.getD i 0:=by
  rw[List.getD_eq_getElem?_getD,List.getElem?_take,if_pos A0,List.getD_eq_getElem?_getD]
 unfold kI
 rw[e]
theorem dR {key:List Nat} (hk:key.length=32):aD (Bx (key.take 16) 4) 3=XS key:=by
 rw[En];exact qH (by rw[List.length_take];omega)
theorem Sr {l:List Nat} (w:Dg l) (hl:l.length=16):YW l<340282366920938463463374607431768211456:=by
 have:=UR w (n:=16) (by omega)
 exact this
theorem TS (n t:Nat):(Gb n t).length=5:=rfl
theorem Gl {n t:Nat} (hn:n<340282366920938463463374607431768211456) (ht:t≤1):Yj 67108864 (Gb n t):=
 Yj.NZ (by omega) (by omega) (by omega) (by omega) (by omega)
theorem LB {n t:Nat} (hn:n<340282366920938463463374607431768211456):Yl (Gb n t)=n+340282366920938463463374607431768211456*t:=by
 simp only[Gb,Yl];omega
def Vm (a x:List Nat):Nat→List Nat
 | 0=>a
 | i+1=>(Vm a x i).set i ((Vm a x i).getD i 0+x.getD i 0)
theorem No (a x:List Nat):∀i,(Vm a x i).length=a.length
 | 0=>rfl
 | i+1=>by rw[Vm,List.length_set,No a x i]
theorem aE {a x:List Nat} {K L:Nat} (wa:Yj K a) (wx:Yj L x) (hK:0<K) (hL:0<L):∀i,Yj (K+i*L) (Vm a x i)
 | 0=>by rw[Nat.zero_mul];exact wa
 | i+1=>by
  have h:=aE wa wx hK hL i
  have q1:=h.getD (by omega) i
  have q2:=wx.getD hL i
  rw[Vm,Nat.add_mul,Nat.one_mul]
  exact (h.mono (by omega)).set _ _ (by omega)
theorem kO {a x:List Nat} (ha:a.length=5) (hx:x.length=5) (wa:Yj 134217728 a) (wx:Yj 67108864 x):Yj 268435456 (Vm a x 5)∧Yl (Vm a x 5)=Yl a+Yl x:=by
 obtain⟨a0,a1,a2,a3,a4,rfl⟩:=NZ ha
 obtain⟨x0,x1,x2,x3,x4,rfl⟩:=NZ hx
 obtain⟨w0,w1,w2,w3,w4⟩:=wa.qA
 obtain⟨u0,u1,u2,u3,u4⟩:=wx.qA
 have e:Vm [a0,a1,a2,a3,a4] [x0,x1,x2,x3,x4] 5=[a0+x0,a1+x1,a2+x2,a3+x3,a4+x4]:=rfl
 rw[e]
 exact⟨Yj.NZ (by omega) (by omega) (by omega) (by omega) (by omega),by simp only[Yl];omega⟩
theorem LC (a b:List Nat):YW (a++b)=YW a+256 ^ a.length*YW b:=by
 induction a with
 | nil=>simp[YW]
 | cons x a ih=>simp only[List.cons_append,YW,ih,List.length_cons,Nat.pow_succ,Nat.mul_add,Nat.add_assoc];congr 2;rw[←Nat.mul_assoc,Nat.mul_comm 256]
theorem BA (n:Nat):YW (List.replicate n 0)=0:=by
 induction n with
 | zero=>rfl
 | succ n ih=>rw[List.replicate_succ,YW,ih]
def Y7 (l:List Nat):List Nat:=l++[1]++List.replicate (16-l.length) 0
theorem Gm {l:List Nat} (hl:l.length≤16):(Y7 l).length=17:=by simp[Y7];omega
theorem dS {l:List Nat} (hl:l.length≤16):YW ((Y7 l).take 16)+340282366920938463463374607431768211456*(Y7 l).getD 16 0=YW (l++[1]):=by
 by_cases h:l.length=16
 ·have e1:(Y7 l).take 16=l:=by unfold Y7;rw[List.append_assoc,List.take_left' h]
  have e2:(Y7 l).getD 16 0=1:=by
   unfold Y7
   rw[List.getD_eq_getElem?_getD,List.append_assoc,List.getElem?_append_right (by omega),h];rfl
  rw[e1,e2,LC,h];rfl
 ·have e2:(Y7 l).getD 16 0=0:=by
   unfold Y7
   rw[List.getD_eq_getElem?_getD,List.getElem?_append_right (by simp;omega),List.getElem?_replicate]
   split<;>rfl
  have e1:(Y7 l).take 16=(l++[1])++List.replicate (15-l.length) 0:=by
   unfold Y7
   rw[List.take_append,List.take_of_length_le (by simp;omega),List.take_replicate]
   congr 2
   simp;omega
  rw[e1,e2,LC,BA];omega
theorem dU {l:List Nat} (hl:l.length≤16):(Y7 l).getD 16 0≤1:=by
 by_cases h:l.length=16
 ·have e2:(Y7 l).getD 16 0=1:=by
   unfold Y7
   rw[List.getD_eq_getElem?_getD,List.append_assoc,List.getElem?_append_right (by omega),h];rfl
  omega
 ·have e2:(Y7 l).getD 16 0=0:=by
   unfold Y7
   rw[List.getD_eq_getElem?_getD,List.getElem?_append_right (by simp;omega),List.getElem?_replicate]
   split<;>rfl
  omega
theorem kP {l:List Nat} (w:Dg l):Dg (Y7 l):=by
 intro x hx
 unfold Y7 at hx
 simp only[List.mem_append,List.mem_singleton,List.mem_replicate]at hx
 rcases hx with (h|h)|h
 ·exact w x h
 ·omega
 ·omega
theorem dV {l:List Nat} (hl:l.length≤16):(l++List.replicate (17-l.length) 0).set l.length 1=Y7 l:=by
 have e:List.replicate (17-l.length) 0=0 :: List.replicate (16-l.length) 0:=by rw[←List.replicate_succ];congr 1;omega
 rw[e,List.set_append_right _ _ (Nat.le_refl _),Nat.sub_self,List.set_cons_zero]
 unfold Y7;rw[List.append_assoc];rfl
def Pz:List Nat→List Nat→Nat
 | x :: l,y :: k=>(x+y)+67108864*Pz l k
 | _,_=>0
theorem Eo:∀(l k:List Nat),l.length=k.length→Pz l k=Yl l+Yl k
 | [],[],_=>rfl
 | x :: l,y :: k,h=>by simp only[Pz,Yl];rw[Eo l k (by simpa using h)];omega
theorem dW {out:List Nat} {t R:Nat} (w:Dg out) (hl:out.length=16) (h:t=YW out+256 ^ 16*R):out=(List.range 16).map fun i=>t/256 ^ i%256:=by
 apply List.ext_getElem?
 intro i
 by_cases hi:i<16
 ·rw[List.getElem?_map,List.getElem?_range hi]
  have e:=Bj w i
  rw[List.getD_eq_getElem?_getD,List.getElem?_eq_getElem (by omega)]at e
  rw[List.getElem?_eq_getElem (by omega)]
  simp only[Option.map_some,Option.some.injEq]
  simp only[Option.getD_some]at e
  rw[e,h]
  have e2:256 ^ 16*R=256 ^ i*(256*(256 ^ (15-i)*R)):=by
   rw[←Nat.mul_assoc 256,←Nat.mul_assoc,←Nat.pow_succ',←Nat.pow_add]
   congr 2;omega
  rw[e2,Nat.add_mul_div_left _ _ (Nat.pow_pos (by omega)),Nat.add_mul_mod_self_left]
 ·rw[List.getElem?_eq_none (by omega),List.getElem?_eq_none (by simp;omega)]
theorem kQ {T v n s B R:Nat} (hB:256≤B) (hd:B%256=0) (h:T=v+n*(s+B*R)):T=v+n*(s%256)+n*256*(s/256+B/256*R):=by
 have e:s+B*R=s%256+256*(s/256+B/256*R):=by
  have e1:B=256*(B/256):=by omega
  have e2:B*R=256*(B/256*R):=by rw[←Nat.mul_assoc,←e1]
  have e3:=Nat.mod_add_div s 256
  rw[Nat.mul_add,e2];omega
 rw[h,e,Nat.mul_add,←Nat.mul_assoc,←Nat.add_assoc]
theorem dX {i:Nat} (hi:i<4):nth [Value.int .i64 3,.int .i64 7,.int .i64 11,.int .i64 15] i=some (.int .i64 ((4*i+3:Nat):Int)):=by
 match i,hi with
 | 0,_=>rfl
 | 1,_=>rfl
 | 2,_=>rfl
 | 3,_=>rfl
theorem dY {i:Nat} (hi:i<3):nth [Value.int .i64 4,.int .i64 8,.int .i64 12] i=some (.int .i64 ((4*i+4:Nat):Int)):=by
 match i,hi with
 | 0,_=>rfl
 | 1,_=>rfl
 | 2,_=>rfl
theorem ZcU (x:Nat) (hx:x<256):Z7 .and .u8 (x:Int) 15=((x%16:Nat):Int):=by
 have h:=jA x 15 hx (by decide)
 have e:x &&& 15=x%16:=Nat.and_two_pow_sub_one_eq_mod x 4
 rw[e]at h;exact h
theorem xO (x:Nat) (hx:x<256):Z7 .and .u8 (x:Int) 252=((x/4*4:Nat):Int):=by
 have h:=jA x 252 hx (by decide)
 have e:x &&& 252=x/4*4:=by
  have:∀y:Fin 256,y.val &&& 252=y.val/4*4:=by decide
  exact this ⟨x,hx⟩
 rw[e]at h;exact h
def ZkH:Value→Nat
 | .slice _ l _=>l
 | _=>0
theorem dZ (n:Nat) (vs:List Nat) (h:vs.length≤n):Yn ((List.replicate n 0).map bv) 0 (vs.map bv)=(vs++List.replicate (n-vs.length) 0).map bv:=by
 rw[JZ _ _ (by simpa using h),List.length_map,←List.map_drop,List.drop_replicate,List.map_append]
theorem BC {M S:List Nat} {i:Nat} (hM:i<M.length) (hS:i<S.length):Pz (M.drop i) (S.drop i)=(M.getD i 0+S.getD i 0)+67108864*Pz (M.drop (i+1)) (S.drop (i+1)):=by
 rw[List.drop_eq_getElem_cons hM,List.drop_eq_getElem_cons hS,Pz,List.getD_eq_getElem?_getD,List.getD_eq_getElem?_getD,List.getElem?_eq_getElem hM,List.getElem?_eq_getElem hS];rfl
theorem qI {T v n s b c R:Nat} (h:T=v+n*(s+2 ^ b*(c+67108864*R))):T=v+n*(s+c*2 ^ b+2 ^ (b+26)*R):=by
 rw[h,Nat.mul_add (2 ^ b),Nat.mul_comm (2 ^ b) c,Nat.pow_add,←Nat.mul_assoc (2 ^ b),Nat.add_assoc]
theorem eh {b:Nat} (h:b<8):2 ^ b≤128:=by
 have:=Nat.pow_le_pow_right (show 0<2 by decide) (show b≤7 by omega)
 exact this
theorem ej {s c b:Nat} (hs:s<8*2 ^ b) (hc:c<268435456):s+c*2 ^ b<8*2 ^ (b+26):=by
 have h1:c*2 ^ b≤268435455*2 ^ b:=Nat.mul_le_mul_right _ (by omega)
 rw[Nat.pow_add]
 have:2 ^ 26=67108864:=rfl
 rw[this];omega
theorem eu {s b:Nat} (hs:s<8*2 ^ b) (hb:8≤b):s/256<8*2 ^ (b-8):=by
 have:2 ^ b=2 ^ (b-8)*256:=by
  have e:b=b-8+8:=by omega
  rw[e,Nat.pow_add,Nat.add_sub_cancel]
 rw[this]at hs;omega
theorem kR {T v n s b R:Nat} (hb:8≤b) (h:T=v+256 ^ n*(s+2 ^ b*R)):T=v+256 ^ n*(s%256)+256 ^ (n+1)*(s/256+2 ^ (b-8)*R):=by
 have e:2 ^ b=2 ^ (b-8)*256:=by
  have e:b=b-8+8:=by omega
  rw[e,Nat.pow_add,Nat.add_sub_cancel]
 have hp:0<2 ^ (b-8):=Nat.pow_pos (by omega)
 have:=kQ (B:=2 ^ b) (by rw[e];omega) (by rw[e];omega) h
 rw[show 2 ^ b/256=2 ^ (b-8) by rw[e,Nat.mul_div_cancel _ (by omega)]]at this
 rw[Nat.pow_succ];exact this
theorem BD (l:List Nat) (x:Nat):YW (l++[x])=YW l+256 ^ l.length*x:=by rw[LC];rfl
theorem xP:(XM 16 [Value.int .u8 0])=(List.replicate 16 0).map bv:=rfl
set_option maxHeartbeats 2000000 in
theorem BE (T:World) (h:Hp) (v u:Value) (key data:List Nat) (sk:Bs h v key) (sd:Bs h u data) (hk:key.length=32) (hd:data.length≤4000) (ck:VF v) (cu:VF u) :
  Zc Tryz.prog T 101 #[v,u] h fun v' h'=>Z1 h.size 5 h' v' (Br key data)∧Zg h.size h h':=by
 have wk:=sk.byte
 have wd:=sd.byte
 obtain⟨p,c,rfl,hkc⟩:=sk.Uk
 have ck:key.length≤c:=ck
 have l16:(key.take 16).length=16:=by rw[List.length_take];omega
 have s16:=Sp sk (m:=16) (by omega) c
 have c16:(16:Int)≤c:=by omega
 refine Zc.Zi (args:=[_,_]) Tryz.func101 rfl rfl rfl rfl ?_
 simp -implicitDefEqProofs only[go_sem,↓reduceIte,c16]
 refine Zw (E:=5) (B:=h.size) Yu Tryz.underlying34 Wm Vf Ve (Z1.nil _ _ _) (Nat.le_refl _) (by rw[hk]at sk;simpa using s16) (by rw[l16];decide) ?_
 intro v1 h1 o1 b1 _
 rw[List.nil_append]at o1
 have o1n:=o1.own
 rcases o1n with⟨_,hm,_⟩|⟨bc,cap,spare,hbc,rfl,RY,X0,SL,Qk⟩
 ·omega
 obtain⟨L,hL⟩:=ZA (key.take 16)
 have wL:Dg L:=by rw[hL];exact fun x hx=>wk x (List.mem_of_mem_take hx)
 have ZcV:aD (Bx L 4) 3=XS key:=by rw[hL];exact dR hk
 rw[←hL]at l16 RY X0 SL Qk ⊢
 clear o1 s16 hL
 have ZvF:=Za RY
 simp -implicitDefEqProofs only[go_sem,↓reduceIte]
 refine VS.ZW (fun F g=>F 0=.slice p key.length c∧F 1=u∧F 5=.slice (some ⟨bc,0,none⟩) L.length cap∧F 25=.agg #[.int .i64 3,.int .i64 7,.int .i64 11,.int .i64 15]∧∃i:Nat,i≤4∧F 26=.int .i64 i∧g=h1.setIfInBounds bc (.cells ((Bx L i).map bv++spare).toArray 5))
  (fun F _=>4-(vi (F 26)).toNat) rfl ⟨rfl,rfl,rfl,rfl,0,by omega,rfl,(Q0 RY).symm⟩ ?_
 rintro F g ⟨f0,f1,f5,f25,i,hi,f26,rfl⟩
 have hx:=ZQ (o:=.cells ((Bx L i).map bv++spare).toArray 5) RY
 have wA:=By wL i
 have lA:=Lz L i
 by_cases ZC:i<4
 ·have ZL:(i:Int)<4:=by omega
  have YH:Bx L (i+1)=(Bx L i).set (4*i+3) ((Bx L i).getD (4*i+3) 0%16):=rfl
  obtain⟨r,hr⟩:=ZA (Bx L i)
  rw[←hr]at hx wA lA YH ⊢
  obtain⟨G,hG⟩:=ZA (h1.setIfInBounds bc (.cells (r.map bv++spare).toArray 5))
  rw[←hG]at hx ⊢
  have n1:=dX ZC
  have g1:=ZK hx (i:=4*i+3) (by omega)
  have x1:=wA.getD (4*i+3)
  unfold bv at g1
  obtain⟨x,nV⟩:=ZA (r.getD (4*i+3) 0)
  rw[←nV]at g1 x1 YH
  have e1:=ZcU x x1
  have hi1:((4*i+3:Nat):Int)<L.length:=by omega
  have c1:Jh G ⟨bc,4*i+3,none⟩ (.int .u8 (x%16:Nat))=_:=Z0 (f:=bv) hx (i:=4*i+3) (by omega) (x%16) rfl
  simp -implicitDefEqProofs only[go_sem,↓reduceIte,f0,f1,f5,f25,f26,ZL,Int.toNat_natCast,Nat.zero_add,n1,hi1,g1,e1,c1]
  refine⟨⟨f0,f1,f5,f25,i+1,ZC,rfl,?_⟩,?_⟩
  ·rw[hG,set_set,YH]
  ·simp only[vi,Zl,↓reduceIte,f26];omega
 ·have YF:¬(i:Int)<4:=by omega
  obtain rfl:i=4:=by omega
  have c4:((4:Nat):Int)=4:=rfl
  rw[c4]at f26 YF
  obtain⟨L2,hL2⟩:=ZA (Bx L 4)
  rw[←hL2]at hx wA lA ZcV ⊢
  have B2:Zg h.size h (h1.setIfInBounds bc (.cells (L2.map bv++spare).toArray 5)):=b1.Zm hbc _
  generalize h1.setIfInBounds bc (.cells (L2.map bv++spare).toArray 5)=h2 at *
  clear hL2
  simp -implicitDefEqProofs only[go_sem,↓reduceIte,f0,f1,f5,f25,f26,YF]
  refine VS.ZW (fun F g=>F 0=.slice p key.length c∧F 1=u∧F 5=.slice (some ⟨bc,0,none⟩) L.length cap∧F 36=.agg #[.int .i64 4,.int .i64 8,.int .i64 12]∧∃i:Nat,i≤3∧F 37=.int .i64 i∧g=h2.setIfInBounds bc (.cells ((aD L2 i).map bv++spare).toArray 5))
   (fun F _=>3-(vi (F 37)).toNat) rfl ⟨f0,f1,f5,rfl,0,by omega,rfl,(Q0 hx).symm⟩ ?_
  clear f0 f1 f5 f25 f26 YF F
  rintro F g ⟨f0,f1,f5,f36,i,hi,f37,rfl⟩
  have Bp:=ZQ (o:=.cells ((aD L2 i).map bv++spare).toArray 5) hx
  have wB:=Bz wA i
  have lB:=LA L2 i
  by_cases ZC:i<3
  ·have ZL:(i:Int)<3:=by omega
   have YH:aD L2 (i+1)=(aD L2 i).set (4*i+4) ((aD L2 i).getD (4*i+4) 0/4*4):=rfl
   obtain⟨r,hr⟩:=ZA (aD L2 i)
   rw[←hr]at Bp wB lB YH ⊢
   obtain⟨G,hG⟩:=ZA (h2.setIfInBounds bc (.cells (r.map bv++spare).toArray 5))
   rw[←hG]at Bp ⊢
   have n1:=dY ZC
   have g1:=ZK Bp (i:=4*i+4) (by omega)
   have x1:=wB.getD (4*i+4)
   unfold bv at g1
   obtain⟨x,nV⟩:=ZA (r.getD (4*i+4) 0)
   rw[←nV]at g1 x1 YH
   have e1:=xO x x1
   have hi1:((4*i+4:Nat):Int)<L.length:=by omega
   have c1:Jh G ⟨bc,4*i+4,none⟩ (.int .u8 (x/4*4:Nat))=_:=Z0 (f:=bv) Bp (i:=4*i+4) (by omega) (x/4*4) rfl
   simp -implicitDefEqProofs only[go_sem,↓reduceIte,f0,f1,f5,f36,f37,ZL,Int.toNat_natCast,Nat.zero_add,n1,hi1,g1,e1,c1]
   refine⟨⟨f0,f1,f5,f36,i+1,ZC,rfl,?_⟩,?_⟩
   ·rw[hG,set_set,YH]
   ·simp only[vi,Zl,↓reduceIte,f37];omega
  ·have YF:¬(i:Int)<3:=by omega
   obtain rfl:i=3:=by omega
   have c3:((3:Nat):Int)=3:=rfl
   rw[c3]at f37 YF
   rw[ZcV]at Bp wB lB ⊢
   have B3:Zg h.size h (h2.setIfInBounds bc (.cells ((XS key).map bv++spare).toArray 5)):=B2.Zm hbc _
   generalize h2.setIfInBounds bc (.cells ((XS key).map bv++spare).toArray 5)=h3 at *
   have qJ:=KX key
   have oc:Z1 h.size 5 h3 (.slice (some ⟨bc,0,none⟩) L.length cap) (XS key):=
    ⟨.inr ⟨bc,cap,spare,hbc,by rw[l16,qJ],Bp,by simp,by rw[SL,l16,qJ],by omega⟩,wB⟩
   simp -implicitDefEqProofs only[go_sem,↓reduceIte,f0,f1,f5,f36,f37,YF]
   refine (Oy T _ _ (XS key) 0 oc.bs qJ (by omega)).use ?_
   rintro _ h4 ⟨rfl,b4⟩
   have B4:Zg h.size h h4:=B3.trans (b4.mono B3.size)
   have hR:=Sr wB qJ
   have hrv:Yl (Gb (YW (XS key)) 0)=YW (XS key):=by rw[LB hR,Nat.mul_zero,Nat.add_zero]
   have nX:=Gl (t:=0) hR (by omega)
   have hrn:=TS (YW (XS key)) 0
   obtain⟨R,hRR⟩:=ZA (Gb (YW (XS key)) 0)
   rw[←hRR]at hrv nX hrn ⊢
   have lR:(R.map uv).length=5:=by simpa using hrn
   have hoR:(R.map uv).all Z8=true:=by simp[uv,Z8]
   have lp:Yn [Value.int .u64 0,.int .u64 0,.int .u64 0,.int .u64 0,.int .u64 0] 0 (R.map uv)=R.map uv:=ZO lR
   simp -implicitDefEqProofs only[go_sem,↓reduceIte,f0,f1,f5,f36,f37,lR,hoR,lp]
   obtain⟨bR,hbR⟩:∃b,b=h4.size:=⟨_,rfl⟩
   obtain⟨bA,hbA⟩:∃b,b=h4.size+1:=⟨_,rfl⟩
   obtain⟨H,hH⟩:=ZA (((h4.push (.cells (R.map uv).toArray 211)).push (.cells #[.int .u64 0,.int .u64 0,.int .u64 0,.int .u64 0,.int .u64 0] 211)):Hp)
   have HB:Zg h.size h H:=by rw[hH];exact (B4.Yh B4.size _).Yh (by have:=B4.size;simp;omega) _
   have HR:H[bR]? = some (Ye R):=by
    rw[hH,hbR,Zs (by simp),Zb];unfold Ye;rw[List.append_nil]
   have HA:H[bA]? = some (Ye [0,0,0,0,0]):=by
    have:=Zb (h:=(h4.push (.cells (R.map uv).toArray 211))) (o:=.cells #[.int .u64 0,.int .u64 0,.int .u64 0,.int .u64 0,.int .u64 0] 211)
    rw[Array.size_push]at this
    rw[hH,hbA,this];rfl
   have ZcX:h.size≤bR:=by have:=B4.size;omega
   rw[←hH,←hbA,←hbR]
   have ZvI:bA=bR+1:=by omega
   clear hH hbA hbR
   have sd0:Bs h (F 1) (data.drop (16*0)):=by rw[f1];exact sd
   have cu0:VF (F 1):=by rw[f1];exact cu
   refine VS.ZW (fun F g=>F 0=.slice p key.length c∧F 10=.pointer (some ⟨bR,0,none⟩)∧F 11=.pointer (some ⟨bA,0,none⟩)∧Zg h.size h g∧g[bR]? = some (Ye R)∧∃(k:Nat) (A:List Nat),16*k<data.length+16∧Bs h (F 1) (data.drop (16*k))∧VF (F 1)∧g[bA]? = some (Ye A)∧A.length=5∧Yj 134217728 A∧Yl A%Vl=kJ (YW (XS key)) data k)
    (fun F _=>ZkH (F 1)) rfl ⟨f0,rfl,rfl,HB,HR,0,[0,0,0,0,0],by omega,sd0,cu0,HA,rfl,Yj.NZ (by omega) (by omega) (by omega) (by omega) (by omega),rfl⟩ ?_
   clear f0 f1 f5 f36 f37 YF sd0 cu0 F HB HR HA H
   rintro F g ⟨f0,f10,f11,hg,gR,k,A,ZvJ,s1,kS,gA,xQ,Tb,Ep⟩
   obtain⟨q,d,f1,uL⟩:=s1.open
   rw[f1]at s1 kS
   have kS:(data.drop (16*k)).length≤d:=kS
   have ZkL:(data.drop (16*k)).length=data.length-16*k:=List.length_drop
   by_cases ZC:16*k<data.length
   ·have xR:(0:Int)<((data.drop (16*k)).length:Int):=by omega
    obtain⟨rest,LD⟩:=ZA (data.drop (16*k))
    have jI:ZcL data k=rest.take 16++[1]:=by rw[LD];rfl
    have YH:data.drop (16*(k+1))=rest.drop 16:=by rw[LD,List.drop_drop];congr 1
    have ZcY:Dg rest:=by rw[LD];exact fun x hx=>wd x (List.mem_of_mem_drop hx)
    rw[←LD]at f1 s1 kS uL xR ZkL
    clear LD
    have z17:(#[Value.int .u8 0,.int .u8 0,.int .u8 0,.int .u8 0,.int .u8 0,.int .u8 0,.int .u8 0,.int .u8 0,.int .u8 0,.int .u8 0,.int .u8 0,.int .u8 0,.int .u8 0,.int .u8 0,.int .u8 0,.int .u8 0,.int .u8 0]:Array Value)=((List.replicate 17 0).map bv).toArray:=rfl
    simp -implicitDefEqProofs only[go_sem,↓reduceIte,f0,f1,f10,f11,xR,z17]
    have Xb:=VD rest
    refine Lb (E:=5) (E':=213) (c:=(List.replicate 17 0).map bv) Yu Wm Zb ((s1.Z9 hg).Z9 (Zg.push (Nat.le_refl _) _)).sl Xb (by simp;omega) ?_
    obtain⟨n,hn⟩:=ZA (min rest.length 16)
    have hB:(rest.map bv).take n=(rest.take n).map bv:=List.map_take.symm
    have hBl:(rest.take n).length=n:=by rw[List.length_take];omega
    have ZcZ:rest.take n=rest.take 16:=by
     by_cases hc:rest.length≤16
     ·rw[List.take_of_length_le (by omega),List.take_of_length_le (by omega)]
     ·rw[hn,Nat.min_eq_right (by omega)]
    rw[←hn,hB,dZ 17 _ (by omega),hBl,ZcZ]
    rw[ZcZ]at hBl
    have Zc0:Dg (rest.take 16):=fun x hx=>ZcY x (List.mem_of_mem_take hx)
    obtain⟨B,hBB⟩:=ZA (rest.take 16)
    rw[←hBB]at hBl jI Zc0 ⊢
    have e17:(B++List.replicate (17-n) 0).set n 1=Y7 B:=by rw[←hBl];exact dV (by omega)
    have ZkM:(n:Int)<17:=by omega
    have ZqD:((B++List.replicate (17-n) 0).map bv).set n (.int .u8 1)=(Y7 B).map bv:=by rw[←e17,List.map_set];rfl
    have Zc1:(B++List.replicate (17-n) 0).length=17:=by simp;omega
    have ZkN:=hg.size
    have ZqE:=Za gR
    have ZqF:=Za gA
    obtain⟨bw,hbw⟩:=ZA (g.size)
    have hGR:∀o,((g.push o).setIfInBounds bw (.cells ((B++List.replicate (17-n) 0).map bv).toArray 213))[bR]? = some (Ye R):=fun o=>by
     rw[Array.getElem?_setIfInBounds,if_neg (by omega),Zs (by omega)];exact gR
    have hGA:∀o,((g.push o).setIfInBounds bw (.cells ((B++List.replicate (17-n) 0).map bv).toArray 213))[bA]? = some (Ye A):=fun o=>by
     rw[Array.getElem?_setIfInBounds,if_neg (by omega),Zs (by omega)];exact gA
    have hGW:∀o,((g.push o).setIfInBounds bw (.cells ((B++List.replicate (17-n) 0).map bv).toArray 213))[bw]? = some (.cells ((B++List.replicate (17-n) 0).map bv++[]).toArray 213):=fun o=>by
     rw[List.append_nil,hbw];exact ZQ Zb
    have hGB:∀o,Zg h.size h ((g.push o).setIfInBounds bw (.cells ((B++List.replicate (17-n) 0).map bv).toArray 213)):=fun o=>(hg.Yh ZkN _).Zm (by omega) _
    have hGS:∀o,((g.push o).setIfInBounds bw (.cells ((B++List.replicate (17-n) 0).map bv).toArray 213)).size=bw+1:=fun o=>by rw[Array.size_setIfInBounds,Array.size_push,hbw]
    rw[←hbw]
    specialize hGR (.cells ((List.replicate 17 0).map bv).toArray 213)
    specialize hGA (.cells ((List.replicate 17 0).map bv).toArray 213)
    specialize hGW (.cells ((List.replicate 17 0).map bv).toArray 213)
    specialize hGB (.cells ((List.replicate 17 0).map bv).toArray 213)
    specialize hGS (.cells ((List.replicate 17 0).map bv).toArray 213)
    obtain⟨G1,gO⟩:=ZA (((g.push (.cells ((List.replicate 17 0).map bv).toArray 213)).setIfInBounds bw (.cells ((B++List.replicate (17-n) 0).map bv).toArray 213)))
    rw[←gO]at hGR hGA hGW hGB hGS ⊢
    clear gO
    have c1:Jh G1 ⟨bw,n,none⟩ (.int .u8 1)=_:=Z0 (f:=bv) hGW (i:=n) (by rw[Zc1];omega) 1 rfl
    rw[e17]at c1
    have hW2:=ZQ (o:=.cells ((Y7 B).map bv++[]).toArray 213) hGW
    have hR2:(G1.setIfInBounds bw (.cells ((Y7 B).map bv++[]).toArray 213))[bR]? = some (Ye R):=by rw[Array.getElem?_setIfInBounds,if_neg (by omega)];exact hGR
    have hA2:(G1.setIfInBounds bw (.cells ((Y7 B).map bv++[]).toArray 213))[bA]? = some (Ye A):=by rw[Array.getElem?_setIfInBounds,if_neg (by omega)];exact hGA
    have To:Zg h.size h (G1.setIfInBounds bw (.cells ((Y7 B).map bv++[]).toArray 213)):=hGB.Zm (by omega) _
    have hS2:(G1.setIfInBounds bw (.cells ((Y7 B).map bv++[]).toArray 213)).size=bw+1:=by rw[Array.size_setIfInBounds,hGS]
    obtain⟨G2,ar⟩:=ZA (G1.setIfInBounds bw (.cells ((Y7 B).map bv++[]).toArray 213))
    rw[←ar]at c1 hW2 hR2 hA2 To hS2
    clear ar hGR hGA hGW hGB hGS
    have l17:=Gm (l:=B) (by omega)
    have w17:=kP Zc0
    have o17:Z1 h.size 213 G2 (.slice (some ⟨bw,0,none⟩) 17 17) (Y7 B):=
     ⟨.inr ⟨bw,17,[],by omega,by rw[l17],hW2,by simp,by rw[l17];rfl,by omega⟩,w17⟩
    have s17:=Sp o17.bs (m:=16) (by omega) 17
    have t17:((Y7 B).take 16).length=16:=by rw[List.length_take];omega
    have g16:=ZK hW2 (i:=16) (by omega)
    unfold bv at g16
    have xS:=dU (l:=B) (by omega)
    have NV:=dS (l:=B) (by omega)
    have wt:=Sr (l:=(Y7 B).take 16) (fun x hx=>w17 x (List.mem_of_mem_take hx)) t17
    obtain⟨top,ew⟩:=ZA ((Y7 B).getD 16 0)
    rw[←ew]at g16 xS NV
    have em:((top:Nat):Int)%18446744073709551616=(top:Nat):=by omega
    simp -implicitDefEqProofs only[go_sem,↓reduceIte,f0,f1,f10,f11,ZkM,Int.toNat_natCast,Zc1,c1]
    refine VS.w (bw+1) [] (.q 0 (.q 1 (.q 2 (.q 3 (.q 5 (.s 4 .nil)))))) mixed (by kernel_rfl) ?_
    simp -implicitDefEqProofs only[go_sem,↓reduceIte,g16,em]
    refine (Oy T _ _ ((Y7 B).take 16) top s17 t17 xS).use ?_
    rintro _ G3 ⟨rfl,b3⟩
    rw[hS2]at b3
    have hR3:=b3.get (k:=bR) (by omega) hR2
    have hA3:=b3.get (k:=bA) (by omega) hA2
    have hB3:Zg h.size h G3:=To.trans (b3.mono (by omega))
    have hxv:=LB (t:=top) wt
    rw[NV]at hxv
    have GV:=Gl (t:=top) wt xS
    have hxn:=TS (YW ((Y7 B).take 16)) top
    obtain⟨X,hX⟩:=ZA (Gb (YW ((Y7 B).take 16)) top)
    rw[←hX]at hxv GV hxn ⊢
    rw[←jI]at hxv
    have b3T:Zg (bw+1) G2 G3=True:=eq_true b3
    simp -implicitDefEqProofs only[go_sem,↓reduceIte,b3T]
    refine VS.ZW (fun F g=>F 0=.slice p key.length c∧F 1=.slice q rest.length d∧F 10=.pointer (some ⟨bR,0,none⟩)∧F 11=.pointer (some ⟨bA,0,none⟩)∧F 66=.agg (X.map uv).toArray∧∃i:Nat,i≤5∧F 67=.int .i64 i∧g=G3.setIfInBounds bA (Ye (Vm A X i)))
     (fun F _=>5-(vi (F 67)).toNat) rfl ⟨f0,f1,f10,f11,rfl,0,by omega,rfl,(Q0 hA3).symm⟩ ?_
    clear f0 f1 f10 f11 F gR gA hg
    rintro F g' ⟨f0,f1,f10,f11,f66,i,hi,f67,rfl⟩
    have DK:(G3.setIfInBounds bA (Ye (Vm A X i)))[bA]? = some (Ye (Vm A X i)):=ZQ hA3
    have lN:(Vm A X i).length=5:=by rw[No,xQ]
    have wN:=aE Tb GV (by omega) (by omega) i
    by_cases C6:i<5
    ·have kj:(i:Int)<5:=by omega
     have hnx:Vm A X (i+1)=(Vm A X i).set i ((Vm A X i).getD i 0+X.getD i 0):=rfl
     obtain⟨r,hr⟩:=ZA (Vm A X i)
     rw[←hr]at DK lN wN hnx ⊢
     obtain⟨G,hG⟩:=ZA (G3.setIfInBounds bA (Ye r))
     rw[←hG]at DK ⊢
     have n1:=Gf (l:=X) (i:=i) (by omega)
     have g1:=ZK DK (i:=i) (by omega)
     unfold uv at g1
     have y1:=wN.getD (by omega) i
     have y2:=GV.getD (by omega) i
     obtain⟨a,ha⟩:=ZA (r.getD i 0)
     obtain⟨b,hb⟩:=ZA (X.getD i 0)
     rw[←ha]at g1 y1 hnx
     rw[←hb]at n1 y2 hnx
     have e1:(a:Int)+(b:Int)=((a+b:Nat):Int):=rfl
     have e2:((a+b:Nat):Int)%18446744073709551616=((a+b:Nat):Int):=by omega
     have c2:Jh G ⟨bA,i,none⟩ (.int .u64 (a+b:Nat))=_:=Z0 (f:=uv) DK (i:=i) (by omega) (a+b) rfl
     simp -implicitDefEqProofs only[go_sem,↓reduceIte,f0,f1,f10,f11,f66,f67,kj,Int.toNat_natCast,Nat.zero_add,n1,g1,e1,e2,c2]
     refine⟨⟨f0,f1,f10,f11,f66,i+1,C6,rfl,?_⟩,?_⟩
     ·rw[hG,set_set,hnx];rfl
     ·simp only[vi,Zl,↓reduceIte,f67];omega
    ·have qu:¬(i:Int)<5:=by omega
     obtain rfl:i=5:=by omega
     have c5:((5:Nat):Int)=5:=rfl
     rw[c5]at f67 qu
     obtain⟨wN5,vN5⟩:=kO xQ hxn Tb GV
     have hR4:(G3.setIfInBounds bA (Ye (Vm A X 5)))[bR]? = some (Ye R):=by rw[Array.getElem?_setIfInBounds,if_neg (by omega)];exact hR3
     have az:Zg h.size h (G3.setIfInBounds bA (Ye (Vm A X 5))):=hB3.Zm (by omega) _
     obtain⟨N,hN⟩:=ZA (Vm A X 5)
     rw[←hN]at DK lN wN5 vN5 hR4 az ⊢
     generalize G3.setIfInBounds bA (Ye N)=G4 at *
     have r1:=TN lN DK
     have r2:=TN hrn hR4
     have lNm:(N.map uv).length=5:=by simpa using lN
     have tN:(N.map uv).take 5=N.map uv:=List.take_of_length_le (by omega)
     have tR:(R.map uv).take 5=R.map uv:=List.take_of_length_le (by omega)
     simp -implicitDefEqProofs only[go_sem,↓reduceIte,f0,f1,f10,f11,f66,f67,qu,r1,r2]
     refine (Eh T G4 N R lN hrn wN5 nX).use ?_
     rintro _ G5 ⟨rfl,b5⟩
     obtain⟨w1,w2,w3⟩:=IL lN hrn wN5 nX
     obtain⟨m1,m2,m3,_⟩:=So w2 w1
     obtain⟨M,hM⟩:=ZA (Y4 (Uw N R 5))
     rw[←hM]at m1 m2 m3 ⊢
     have hA5:=b5.get (Za DK) DK
     have hR5:=b5.get (Za hR4) hR4
     have hB5:Zg h.size h G5:=az.trans (b5.mono az.size)
     have lM:(M.map uv).length=5:=by simpa using m1
     have hoM:(M.map uv).all Z8=true:=by simp[uv,Z8]
     have w5:=ZR (h:=G5) (b:=bA) (l:=(N.map uv)) (by unfold Ye at hA5;rw[List.append_nil]at hA5;exact hA5) 0 (M.map uv)
     rw[if_pos ⟨by simp[lM,lNm],hoM⟩,ZO (by simp[lM,lNm])]at w5
     have Qk:(rest.length:Int)≤d:=by omega
     obtain⟨mn,hmn⟩:=ZA (min 16 rest.length)
     have kA:(if (rest.length:Int)<16 then (rest.length:Int) else 16)=((mn:Nat):Int):=by split<;>omega
     have ZkT:(mn:Int)≤rest.length:=by omega
     have Zc5:rest.drop mn=data.drop (16*(k+1)):=by
      rw[YH]
      by_cases hc:rest.length≤16
      ·rw[List.drop_of_length_le (by omega),List.drop_of_length_le (by omega)]
      ·rw[hmn,Nat.min_eq_left (by omega)]
     have s2:=Sk s1 rfl (k:=mn) (by omega) kS (d-mn)
     rw[Zc5]at s2
     have Zc6:Yl M%Vl=kJ (YW (XS key)) data (k+1):=by
      rw[m3,w3,vN5,hxv,hrv,kJ,←Ep,Nat.mul_mod,←Nat.mod_add_mod,←Nat.mul_mod]
     simp -implicitDefEqProofs only[go_sem,↓reduceIte,f0,f1,f10,f11,w5,lM,kA,ZkT,Int.toNat_natCast,QF]
     refine⟨⟨f0,f10,f11,hB5.Zm (by omega) _,?_,k+1,M,by omega,s2,?_,?_,m1,m2,Zc6⟩,?_⟩
     ·rw[Array.getElem?_setIfInBounds,if_neg (by omega)];exact hR5
     ·show rest.length-mn≤d-mn;omega
     ·have:=ZQ (o:=.cells (M.map uv).toArray 211) hA5
      unfold Ye;rw[List.append_nil];exact this
     ·show rest.length-mn<rest.length;omega
   ·have Zc7:¬(0:Int)<((data.drop (16*k)).length:Int):=by omega
    have hk2:k=(data.length+15)/16:=by omega
    rw[hk2]at Ep
    obtain⟨rest,LD⟩:=ZA (data.drop (16*k))
    rw[←LD]at f1 Zc7
    have r1:=TN xQ gA
    have tA:(A.map uv).take 5=A.map uv:=List.take_of_length_le (by simp[xQ])
    simp -implicitDefEqProofs only[go_sem,↓reduceIte,f0,f1,f10,f11,Zc7,r1]
    refine (Ei T g A xQ (Tb.mono (by decide))).use ?_
    rintro _ g6 ⟨rfl,b6⟩
    obtain⟨m1,m2,m3,m4⟩:=So xQ (Tb.mono (by decide))
    obtain⟨q1,q2,q3⟩:=dL m1 m2 m4
    rw[m3,Ep]at q3
    obtain⟨M,hM⟩:=ZA (TM (Y4 A))
    rw[←hM]at q1 q2 q3 ⊢
    have hA6:=b6.get (Za gA) gA
    have hB6:Zg h.size h g6:=hg.trans (b6.mono hg.size)
    have lM:(M.map uv).length=5:=by simpa using q1
    have lAm:(A.map uv).length=5:=by simpa using xQ
    have hoM:(M.map uv).all Z8=true:=by simp[uv,Z8]
    have w5:=ZR (h:=g6) (b:=bA) (l:=(A.map uv)) (by unfold Ye at hA6;rw[List.append_nil]at hA6;exact hA6) 0 (M.map uv)
    rw[if_pos ⟨by simp[lM,lAm],hoM⟩,ZO (by simp[lM,lAm])]at w5
    have hB7:Zg h.size h (g6.setIfInBounds bA (.cells (M.map uv).toArray 211)):=hB6.Zm (by omega) _
    have hA7:(g6.setIfInBounds bA (.cells (M.map uv).toArray 211))[bA]? = some (Ye M):=by
     have:=ZQ (o:=.cells (M.map uv).toArray 211) hA6
     unfold Ye;rw[List.append_nil];exact this
    obtain⟨g7,hg7⟩:=ZA (g6.setIfInBounds bA (.cells (M.map uv).toArray 211))
    rw[←hg7]at w5 hB7 hA7
    clear hg7
    have sm:Bs g7 (.slice (C2 p 1 c 16) 16 (c-16)) ((key.drop 16).take 16):=xN (sk.Z9 hB7) rfl (by omega) ck _
    have xV:((key.drop 16).take 16).length=16:=by rw[List.length_take,List.length_drop];omega
    have u2:(32:Int)≤c:=by omega
    have wkl:Dg ((key.drop 16).take 16):=fun x hx=>wk x (List.mem_of_mem_drop (List.mem_of_mem_take hx))
    simp -implicitDefEqProofs only[go_sem,↓reduceIte,f0,f1,f10,f11,w5,lM,u2,QF]
    refine (Oy T _ _ _ 0 sm xV (by omega)).use ?_
    rintro _ g8 ⟨rfl,b8⟩
    have hSv:=LB (t:=0) (Sr wkl xV)
    rw[Nat.mul_zero,Nat.add_zero]at hSv
    have hSl:=Gl (t:=0) (Sr wkl xV) (by omega)
    have hSn:=TS (YW ((key.drop 16).take 16)) 0
    obtain⟨S,hS⟩:=ZA (Gb (YW ((key.drop 16).take 16)) 0)
    rw[←hS]at hSv hSl hSn ⊢
    clear hS
    have hA8:=b8.get (Za hA7) hA7
    have hB8:Zg h.size h g8:=hB7.trans (b8.mono hB7.size)
    have lS:(S.map uv).length=5:=by simpa using hSn
    have hoS:(S.map uv).all Z8=true:=by simp[uv,Z8]
    have lpS:Yn [Value.int .u64 0,.int .u64 0,.int .u64 0,.int .u64 0,.int .u64 0] 0 (S.map uv)=S.map uv:=ZO lS
    simp -implicitDefEqProofs only[go_sem,↓reduceIte,f0,f1,f10,f11,lS,hoS,lpS,xP]
    have T0:qC key data=Yl M+Yl S:=by rw[q3,hSv];rfl
    have hB9:Zg (g8.size+1) (g8.push (.cells (S.map uv).toArray 211)) ((g8.push (.cells (S.map uv).toArray 211)).push (.cells ((List.replicate 16 0).map bv).toArray 5)):=Zg.push (by simp) _
    have hS9:(g8.push (.cells (S.map uv).toArray 211))[g8.size]? = some (Ye S):=by rw[Zb];unfold Ye;rw[List.append_nil]
    have hA9:(g8.push (.cells (S.map uv).toArray 211))[bA]? = some (Ye M):=by rw[Zs (Za hA8)];exact hA8
    have hH9:Zg h.size h (g8.push (.cells (S.map uv).toArray 211)):=hB8.Yh hB8.size _
    have o9:Z1 (g8.size+1) 5 ((g8.push (.cells (S.map uv).toArray 211)).push (.cells ((List.replicate 16 0).map bv).toArray 5)) (.slice (some ⟨g8.size+1,0,none⟩) 0 16) []:=by
     refine⟨.inr ⟨g8.size+1,16,(List.replicate 16 0).map bv,Nat.le_refl _,rfl,?_,rfl,by simp,Nat.zero_le _⟩,fun x hx=>by cases hx⟩
     have:=Zb (h:=g8.push (.cells (S.map uv).toArray 211)) (o:=.cells ((List.replicate 16 0).map bv).toArray 5)
     rw[Array.size_push]at this
     exact this
    have ZkZ:=Za hA8
    have Zc8:=hB8.size
    have hz9:(g8.push (.cells (S.map uv).toArray 211)).size=g8.size+1:=by simp
    obtain⟨bS,hbS⟩:∃b,b=g8.size:=⟨_,rfl⟩
    rw[←hbS]at hB9 hS9 o9 ZkZ Zc8 hz9 ⊢
    obtain⟨J,hJ⟩:=ZA (g8.push (.cells (S.map uv).toArray 211))
    rw[←hJ]at hB9 hS9 hA9 hH9 o9 hz9 ⊢
    clear hJ
    refine VS.ZW (fun F g=>F 11=.pointer (some ⟨bA,0,none⟩)∧F 16=.pointer (some ⟨bS,0,none⟩)∧Zg (bS+1) J g∧∃(i n sum bits:Nat) (out:List Nat),i≤5∧F 87=.int .i64 i∧F 18=.int .u64 sum∧F 19=.int .u64 bits∧F 20=.int .i64 n∧Z1 (bS+1) 5 g (F 17) out∧out.length=n∧bits<8∧26*i=8*n+bits∧sum<8*2 ^ bits∧qC key data=YW out+256 ^ n*(sum+2 ^ bits*Pz (M.drop i) (S.drop i)))
     (fun F _=>5-(vi (F 87)).toNat) rfl ⟨f11,rfl,hB9,0,0,0,0,[],by omega,rfl,rfl,rfl,rfl,o9,rfl,by omega,by omega,by omega,by rw[T0,List.drop_zero,List.drop_zero,Eo _ _ (by omega)];simp[YW]⟩ ?_
    clear f0 f1 f10 f11 F hB9 o9
    rintro F g' ⟨f11,f16,Er,i,n,sum,bits,out,hi,f87,f18,f19,f20,ho,xW,hb8,xX,ey,hT⟩
    have gA':=Er.get (k:=bA) (by omega) hA9
    have gS':=Er.get (k:=bS) (by omega) hS9
    have Zda:=Er.size
    by_cases ZC:i<5
    ·have ZL:(i:Int)<5:=by omega
     rw[BC (by omega) (by omega)]at hT
     have g1:=ZK gA' (i:=i) (by omega)
     have g2:=ZK gS' (i:=i) (by omega)
     unfold uv at g1 g2
     have y1:=q2.getD (by omega) i
     have y2:=hSl.getD (by omega) i
     obtain⟨a,ha⟩:=ZA (M.getD i 0)
     obtain⟨b,hb⟩:=ZA (S.getD i 0)
     rw[←ha]at g1 y1 hT
     rw[←hb]at g2 y2 hT
     have hT2:=qI hT
     have Es:=ej (c:=a+b) ey (by omega)
     have p8:=eh hb8
     have Ho:(a+b)*2 ^ bits≤268435455*128:=Nat.mul_le_mul (by omega) p8
     have Zk1:sum<1024:=by omega
     have e1:(a:Int)+(b:Int)=((a+b:Nat):Int):=rfl
     have e2:((a+b:Nat):Int)%18446744073709551616=((a+b:Nat):Int):=by omega
     have e3:Yx .u64 ((a+b:Nat):Int) (bits:Int)=(((a+b)*2 ^ bits:Nat):Int):=by
      rw[Mu _ _ (by omega),Nat.mod_eq_of_lt (by omega)]
     obtain⟨cc,nY⟩:=ZA ((a+b)*2 ^ bits)
     rw[←nY]at e3 Ho hT2 Es
     have e4:(sum:Int)+(cc:Int)=((sum+cc:Nat):Int):=rfl
     have e5:((sum+cc:Nat):Int)%18446744073709551616=((sum+cc:Nat):Int):=by omega
     have e6:(bits:Int)+26=((bits+26:Nat):Int):=rfl
     have e7:((bits+26:Nat):Int)%18446744073709551616=((bits+26:Nat):Int):=by omega
     have e8:¬(bits:Int)<0:=by omega
     simp -implicitDefEqProofs only[go_sem,↓reduceIte,f11,f16,f18,f19,f20,f87,ZL]
     refine VS.q mixed (by kernel_rfl) ?_
     simp -implicitDefEqProofs only[go_sem,↓reduceIte,f11,f16,f18,f19,f20,f87,ZL,Int.toNat_natCast,Nat.zero_add,g1,g2,e1,e2,e3,e4,e5,e6,e7,e8]
     refine VS.ZW (fun F g=>F 11=.pointer (some ⟨bA,0,none⟩)∧F 16=.pointer (some ⟨bS,0,none⟩)∧F 87=.int .i64 i∧Zg (bS+1) J g∧∃(n sum bits:Nat) (out:List Nat),F 18=.int .u64 sum∧F 19=.int .u64 bits∧F 20=.int .i64 n∧Z1 (bS+1) 5 g (F 17) out∧out.length=n∧bits<34∧26*(i+1)=8*n+bits∧sum<8*2 ^ bits∧qC key data=YW out+256 ^ n*(sum+2 ^ bits*Pz (M.drop (i+1)) (S.drop (i+1))))
      (fun F _=>(vi (F 19)).toNat) rfl ⟨f11,f16,f87,Er,n,sum+cc,bits+26,out,rfl,rfl,f20,ho,xW,by omega,by omega,Es,hT2⟩ ?_
     clear f11 f16 f18 f19 f20 f87 ho xW hT hT2 ey Es xX hb8 Er gA' gS' Zda g1 g2 e3 e4 e5 e6 e7 e8 p8 Ho nY Zk1 F cc
     clear n sum bits out g'
     rintro F g' ⟨f11,f16,f87,Er,n,sum,bits,out,f18,f19,f20,ho,xW,hb8,xX,ey,hT⟩
     have Zda:=Er.size
     by_cases hb:8≤bits
     ·have Hy:(8:Int)≤bits:=by omega
      have hn1:(n:Int)<16:=by omega
      have Es:=eu ey hb
      have hT2:=kR hb hT
      have hp:2 ^ bits≤2 ^ 34:=Nat.pow_le_pow_right (by decide) (by omega)
      have OQ:sum<18446744073709551616:=Nat.lt_of_lt_of_le ey (Nat.le_trans (Nat.mul_le_mul_left 8 hp) (by decide))
      have em:((sum:Nat):Int)%256=((sum%256:Nat):Int):=rfl
      have es:Xa .u64 (sum:Int) 8=((sum/256:Nat):Int):=Sn sum 8 (by decide)
      have eb:(bits:Int)-8=((bits-8:Nat):Int):=by omega
      have eb2:((bits-8:Nat):Int)%18446744073709551616=((bits-8:Nat):Int):=by omega
      simp -implicitDefEqProofs only[go_sem,↓reduceIte,f11,f16,f18,f19,f20,f87,Hy,hn1,em]
      have hX:sum%256<256:=by omega
      refine Zw (E:=5) (B:=bS+1) Yu Tryz.underlying34 Wm Vf Ve (ho.push _) (by simp;omega) (Bs.one hX 1) (by simp;omega) ?_
      intro v' h' Rd XZ _
      simp -implicitDefEqProofs only[go_sem,↓reduceIte,f11,f16,f18,f19,f20,f87,es,eb,eb2]
      refine⟨⟨f11,f16,f87,(Er.Yh (by omega) _).trans XZ,n+1,sum/256,bits-8,out++[sum%256],rfl,rfl,rfl,Rd,by simp[xW],by omega,by omega,Es,?_⟩,?_⟩
      ·rw[hT2,BD,xW]
      ·simp only[vi,Zl,↓reduceIte,Nat.reduceEqDiff,f19];omega
     ·have Hy:¬(8:Int)≤bits:=by omega
      have e9:(i:Int)+1=((i+1:Nat):Int):=rfl
      simp -implicitDefEqProofs only[go_sem,↓reduceIte,f11,f16,f18,f19,f20,f87,Hy,e9]
      refine⟨⟨f11,f16,Er,i+1,n,sum,bits,out,ZC,rfl,f18,f19,f20,ho,xW,by omega,xX,ey,hT⟩,?_⟩
      simp only[vi,Zl,↓reduceIte,f87];omega
    ·have YF:¬(i:Int)<5:=by omega
     obtain rfl:i=5:=by omega
     have c5:((5:Nat):Int)=5:=rfl
     rw[c5]at f87 YF
     obtain rfl:n=16:=by omega
     have e0:Pz (M.drop 5) (S.drop 5)=0:=by rw[List.drop_of_length_le (by omega),List.drop_of_length_le (by omega)];rfl
     rw[e0,Nat.mul_zero,Nat.add_zero]at hT
     have Bw:=dW ho.byte xW hT
     have htl:Br key data=out:=Bw.symm
     simp -implicitDefEqProofs only[go_sem,↓reduceIte,f11,f16,f18,f19,f20,f87,YF]
     rw[htl]
     exact⟨ho.mono (by omega),hH9.trans (Er.mono (by omega))⟩
theorem Et (T:World) (h:Hp) (v u:Value) (key data:List Nat) (sk:Bs h v key) (sd:Bs h u data) (ck:VF v) (cu:VF u) :
  Zc Tryz.prog T 88 #[v,u] h fun v' h'=>kK h.size h' v' key data∧Zg h.size h h':=by
 obtain⟨p,c,rfl,hkc⟩:=sk.open
 obtain⟨q,d,rfl,hdc⟩:=sd.open
 refine Zc.Zi (args:=[_,_]) Tryz.func88 rfl rfl rfl rfl ?_
 unfold kK
 by_cases hk:key.length=32
 ·by_cases hd:4000<data.length
  ·have hd':4000<(data.length:Int):=by omega
   have RX:(key.length:Int)=32:=by omega
   have e:WK key data=1:=by unfold WK;rw[if_pos (.inr hd)]
   rw[e]
   simp -implicitDefEqProofs only[go_sem,↓reduceIte,hd',RX]
   exact⟨_,rfl,Z1.nil _ _ _⟩
  ·have hd':¬4000<(data.length:Int):=by omega
   have RX:(key.length:Int)=32:=by omega
   have e:WK key data=0:=by unfold WK;rw[if_neg (by omega)]
   rw[e,if_pos rfl]
   simp -implicitDefEqProofs only[go_sem,↓reduceIte,hd',RX]
   refine (BE T _ _ _ key data sk sd hk (by omega) ck cu).use ?_
   rintro v1 h1 ⟨o1,b1⟩
   simp -implicitDefEqProofs only[go_sem,↓reduceIte]
   exact⟨⟨_,rfl,o1⟩,b1⟩
 ·have RX:¬(key.length:Int)=32:=by omega
  have e:WK key data=1:=by unfold WK;rw[if_pos (.inl hk)]
  rw[e]
  simp -implicitDefEqProofs only[go_sem,↓reduceIte,RX]
  exact⟨_,rfl,Z1.nil _ _ _⟩
end Go.Proofs.YtkfhncfkagcamaaGreatDoor
