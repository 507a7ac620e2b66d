/- The program's clamped key, its blocks' numbers and its last bytes, in plain numbers; no condition but those in the statements. -/
import Derived.Test.YtnhbpmoeaodmnaaGreatDoorPik
import Derived.Test.YtnhbpmoeaodmnaaGreatDoorW14
namespace Go.Proofs.YtnhbpmoeaodmnaaGreatDoor
open Go Go.V
set_option linter.unusedSimpArgs false
set_option linter.unusedVariables false
set_option maxRecDepth 100000
def clA (l:List Nat):Nat→List Nat
 | 0=>l
 | i+1=>(clA l i).set (4*i+3) ((clA l i).getD (4*i+3) 0%16)
def clB (l:List Nat):Nat→List Nat
 | 0=>l
 | i+1=>(clB l i).set (4*i+4) ((clB l i).getD (4*i+4) 0/4*4)
theorem ZgG (l:List Nat):∀i,(clA l i).length=l.length
 | 0=>rfl
 | i+1=>by rw[clA,List.length_set,ZgG l i]
theorem ZgH (l:List Nat):∀i,(clB l i).length=l.length
 | 0=>rfl
 | i+1=>by rw[clB,List.length_set,ZgH l i]
theorem Zne {l:List Nat} (w:Dg l):∀i,Dg (clA l i)
 | 0=>w
 | i+1=>(Zne w i).set _ (by have:=(Zne w i).getD (4*i+3);omega)
theorem Znf {l:List Nat} (w:Dg l):∀i,Dg (clB l i)
 | 0=>w
 | i+1=>(Znf w i).set _ (by have:=(Znf w i).getD (4*i+4);omega)
theorem ZvF {l:List Nat} (hl:l.length=16):clB (clA l 4) 3=XX l:=by
 match l,hl with
 | [a0,a1,a2,a3,a4,a5,a6,a7,a8,a9,a10,a11,a12,a13,a14,a15],_=>rfl
theorem ZkR (key:List Nat):XX key=XX (key.take 16):=by
 unfold XX
 apply List.map_congr_left
 intro i hi
 have hi':i<16:=by simpa using hi
 have e:(key.take 16).getD i 0=key.getD i 0:=by
  rw[List.getD_eq_getElem?_getD,List.getElem?_take,if_pos hi',List.getD_eq_getElem?_getD]
 unfold ZsU
 rw[e]
theorem Zp8 {key:List Nat} (hk:key.length=32):clB (clA (key.take 16) 4) 3=XX key:=by
 rw[ZkR];exact ZvF (by rw[List.length_take];omega)
theorem Zcr {l:List Nat} (w:Dg l) (hl:l.length=16):Y1 l<340282366920938463463374607431768211456:=by
 have:=US w (n:=16) (by omega)
 exact this
theorem Zb4 (n t:Nat):(Zjh n t).length=5:=rfl
theorem Zjp {n t:Nat} (hn:n<340282366920938463463374607431768211456) (ht:t≤1):Yg 67108864 (Zjh n t):=
 Yg.Zfu (by omega) (by omega) (by omega) (by omega) (by omega)
theorem ZgI {n t:Nat} (hn:n<340282366920938463463374607431768211456):Ym (Zjh n t)=n+340282366920938463463374607431768211456*t:=by
 simp only[Zjh,Ym];omega
def Za1 (a x:List Nat):Nat→List Nat
 | 0=>a
 | i+1=>(Za1 a x i).set i ((Za1 a x i).getD i 0+x.getD i 0)
theorem Ze5 (a x:List Nat):∀i,(Za1 a x i).length=a.length
 | 0=>rfl
 | i+1=>by rw[Za1,List.length_set,Ze5 a x i]
theorem Zou {a x:List Nat} {K L:Nat} (wa:Yg K a) (wx:Yg L x) (hK:0<K) (hL:0<L):∀i,Yg (K+i*L) (Za1 a x i)
 | 0=>by rw[Nat.zero_mul];exact wa
 | i+1=>by
  have h:=Zou wa wx hK hL i
  have q1:=h.getD (by omega) i
  have q2:=wx.getD hL i
  rw[Za1,Nat.add_mul,Nat.one_mul]
  exact (h.mono (by omega)).set _ _ (by omega)
theorem ZsZ {a x:List Nat} (ha:a.length=5) (hx:x.length=5) (wa:Yg 134217728 a) (wx:Yg 67108864 x):Yg 268435456 (Za1 a x 5)∧Ym (Za1 a x 5)=Ym a+Ym x:=by
 obtain⟨a0,a1,a2,a3,a4,rfl⟩:=Zfu ha
 obtain⟨x0,x1,x2,x3,x4,rfl⟩:=Zfu hx
 obtain⟨w0,w1,w2,w3,w4⟩:=wa.ZvB
 obtain⟨u0,u1,u2,u3,u4⟩:=wx.ZvB
 have e:Za1 [a0,a1,a2,a3,a4] [x0,x1,x2,x3,x4] 5=[a0+x0,a1+x1,a2+x2,a3+x3,a4+x4]:=rfl
 rw[e]
 exact⟨Yg.Zfu (by omega) (by omega) (by omega) (by omega) (by omega),by simp only[Ym];omega⟩
theorem ZgJ (a b:List Nat):Y1 (a++b)=Y1 a+256 ^ a.length*Y1 b:=by
 induction a with
 | nil=>simp[Y1]
 | cons x a ih=>simp only[List.cons_append,Y1,ih,List.length_cons,Nat.pow_succ,Nat.mul_add,Nat.add_assoc];congr 2;rw[←Nat.mul_assoc,Nat.mul_comm 256]
theorem Zng (n:Nat):Y1 (List.replicate n 0)=0:=by
 induction n with
 | zero=>rfl
 | succ n ih=>rw[List.replicate_succ,Y1,ih]
def Xa (l:List Nat):List Nat:=l++[1]++List.replicate (16-l.length) 0
theorem Zjq {l:List Nat} (hl:l.length≤16):(Xa l).length=17:=by simp[Xa];omega
theorem Zp9 {l:List Nat} (hl:l.length≤16):Y1 ((Xa l).take 16)+340282366920938463463374607431768211456*(Xa l).getD 16 0=Y1 (l++[1]):=by
 by_cases h:l.length=16
 ·have e1:(Xa l).take 16=l:=by unfold Xa;rw[List.append_assoc,List.take_left' h]
  have e2:(Xa l).getD 16 0=1:=by
   unfold Xa
   rw[List.getD_eq_getElem?_getD,List.append_assoc,List.getElem?_append_right (by omega),h];rfl
  rw[e1,e2,ZgJ,h];rfl
 ·have e2:(Xa l).getD 16 0=0:=by
   unfold Xa
   rw[List.getD_eq_getElem?_getD,List.getElem?_append_right (by simp;omega),List.getElem?_replicate]
   split<;>rfl
  have e1:(Xa l).take 16=(l++[1])++List.replicate (15-l.length) 0:=by
   unfold Xa
   rw[List.take_append,List.take_of_length_le (by simp;omega),List.take_replicate]
   congr 2
   simp;omega
  rw[e1,e2,ZgJ,Zng];omega
theorem Zqa {l:List Nat} (hl:l.length≤16):(Xa l).getD 16 0≤1:=by
 by_cases h:l.length=16
 ·have e2:(Xa l).getD 16 0=1:=by
   unfold Xa
   rw[List.getD_eq_getElem?_getD,List.append_assoc,List.getElem?_append_right (by omega),h];rfl
  omega
 ·have e2:(Xa l).getD 16 0=0:=by
   unfold Xa
   rw[List.getD_eq_getElem?_getD,List.getElem?_append_right (by simp;omega),List.getElem?_replicate]
   split<;>rfl
  omega
theorem Zs0 {l:List Nat} (w:Dg l):Dg (Xa l):=by
 intro x hx
 unfold Xa at hx
 simp only[List.mem_append,List.mem_singleton,List.mem_replicate]at hx
 rcases hx with (h|h)|h
 ·exact w x h
 ·omega
 ·omega
theorem Zqb {l:List Nat} (hl:l.length≤16):(l++List.replicate (17-l.length) 0).set l.length 1=Xa l:=by
 have e:List.replicate (17-l.length) 0=0 :: List.replicate (16-l.length) 0:=by rw[←List.replicate_succ];congr 1;omega
 rw[e,List.set_append_right _ _ (Nat.le_refl _),Nat.sub_self,List.set_cons_zero]
 unfold Xa;rw[List.append_assoc];rfl
def ZdT:List Nat→List Nat→Nat
 | x :: l,y :: k=>(x+y)+67108864*ZdT l k
 | _,_=>0
theorem ZkS:∀(l k:List Nat),l.length=k.length→ZdT l k=Ym l+Ym k
 | [],[],_=>rfl
 | x :: l,y :: k,h=>by simp only[ZdT,Ym];rw[ZkS l k (by simpa using h)];omega
theorem Zqc {out:List Nat} {t R:Nat} (w:Dg out) (hl:out.length=16) (h:t=Y1 out+256 ^ 16*R):out=(List.range 16).map fun i=>t/256 ^ i%256:=by
 apply List.ext_getElem?
 intro i
 by_cases hi:i<16
 ·rw[List.getElem?_map,List.getElem?_range hi]
  have e:=Zm6 w i
  rw[List.getD_eq_getElem?_getD,List.getElem?_eq_getElem (by omega)]at e
  rw[List.getElem?_eq_getElem (by omega)]
  simp only[Option.map_some,Option.some.injEq]
  simp only[Option.getD_some]at e
  rw[e,h]
  have e2:256 ^ 16*R=256 ^ i*(256*(256 ^ (15-i)*R)):=by
   rw[←Nat.mul_assoc 256,←Nat.mul_assoc,←Nat.pow_succ',←Nat.pow_add]
   congr 2;omega
  rw[e2,Nat.add_mul_div_left _ _ (Nat.pow_pos (by omega)),Nat.add_mul_mod_self_left]
 ·rw[List.getElem?_eq_none (by omega),List.getElem?_eq_none (by simp;omega)]
theorem Zs1 {T v n s B R:Nat} (hB:256≤B) (hd:B%256=0) (h:T=v+n*(s+B*R)):T=v+n*(s%256)+n*256*(s/256+B/256*R):=by
 have e:s+B*R=s%256+256*(s/256+B/256*R):=by
  have e1:B=256*(B/256):=by omega
  have e2:B*R=256*(B/256*R):=by rw[←Nat.mul_assoc,←e1]
  have e3:=Nat.mod_add_div s 256
  rw[Nat.mul_add,e2];omega
 rw[h,e,Nat.mul_add,←Nat.mul_assoc,←Nat.add_assoc]
theorem Zqd {i:Nat} (hi:i<4):nth [Value.int .i64 3,.int .i64 7,.int .i64 11,.int .i64 15] i=some (.int .i64 ((4*i+3:Nat):Int)):=by
 match i,hi with
 | 0,_=>rfl
 | 1,_=>rfl
 | 2,_=>rfl
 | 3,_=>rfl
theorem Zqe {i:Nat} (hi:i<3):nth [Value.int .i64 4,.int .i64 8,.int .i64 12] i=some (.int .i64 ((4*i+4:Nat):Int)):=by
 match i,hi with
 | 0,_=>rfl
 | 1,_=>rfl
 | 2,_=>rfl
theorem ZAQ (x:Nat) (hx:x<256):Z7 .and .u8 (x:Int) 15=((x%16:Nat):Int):=by
 have h:=Zr9 x 15 hx (by decide)
 have e:x &&& 15=x%16:=Nat.and_two_pow_sub_one_eq_mod x 4
 rw[e]at h;exact h
theorem Zyb (x:Nat) (hx:x<256):Z7 .and .u8 (x:Int) 252=((x/4*4:Nat):Int):=by
 have h:=Zr9 x 252 hx (by decide)
 have e:x &&& 252=x/4*4:=by
  have:∀y:Fin 256,y.val &&& 252=y.val/4*4:=by decide
  exact this ⟨x,hx⟩
 rw[e]at h;exact h
def ZFZ:Value→Nat
 | .slice _ l _=>l
 | _=>0
theorem Zqf (n:Nat) (vs:List Nat) (h:vs.length≤n):Yq ((List.replicate n 0).map bv) 0 (vs.map bv)=(vs++List.replicate (n-vs.length) 0).map bv:=by
 rw[Qh _ _ (by simpa using h),List.length_map,←List.map_drop,List.drop_replicate,List.map_append]
theorem Znh {M S:List Nat} {i:Nat} (hM:i<M.length) (hS:i<S.length):ZdT (M.drop i) (S.drop i)=(M.getD i 0+S.getD i 0)+67108864*ZdT (M.drop (i+1)) (S.drop (i+1)):=by
 rw[List.drop_eq_getElem_cons hM,List.drop_eq_getElem_cons hS,ZdT,List.getD_eq_getElem?_getD,List.getD_eq_getElem?_getD,List.getElem?_eq_getElem hM,List.getElem?_eq_getElem hS];rfl
theorem ZvG {T v n s b c R:Nat} (h:T=v+n*(s+2 ^ b*(c+67108864*R))):T=v+n*(s+c*2 ^ b+2 ^ (b+26)*R):=by
 rw[h,Nat.mul_add (2 ^ b),Nat.mul_comm (2 ^ b) c,Nat.pow_add,←Nat.mul_assoc (2 ^ b),Nat.add_assoc]
theorem Zqg {b:Nat} (h:b<8):2 ^ b≤128:=by
 have:=Nat.pow_le_pow_right (show 0<2 by decide) (show b≤7 by omega)
 exact this
theorem Zqh {s c b:Nat} (hs:s<8*2 ^ b) (hc:c<268435456):s+c*2 ^ b<8*2 ^ (b+26):=by
 have h1:c*2 ^ b≤268435455*2 ^ b:=Nat.mul_le_mul_right _ (by omega)
 rw[Nat.pow_add]
 have:2 ^ 26=67108864:=rfl
 rw[this];omega
theorem Zqi {s b:Nat} (hs:s<8*2 ^ b) (hb:8≤b):s/256<8*2 ^ (b-8):=by
 have:2 ^ b=2 ^ (b-8)*256:=by
  have e:b=b-8+8:=by omega
  rw[e,Nat.pow_add,Nat.add_sub_cancel]
 rw[this]at hs;omega
theorem Zs2 {T v n s b R:Nat} (hb:8≤b) (h:T=v+256 ^ n*(s+2 ^ b*R)):T=v+256 ^ n*(s%256)+256 ^ (n+1)*(s/256+2 ^ (b-8)*R):=by
 have e:2 ^ b=2 ^ (b-8)*256:=by
  have e:b=b-8+8:=by omega
  rw[e,Nat.pow_add,Nat.add_sub_cancel]
 have hp:0<2 ^ (b-8):=Nat.pow_pos (by omega)
 have:=Zs1 (B:=2 ^ b) (by rw[e];omega) (by rw[e];omega) h
 rw[show 2 ^ b/256=2 ^ (b-8) by rw[e,Nat.mul_div_cancel _ (by omega)]]at this
 rw[Nat.pow_succ];exact this
theorem Zni (l:List Nat) (x:Nat):Y1 (l++[x])=Y1 l+256 ^ l.length*x:=by rw[ZgJ];rfl
theorem Zyc:(XP 16 [Value.int .u8 0])=(List.replicate 16 0).map bv:=rfl
set_option maxHeartbeats 2000000 in
theorem Znj (T:World) (h:Hp) (v u:Value) (key data:List Nat) (sk:Bs h v key) (sd:Bs h u data) (hk:key.length=32) (hd:data.length≤4000) (ck:Cap v) (cu:Cap u) :
  Zd Tryz.prog T 140 #[v,u] h fun v' h'=>ZZ h.size 5 h' v' (Zna key data)∧Zf h.size h h':=by
 have wk:=sk.byte
 have wd:=sd.byte
 obtain⟨p,c,rfl,hkc⟩:=sk.Up
 have ck:key.length≤c:=ck
 have l16:(key.take 16).length=16:=by rw[List.length_take];omega
 have s16:=Zcq sk (m:=16) (by omega) c
 have c16:(16:Int)≤c:=by omega
 refine Zd.Zi (args:=[_,_]) Tryz.func140 rfl rfl rfl rfl ?_
 simp -implicitDefEqProofs only[go_sem,↓reduceIte,c16]
 refine Zv (E:=5) (B:=h.size) Yx Tryz.underlying44 tn5 tz5 tb5 (ZZ.nil _ _ _) (Nat.le_refl _) (by rw[hk]at sk;simpa using s16) (by rw[l16];decide) ?_
 intro v1 h1 o1 b1 _
 rw[List.nil_append]at o1
 have o1n:=o1.own
 rcases o1n with⟨_,hm,_⟩|⟨bc,cap,spare,hbc,rfl,ZbE,XU,hsp,JO⟩
 ·omega
 obtain⟨L,hL⟩:=Zx (key.take 16)
 have wL:Dg L:=by rw[hL];exact fun x hx=>wk x (List.mem_of_mem_take hx)
 have ZAR:clB (clA L 4) 3=XX key:=by rw[hL];exact Zp8 hk
 rw[←hL]at l16 ZbE XU hsp JO ⊢
 clear o1 s16 hL
 have ZLE:=Za ZbE
 simp -implicitDefEqProofs only[go_sem,↓reduceIte]
 refine VS.ZW (fun F g=>F 0=.slice p key.length c∧F 1=u∧F 5=.slice (some ⟨bc,0,none⟩) L.length cap∧F 25=.agg #[.int .i64 3,.int .i64 7,.int .i64 11,.int .i64 15]∧∃i:Nat,i≤4∧F 26=.int .i64 i∧g=h1.setIfInBounds bc (.cells ((clA L i).map bv++spare).toArray 5))
  (fun F _=>4-(vi (F 26)).toNat) rfl ⟨rfl,rfl,rfl,rfl,0,by omega,rfl,(Uc ZbE).symm⟩ ?_
 rintro F g ⟨f0,f1,f5,f25,i,hi,f26,rfl⟩
 have hx:=ZP (o:=.cells ((clA L i).map bv++spare).toArray 5) ZbE
 have wA:=Zne wL i
 have lA:=ZgG L i
 by_cases ZD:i<4
 ·have ZL:(i:Int)<4:=by omega
  have YN:clA L (i+1)=(clA L i).set (4*i+3) ((clA L i).getD (4*i+3) 0%16):=rfl
  obtain⟨r,hr⟩:=Zx (clA L i)
  rw[←hr]at hx wA lA YN ⊢
  obtain⟨G,hG⟩:=Zx (h1.setIfInBounds bc (.cells (r.map bv++spare).toArray 5))
  rw[←hG]at hx ⊢
  have n1:=Zqd ZD
  have g1:=ZK hx (i:=4*i+3) (by omega)
  have x1:=wA.getD (4*i+3)
  unfold bv at g1
  obtain⟨x,hxx⟩:=Zx (r.getD (4*i+3) 0)
  rw[←hxx]at g1 x1 YN
  have e1:=ZAQ x x1
  have hi1:((4*i+3:Nat):Int)<L.length:=by omega
  have c1:Jp G ⟨bc,4*i+3,none⟩ (.int .u8 (x%16:Nat))=_:=ZY (f:=bv) hx (i:=4*i+3) (by omega) (x%16) rfl
  simp -implicitDefEqProofs only[go_sem,↓reduceIte,f0,f1,f5,f25,f26,ZL,Int.toNat_natCast,Nat.zero_add,n1,hi1,g1,e1,c1]
  refine⟨⟨f0,f1,f5,f25,i+1,ZD,rfl,?_⟩,?_⟩
  ·rw[hG,set_set,YN]
  ·simp only[vi,Zk,↓reduceIte,f26];omega
 ·have YK:¬(i:Int)<4:=by omega
  obtain rfl:i=4:=by omega
  have c4:((4:Nat):Int)=4:=rfl
  rw[c4]at f26 YK
  obtain⟨L2,hL2⟩:=Zx (clA L 4)
  rw[←hL2]at hx wA lA ZAR ⊢
  have B2:Zf h.size h (h1.setIfInBounds bc (.cells (L2.map bv++spare).toArray 5)):=b1.Zj hbc _
  generalize h1.setIfInBounds bc (.cells (L2.map bv++spare).toArray 5)=h2 at *
  clear hL2
  simp -implicitDefEqProofs only[go_sem,↓reduceIte,f0,f1,f5,f25,f26,YK]
  refine VS.ZW (fun F g=>F 0=.slice p key.length c∧F 1=u∧F 5=.slice (some ⟨bc,0,none⟩) L.length cap∧F 36=.agg #[.int .i64 4,.int .i64 8,.int .i64 12]∧∃i:Nat,i≤3∧F 37=.int .i64 i∧g=h2.setIfInBounds bc (.cells ((clB L2 i).map bv++spare).toArray 5))
   (fun F _=>3-(vi (F 37)).toNat) rfl ⟨f0,f1,f5,rfl,0,by omega,rfl,(Uc hx).symm⟩ ?_
  clear f0 f1 f5 f25 f26 YK F
  rintro F g ⟨f0,f1,f5,f36,i,hi,f37,rfl⟩
  have hx3:=ZP (o:=.cells ((clB L2 i).map bv++spare).toArray 5) hx
  have wB:=Znf wA i
  have lB:=ZgH L2 i
  by_cases ZD:i<3
  ·have ZL:(i:Int)<3:=by omega
   have YN:clB L2 (i+1)=(clB L2 i).set (4*i+4) ((clB L2 i).getD (4*i+4) 0/4*4):=rfl
   obtain⟨r,hr⟩:=Zx (clB L2 i)
   rw[←hr]at hx3 wB lB YN ⊢
   obtain⟨G,hG⟩:=Zx (h2.setIfInBounds bc (.cells (r.map bv++spare).toArray 5))
   rw[←hG]at hx3 ⊢
   have n1:=Zqe ZD
   have g1:=ZK hx3 (i:=4*i+4) (by omega)
   have x1:=wB.getD (4*i+4)
   unfold bv at g1
   obtain⟨x,hxx⟩:=Zx (r.getD (4*i+4) 0)
   rw[←hxx]at g1 x1 YN
   have e1:=Zyb x x1
   have hi1:((4*i+4:Nat):Int)<L.length:=by omega
   have c1:Jp G ⟨bc,4*i+4,none⟩ (.int .u8 (x/4*4:Nat))=_:=ZY (f:=bv) hx3 (i:=4*i+4) (by omega) (x/4*4) rfl
   simp -implicitDefEqProofs only[go_sem,↓reduceIte,f0,f1,f5,f36,f37,ZL,Int.toNat_natCast,Nat.zero_add,n1,hi1,g1,e1,c1]
   refine⟨⟨f0,f1,f5,f36,i+1,ZD,rfl,?_⟩,?_⟩
   ·rw[hG,set_set,YN]
   ·simp only[vi,Zk,↓reduceIte,f37];omega
  ·have YK:¬(i:Int)<3:=by omega
   obtain rfl:i=3:=by omega
   have c3:((3:Nat):Int)=3:=rfl
   rw[c3]at f37 YK
   rw[ZAR]at hx3 wB lB ⊢
   have B3:Zf h.size h (h2.setIfInBounds bc (.cells ((XX key).map bv++spare).toArray 5)):=B2.Zj hbc _
   generalize h2.setIfInBounds bc (.cells ((XX key).map bv++spare).toArray 5)=h3 at *
   have ZvH:=ZhK key
   have oc:ZZ h.size 5 h3 (.slice (some ⟨bc,0,none⟩) L.length cap) (XX key):=
    ⟨.inr ⟨bc,cap,spare,hbc,by rw[l16,ZvH],hx3,by simp,by rw[hsp,l16,ZvH],by omega⟩,wB⟩
   simp -implicitDefEqProofs only[go_sem,↓reduceIte,f0,f1,f5,f36,f37,YK]
   refine (Zev T _ _ (XX key) 0 oc.bs ZvH (by omega)).use ?_
   rintro _ h4 ⟨rfl,b4⟩
   have B4:Zf h.size h h4:=B3.trans (b4.mono B3.size)
   have hR:=Zcr wB ZvH
   have hrv:Ym (Zjh (Y1 (XX key)) 0)=Y1 (XX key):=by rw[ZgI hR,Nat.mul_zero,Nat.add_zero]
   have hrl:=Zjp (t:=0) hR (by omega)
   have hrn:=Zb4 (Y1 (XX key)) 0
   obtain⟨R,hRR⟩:=Zx (Zjh (Y1 (XX key)) 0)
   rw[←hRR]at hrv hrl hrn ⊢
   have lR:(R.map uv).length=5:=by simpa using hrn
   have hoR:(R.map uv).all Z8=true:=by simp[uv,Z8]
   have lp:Yq [Value.int .u64 0,.int .u64 0,.int .u64 0,.int .u64 0,.int .u64 0] 0 (R.map uv)=R.map uv:=ZN lR
   simp -implicitDefEqProofs only[go_sem,↓reduceIte,f0,f1,f5,f36,f37,lR,hoR,lp]
   obtain⟨bR,hbR⟩:∃b,b=h4.size:=⟨_,rfl⟩
   obtain⟨bA,hbA⟩:∃b,b=h4.size+1:=⟨_,rfl⟩
   obtain⟨H,hH⟩:=Zx (((h4.push (.cells (R.map uv).toArray 236)).push (.cells #[.int .u64 0,.int .u64 0,.int .u64 0,.int .u64 0,.int .u64 0] 236)):Hp)
   have HB:Zf h.size h H:=by rw[hH];exact (B4.Ye B4.size _).Ye (by have:=B4.size;simp;omega) _
   have HR:H[bR]? = some (Yc R):=by
    rw[hH,hbR,Zq (by simp),Zb];unfold Yc;rw[List.append_nil]
   have HA:H[bA]? = some (Yc [0,0,0,0,0]):=by
    have:=Zb (h:=(h4.push (.cells (R.map uv).toArray 236))) (o:=.cells #[.int .u64 0,.int .u64 0,.int .u64 0,.int .u64 0,.int .u64 0] 236)
    rw[Array.size_push]at this
    rw[hH,hbA,this];rfl
   have ZAS:h.size≤bR:=by have:=B4.size;omega
   rw[←hH,←hbA,←hbR]
   have ZLF:bA=bR+1:=by omega
   clear hH hbA hbR
   have sd0:Bs h (F 1) (data.drop (16*0)):=by rw[f1];exact sd
   have cu0:Cap (F 1):=by rw[f1];exact cu
   refine VS.ZW (fun F g=>F 0=.slice p key.length c∧F 10=.pointer (some ⟨bR,0,none⟩)∧F 11=.pointer (some ⟨bA,0,none⟩)∧Zf h.size h g∧g[bR]? = some (Yc R)∧∃(k:Nat) (A:List Nat),16*k<data.length+16∧Bs h (F 1) (data.drop (16*k))∧Cap (F 1)∧g[bA]? = some (Yc A)∧A.length=5∧Yg 134217728 A∧Ym A%Za0=ZsV (Y1 (XX key)) data k)
    (fun F _=>ZFZ (F 1)) rfl ⟨f0,rfl,rfl,HB,HR,0,[0,0,0,0,0],by omega,sd0,cu0,HA,rfl,Yg.Zfu (by omega) (by omega) (by omega) (by omega) (by omega),rfl⟩ ?_
   clear f0 f1 f5 f36 f37 YK sd0 cu0 F HB HR HA H
   rintro F g ⟨f0,f10,f11,hg,gR,k,A,ZLG,s1,Zs3,gA,lA5,wA5,JR⟩
   obtain⟨q,d,f1,hqc⟩:=s1.open
   rw[f1]at s1 Zs3
   have Zs3:(data.drop (16*k)).length≤d:=Zs3
   have ZF0:(data.drop (16*k)).length=data.length-16*k:=List.length_drop
   by_cases ZD:16*k<data.length
   ·have hgt:(0:Int)<((data.drop (16*k)).length:Int):=by omega
    obtain⟨rest,ZgK⟩:=Zx (data.drop (16*k))
    have Zsh:ZAK data k=rest.take 16++[1]:=by rw[ZgK];rfl
    have YN:data.drop (16*(k+1))=rest.drop 16:=by rw[ZgK,List.drop_drop];congr 1
    have ZAT:Dg rest:=by rw[ZgK];exact fun x hx=>wd x (List.mem_of_mem_drop hx)
    rw[←ZgK]at f1 s1 Zs3 hqc hgt ZF0
    clear ZgK
    have z17:(#[Value.int .u8 0,.int .u8 0,.int .u8 0,.int .u8 0,.int .u8 0,.int .u8 0,.int .u8 0,.int .u8 0,.int .u8 0,.int .u8 0,.int .u8 0,.int .u8 0,.int .u8 0,.int .u8 0,.int .u8 0,.int .u8 0,.int .u8 0]:Array Value)=((List.replicate 17 0).map bv).toArray:=rfl
    simp -implicitDefEqProofs only[go_sem,↓reduceIte,f0,f1,f10,f11,hgt,z17]
    have Xf:=Zbj rest
    refine Zgi (E:=5) (E':=238) (c:=(List.replicate 17 0).map bv) Yx tn5 Zb ((s1.Z9 hg).Z9 (Zf.push (Nat.le_refl _) _)).sl Xf (by simp;omega) ?_
    obtain⟨n,hn⟩:=Zx (min rest.length 16)
    have hB:(rest.map bv).take n=(rest.take n).map bv:=List.map_take.symm
    have hBl:(rest.take n).length=n:=by rw[List.length_take];omega
    have ZAU:rest.take n=rest.take 16:=by
     by_cases hc:rest.length≤16
     ·rw[List.take_of_length_le (by omega),List.take_of_length_le (by omega)]
     ·rw[hn,Nat.min_eq_right (by omega)]
    rw[←hn,hB,Zqf 17 _ (by omega),hBl,ZAU]
    rw[ZAU]at hBl
    have ZAV:Dg (rest.take 16):=fun x hx=>ZAT x (List.mem_of_mem_take hx)
    obtain⟨B,hBB⟩:=Zx (rest.take 16)
    rw[←hBB]at hBl Zsh ZAV ⊢
    have e17:(B++List.replicate (17-n) 0).set n 1=Xa B:=by rw[←hBl];exact Zqb (by omega)
    have ZF1:(n:Int)<17:=by omega
    have ZJd:((B++List.replicate (17-n) 0).map bv).set n (.int .u8 1)=(Xa B).map bv:=by rw[←e17,List.map_set];rfl
    have ZAW:(B++List.replicate (17-n) 0).length=17:=by simp;omega
    have ZF2:=hg.size
    have ZJe:=Za gR
    have ZJf:=Za gA
    obtain⟨bw,hbw⟩:=Zx (g.size)
    have hGR:∀o,((g.push o).setIfInBounds bw (.cells ((B++List.replicate (17-n) 0).map bv).toArray 238))[bR]? = some (Yc R):=fun o=>by
     rw[Array.getElem?_setIfInBounds,if_neg (by omega),Zq (by omega)];exact gR
    have hGA:∀o,((g.push o).setIfInBounds bw (.cells ((B++List.replicate (17-n) 0).map bv).toArray 238))[bA]? = some (Yc A):=fun o=>by
     rw[Array.getElem?_setIfInBounds,if_neg (by omega),Zq (by omega)];exact gA
    have hGW:∀o,((g.push o).setIfInBounds bw (.cells ((B++List.replicate (17-n) 0).map bv).toArray 238))[bw]? = some (.cells ((B++List.replicate (17-n) 0).map bv++[]).toArray 238):=fun o=>by
     rw[List.append_nil,hbw];exact ZP Zb
    have hGB:∀o,Zf h.size h ((g.push o).setIfInBounds bw (.cells ((B++List.replicate (17-n) 0).map bv).toArray 238)):=fun o=>(hg.Ye ZF2 _).Zj (by omega) _
    have hGS:∀o,((g.push o).setIfInBounds bw (.cells ((B++List.replicate (17-n) 0).map bv).toArray 238)).size=bw+1:=fun o=>by rw[Array.size_setIfInBounds,Array.size_push,hbw]
    rw[←hbw]
    specialize hGR (.cells ((List.replicate 17 0).map bv).toArray 238)
    specialize hGA (.cells ((List.replicate 17 0).map bv).toArray 238)
    specialize hGW (.cells ((List.replicate 17 0).map bv).toArray 238)
    specialize hGB (.cells ((List.replicate 17 0).map bv).toArray 238)
    specialize hGS (.cells ((List.replicate 17 0).map bv).toArray 238)
    obtain⟨G1,hG1⟩:=Zx (((g.push (.cells ((List.replicate 17 0).map bv).toArray 238)).setIfInBounds bw (.cells ((B++List.replicate (17-n) 0).map bv).toArray 238)))
    rw[←hG1]at hGR hGA hGW hGB hGS ⊢
    clear hG1
    have c1:Jp G1 ⟨bw,n,none⟩ (.int .u8 1)=_:=ZY (f:=bv) hGW (i:=n) (by rw[ZAW];omega) 1 rfl
    rw[e17]at c1
    have hW2:=ZP (o:=.cells ((Xa B).map bv++[]).toArray 238) hGW
    have hR2:(G1.setIfInBounds bw (.cells ((Xa B).map bv++[]).toArray 238))[bR]? = some (Yc R):=by rw[Array.getElem?_setIfInBounds,if_neg (by omega)];exact hGR
    have hA2:(G1.setIfInBounds bw (.cells ((Xa B).map bv++[]).toArray 238))[bA]? = some (Yc A):=by rw[Array.getElem?_setIfInBounds,if_neg (by omega)];exact hGA
    have hB2:Zf h.size h (G1.setIfInBounds bw (.cells ((Xa B).map bv++[]).toArray 238)):=hGB.Zj (by omega) _
    have hS2:(G1.setIfInBounds bw (.cells ((Xa B).map bv++[]).toArray 238)).size=bw+1:=by rw[Array.size_setIfInBounds,hGS]
    obtain⟨G2,hG2⟩:=Zx (G1.setIfInBounds bw (.cells ((Xa B).map bv++[]).toArray 238))
    rw[←hG2]at c1 hW2 hR2 hA2 hB2 hS2
    clear hG2 hGR hGA hGW hGB hGS
    have l17:=Zjq (l:=B) (by omega)
    have w17:=Zs0 ZAV
    have o17:ZZ h.size 238 G2 (.slice (some ⟨bw,0,none⟩) 17 17) (Xa B):=
     ⟨.inr ⟨bw,17,[],by omega,by rw[l17],hW2,by simp,by rw[l17];rfl,by omega⟩,w17⟩
    have s17:=Zcq o17.bs (m:=16) (by omega) 17
    have t17:((Xa B).take 16).length=16:=by rw[List.length_take];omega
    have g16:=ZK hW2 (i:=16) (by omega)
    unfold bv at g16
    have Zyd:=Zqa (l:=B) (by omega)
    have Zfr:=Zp9 (l:=B) (by omega)
    have wt:=Zcr (l:=(Xa B).take 16) (fun x hx=>w17 x (List.mem_of_mem_take hx)) t17
    obtain⟨top,Zjr⟩:=Zx ((Xa B).getD 16 0)
    rw[←Zjr]at g16 Zyd Zfr
    have em:((top:Nat):Int)%18446744073709551616=(top:Nat):=by omega
    simp -implicitDefEqProofs only[go_sem,↓reduceIte,f0,f1,f10,f11,ZF1,Int.toNat_natCast,ZAW,c1]
    refine VS.w (bw+1) [] (.q 0 (.q 1 (.q 2 (.q 3 (.q 5 (.s 4 .nil)))))) mixed (by kernel_rfl) ?_
    simp -implicitDefEqProofs only[go_sem,↓reduceIte,g16,em]
    refine (Zev T _ _ ((Xa B).take 16) top s17 t17 Zyd).use ?_
    rintro _ G3 ⟨rfl,b3⟩
    rw[hS2]at b3
    have hR3:=b3.get (k:=bR) (by omega) hR2
    have hA3:=b3.get (k:=bA) (by omega) hA2
    have hB3:Zf h.size h G3:=hB2.trans (b3.mono (by omega))
    have hxv:=ZgI (t:=top) wt
    rw[Zfr]at hxv
    have hxl:=Zjp (t:=top) wt Zyd
    have hxn:=Zb4 (Y1 ((Xa B).take 16)) top
    obtain⟨X,hX⟩:=Zx (Zjh (Y1 ((Xa B).take 16)) top)
    rw[←hX]at hxv hxl hxn ⊢
    rw[←Zsh]at hxv
    have b3T:Zf (bw+1) G2 G3=True:=eq_true b3
    simp -implicitDefEqProofs only[go_sem,↓reduceIte,b3T]
    refine VS.ZW (fun F g=>F 0=.slice p key.length c∧F 1=.slice q rest.length d∧F 10=.pointer (some ⟨bR,0,none⟩)∧F 11=.pointer (some ⟨bA,0,none⟩)∧F 66=.agg (X.map uv).toArray∧∃i:Nat,i≤5∧F 67=.int .i64 i∧g=G3.setIfInBounds bA (Yc (Za1 A X i)))
     (fun F _=>5-(vi (F 67)).toNat) rfl ⟨f0,f1,f10,f11,rfl,0,by omega,rfl,(Uc hA3).symm⟩ ?_
    clear f0 f1 f10 f11 F gR gA hg
    rintro F g' ⟨f0,f1,f10,f11,f66,i,hi,f67,rfl⟩
    have hx4:(G3.setIfInBounds bA (Yc (Za1 A X i)))[bA]? = some (Yc (Za1 A X i)):=ZP hA3
    have lN:(Za1 A X i).length=5:=by rw[Ze5,lA5]
    have wN:=Zou wA5 hxl (by omega) (by omega) i
    by_cases ZmZ:i<5
    ·have ZsH:(i:Int)<5:=by omega
     have hnx:Za1 A X (i+1)=(Za1 A X i).set i ((Za1 A X i).getD i 0+X.getD i 0):=rfl
     obtain⟨r,hr⟩:=Zx (Za1 A X i)
     rw[←hr]at hx4 lN wN hnx ⊢
     obtain⟨G,hG⟩:=Zx (G3.setIfInBounds bA (Yc r))
     rw[←hG]at hx4 ⊢
     have n1:=Zjl (l:=X) (i:=i) (by omega)
     have g1:=ZK hx4 (i:=i) (by omega)
     unfold uv at g1
     have y1:=wN.getD (by omega) i
     have y2:=hxl.getD (by omega) i
     obtain⟨a,ha⟩:=Zx (r.getD i 0)
     obtain⟨b,hb⟩:=Zx (X.getD i 0)
     rw[←ha]at g1 y1 hnx
     rw[←hb]at n1 y2 hnx
     have e1:(a:Int)+(b:Int)=((a+b:Nat):Int):=rfl
     have e2:((a+b:Nat):Int)%18446744073709551616=((a+b:Nat):Int):=by omega
     have c2:Jp G ⟨bA,i,none⟩ (.int .u64 (a+b:Nat))=_:=ZY (f:=uv) hx4 (i:=i) (by omega) (a+b) rfl
     simp -implicitDefEqProofs only[go_sem,↓reduceIte,f0,f1,f10,f11,f66,f67,ZsH,Int.toNat_natCast,Nat.zero_add,n1,g1,e1,e2,c2]
     refine⟨⟨f0,f1,f10,f11,f66,i+1,ZmZ,rfl,?_⟩,?_⟩
     ·rw[hG,set_set,hnx];rfl
     ·simp only[vi,Zk,↓reduceIte,f67];omega
    ·have Zvy:¬(i:Int)<5:=by omega
     obtain rfl:i=5:=by omega
     have c5:((5:Nat):Int)=5:=rfl
     rw[c5]at f67 Zvy
     obtain⟨wN5,vN5⟩:=ZsZ lA5 hxn wA5 hxl
     have hR4:(G3.setIfInBounds bA (Yc (Za1 A X 5)))[bR]? = some (Yc R):=by rw[Array.getElem?_setIfInBounds,if_neg (by omega)];exact hR3
     have hB4:Zf h.size h (G3.setIfInBounds bA (Yc (Za1 A X 5))):=hB3.Zj (by omega) _
     obtain⟨N,hN⟩:=Zx (Za1 A X 5)
     rw[←hN]at hx4 lN wN5 vN5 hR4 hB4 ⊢
     generalize G3.setIfInBounds bA (Yc N)=G4 at *
     have r1:=Zb2 lN hx4
     have r2:=Zb2 hrn hR4
     have lNm:(N.map uv).length=5:=by simpa using lN
     have tN:(N.map uv).take 5=N.map uv:=List.take_of_length_le (by omega)
     have tR:(R.map uv).take 5=R.map uv:=List.take_of_length_le (by omega)
     simp -implicitDefEqProofs only[go_sem,↓reduceIte,f0,f1,f10,f11,f66,f67,Zvy,r1,r2]
     refine (ZkL T G4 N R lN hrn wN5 hrl).use ?_
     rintro _ G5 ⟨rfl,b5⟩
     obtain⟨w1,w2,w3⟩:=Zii lN hrn wN5 hrl
     obtain⟨m1,m2,m3,_⟩:=Zcp w2 w1
     obtain⟨M,hM⟩:=Zx (Y7 (Uy N R 5))
     rw[←hM]at m1 m2 m3 ⊢
     have hA5:=b5.get (Za hx4) hx4
     have hR5:=b5.get (Za hR4) hR4
     have hB5:Zf h.size h G5:=hB4.trans (b5.mono hB4.size)
     have lM:(M.map uv).length=5:=by simpa using m1
     have hoM:(M.map uv).all Z8=true:=by simp[uv,Z8]
     have w5:=ZQ (h:=G5) (b:=bA) (l:=(N.map uv)) (by unfold Yc at hA5;rw[List.append_nil]at hA5;exact hA5) 0 (M.map uv)
     rw[if_pos ⟨by simp[lM,lNm],hoM⟩,ZN (by simp[lM,lNm])]at w5
     have JO:(rest.length:Int)≤d:=by omega
     obtain⟨mn,hmn⟩:=Zx (min 16 rest.length)
     have ZsO:(if (rest.length:Int)<16 then (rest.length:Int) else 16)=((mn:Nat):Int):=by split<;>omega
     have ZF3:(mn:Int)≤rest.length:=by omega
     have ZAX:rest.drop mn=data.drop (16*(k+1)):=by
      rw[YN]
      by_cases hc:rest.length≤16
      ·rw[List.drop_of_length_le (by omega),List.drop_of_length_le (by omega)]
      ·rw[hmn,Nat.min_eq_left (by omega)]
     have s2:=Zcl s1 rfl (k:=mn) (by omega) Zs3 (d-mn)
     rw[ZAX]at s2
     have ZAY:Ym M%Za0=ZsV (Y1 (XX key)) data (k+1):=by
      rw[m3,w3,vN5,hxv,hrv,ZsV,←JR,Nat.mul_mod,←Nat.mod_add_mod,←Nat.mul_mod]
     simp -implicitDefEqProofs only[go_sem,↓reduceIte,f0,f1,f10,f11,w5,lM,ZsO,ZF3,Int.toNat_natCast,QO]
     refine⟨⟨f0,f10,f11,hB5.Zj (by omega) _,?_,k+1,M,by omega,s2,?_,?_,m1,m2,ZAY⟩,?_⟩
     ·rw[Array.getElem?_setIfInBounds,if_neg (by omega)];exact hR5
     ·show rest.length-mn≤d-mn;omega
     ·have:=ZP (o:=.cells (M.map uv).toArray 236) hA5
      unfold Yc;rw[List.append_nil];exact this
     ·show rest.length-mn<rest.length;omega
   ·have ZAZ:¬(0:Int)<((data.drop (16*k)).length:Int):=by omega
    have hk2:k=(data.length+15)/16:=by omega
    rw[hk2]at JR
    obtain⟨rest,ZgK⟩:=Zx (data.drop (16*k))
    rw[←ZgK]at f1 ZAZ
    have r1:=Zb2 lA5 gA
    have tA:(A.map uv).take 5=A.map uv:=List.take_of_length_le (by simp[lA5])
    simp -implicitDefEqProofs only[go_sem,↓reduceIte,f0,f1,f10,f11,ZAZ,r1]
    refine (ZkM T g A lA5 (wA5.mono (by decide))).use ?_
    rintro _ g6 ⟨rfl,b6⟩
    obtain⟨m1,m2,m3,m4⟩:=Zcp lA5 (wA5.mono (by decide))
    obtain⟨q1,q2,q3⟩:=Zp3 m1 m2 m4
    rw[m3,JR]at q3
    obtain⟨M,hM⟩:=Zx (Zb1 (Y7 A))
    rw[←hM]at q1 q2 q3 ⊢
    have hA6:=b6.get (Za gA) gA
    have hB6:Zf h.size h g6:=hg.trans (b6.mono hg.size)
    have lM:(M.map uv).length=5:=by simpa using q1
    have lAm:(A.map uv).length=5:=by simpa using lA5
    have hoM:(M.map uv).all Z8=true:=by simp[uv,Z8]
    have w5:=ZQ (h:=g6) (b:=bA) (l:=(A.map uv)) (by unfold Yc at hA6;rw[List.append_nil]at hA6;exact hA6) 0 (M.map uv)
    rw[if_pos ⟨by simp[lM,lAm],hoM⟩,ZN (by simp[lM,lAm])]at w5
    have hB7:Zf h.size h (g6.setIfInBounds bA (.cells (M.map uv).toArray 236)):=hB6.Zj (by omega) _
    have hA7:(g6.setIfInBounds bA (.cells (M.map uv).toArray 236))[bA]? = some (Yc M):=by
     have:=ZP (o:=.cells (M.map uv).toArray 236) hA6
     unfold Yc;rw[List.append_nil];exact this
    obtain⟨g7,hg7⟩:=Zx (g6.setIfInBounds bA (.cells (M.map uv).toArray 236))
    rw[←hg7]at w5 hB7 hA7
    clear hg7
    have sm:Bs g7 (.slice (ZmW p 1 c 16) 16 (c-16)) ((key.drop 16).take 16):=Zya (sk.Z9 hB7) rfl (by omega) ck _
    have Zye:((key.drop 16).take 16).length=16:=by rw[List.length_take,List.length_drop];omega
    have u2:(32:Int)≤c:=by omega
    have wkl:Dg ((key.drop 16).take 16):=fun x hx=>wk x (List.mem_of_mem_drop (List.mem_of_mem_take hx))
    simp -implicitDefEqProofs only[go_sem,↓reduceIte,f0,f1,f10,f11,w5,lM,u2,QO]
    refine (Zev T _ _ _ 0 sm Zye (by omega)).use ?_
    rintro _ g8 ⟨rfl,b8⟩
    have hSv:=ZgI (t:=0) (Zcr wkl Zye)
    rw[Nat.mul_zero,Nat.add_zero]at hSv
    have hSl:=Zjp (t:=0) (Zcr wkl Zye) (by omega)
    have hSn:=Zb4 (Y1 ((key.drop 16).take 16)) 0
    obtain⟨S,hS⟩:=Zx (Zjh (Y1 ((key.drop 16).take 16)) 0)
    rw[←hS]at hSv hSl hSn ⊢
    clear hS
    have hA8:=b8.get (Za hA7) hA7
    have hB8:Zf h.size h g8:=hB7.trans (b8.mono hB7.size)
    have lS:(S.map uv).length=5:=by simpa using hSn
    have hoS:(S.map uv).all Z8=true:=by simp[uv,Z8]
    have lpS:Yq [Value.int .u64 0,.int .u64 0,.int .u64 0,.int .u64 0,.int .u64 0] 0 (S.map uv)=S.map uv:=ZN lS
    simp -implicitDefEqProofs only[go_sem,↓reduceIte,f0,f1,f10,f11,lS,hoS,lpS,Zyc]
    have T0:ZvC key data=Ym M+Ym S:=by rw[q3,hSv];rfl
    have hB9:Zf (g8.size+1) (g8.push (.cells (S.map uv).toArray 236)) ((g8.push (.cells (S.map uv).toArray 236)).push (.cells ((List.replicate 16 0).map bv).toArray 5)):=Zf.push (by simp) _
    have hS9:(g8.push (.cells (S.map uv).toArray 236))[g8.size]? = some (Yc S):=by rw[Zb];unfold Yc;rw[List.append_nil]
    have hA9:(g8.push (.cells (S.map uv).toArray 236))[bA]? = some (Yc M):=by rw[Zq (Za hA8)];exact hA8
    have hH9:Zf h.size h (g8.push (.cells (S.map uv).toArray 236)):=hB8.Ye hB8.size _
    have o9:ZZ (g8.size+1) 5 ((g8.push (.cells (S.map uv).toArray 236)).push (.cells ((List.replicate 16 0).map bv).toArray 5)) (.slice (some ⟨g8.size+1,0,none⟩) 0 16) []:=by
     refine⟨.inr ⟨g8.size+1,16,(List.replicate 16 0).map bv,Nat.le_refl _,rfl,?_,rfl,by simp,Nat.zero_le _⟩,fun x hx=>by cases hx⟩
     have:=Zb (h:=g8.push (.cells (S.map uv).toArray 236)) (o:=.cells ((List.replicate 16 0).map bv).toArray 5)
     rw[Array.size_push]at this
     exact this
    have ZF4:=Za hA8
    have ZA0:=hB8.size
    have hz9:(g8.push (.cells (S.map uv).toArray 236)).size=g8.size+1:=by simp
    obtain⟨bS,hbS⟩:∃b,b=g8.size:=⟨_,rfl⟩
    rw[←hbS]at hB9 hS9 o9 ZF4 ZA0 hz9 ⊢
    obtain⟨J,hJ⟩:=Zx (g8.push (.cells (S.map uv).toArray 236))
    rw[←hJ]at hB9 hS9 hA9 hH9 o9 hz9 ⊢
    clear hJ
    refine VS.ZW (fun F g=>F 11=.pointer (some ⟨bA,0,none⟩)∧F 16=.pointer (some ⟨bS,0,none⟩)∧Zf (bS+1) J g∧∃(i n sum bits:Nat) (out:List Nat),i≤5∧F 87=.int .i64 i∧F 18=.int .u64 sum∧F 19=.int .u64 bits∧F 20=.int .i64 n∧ZZ (bS+1) 5 g (F 17) out∧out.length=n∧bits<8∧26*i=8*n+bits∧sum<8*2 ^ bits∧ZvC key data=Y1 out+256 ^ n*(sum+2 ^ bits*ZdT (M.drop i) (S.drop i)))
     (fun F _=>5-(vi (F 87)).toNat) rfl ⟨f11,rfl,hB9,0,0,0,0,[],by omega,rfl,rfl,rfl,rfl,o9,rfl,by omega,by omega,by omega,by rw[T0,List.drop_zero,List.drop_zero,ZkS _ _ (by omega)];simp[Y1]⟩ ?_
    clear f0 f1 f10 f11 F hB9 o9
    rintro F g' ⟨f11,f16,hg',i,n,sum,bits,out,hi,f87,f18,f19,f20,ho,hol,hb8,hbn,Zqj,hT⟩
    have gA':=hg'.get (k:=bA) (by omega) hA9
    have gS':=hg'.get (k:=bS) (by omega) hS9
    have ZA1:=hg'.size
    by_cases ZD:i<5
    ·have ZL:(i:Int)<5:=by omega
     rw[Znh (by omega) (by omega)]at hT
     have g1:=ZK gA' (i:=i) (by omega)
     have g2:=ZK gS' (i:=i) (by omega)
     unfold uv at g1 g2
     have y1:=q2.getD (by omega) i
     have y2:=hSl.getD (by omega) i
     obtain⟨a,ha⟩:=Zx (M.getD i 0)
     obtain⟨b,hb⟩:=Zx (S.getD i 0)
     rw[←ha]at g1 y1 hT
     rw[←hb]at g2 y2 hT
     have hT2:=ZvG hT
     have ZkT:=Zqh (c:=a+b) Zqj (by omega)
     have p8:=Zqg hb8
     have hcb:(a+b)*2 ^ bits≤268435455*128:=Nat.mul_le_mul (by omega) p8
     have ZF5:sum<1024:=by omega
     have e1:(a:Int)+(b:Int)=((a+b:Nat):Int):=rfl
     have e2:((a+b:Nat):Int)%18446744073709551616=((a+b:Nat):Int):=by omega
     have e3:YC .u64 ((a+b:Nat):Int) (bits:Int)=(((a+b)*2 ^ bits:Nat):Int):=by
      rw[ZfK _ _ (by omega),Nat.mod_eq_of_lt (by omega)]
     obtain⟨cc,hcc⟩:=Zx ((a+b)*2 ^ bits)
     rw[←hcc]at e3 hcb hT2 ZkT
     have e4:(sum:Int)+(cc:Int)=((sum+cc:Nat):Int):=rfl
     have e5:((sum+cc:Nat):Int)%18446744073709551616=((sum+cc:Nat):Int):=by omega
     have e6:(bits:Int)+26=((bits+26:Nat):Int):=rfl
     have e7:((bits+26:Nat):Int)%18446744073709551616=((bits+26:Nat):Int):=by omega
     have e8:¬(bits:Int)<0:=by omega
     simp -implicitDefEqProofs only[go_sem,↓reduceIte,f11,f16,f18,f19,f20,f87,ZL]
     refine VS.q mixed (by kernel_rfl) ?_
     simp -implicitDefEqProofs only[go_sem,↓reduceIte,f11,f16,f18,f19,f20,f87,ZL,Int.toNat_natCast,Nat.zero_add,g1,g2,e1,e2,e3,e4,e5,e6,e7,e8]
     refine VS.ZW (fun F g=>F 11=.pointer (some ⟨bA,0,none⟩)∧F 16=.pointer (some ⟨bS,0,none⟩)∧F 87=.int .i64 i∧Zf (bS+1) J g∧∃(n sum bits:Nat) (out:List Nat),F 18=.int .u64 sum∧F 19=.int .u64 bits∧F 20=.int .i64 n∧ZZ (bS+1) 5 g (F 17) out∧out.length=n∧bits<34∧26*(i+1)=8*n+bits∧sum<8*2 ^ bits∧ZvC key data=Y1 out+256 ^ n*(sum+2 ^ bits*ZdT (M.drop (i+1)) (S.drop (i+1))))
      (fun F _=>(vi (F 19)).toNat) rfl ⟨f11,f16,f87,hg',n,sum+cc,bits+26,out,rfl,rfl,f20,ho,hol,by omega,by omega,ZkT,hT2⟩ ?_
     clear f11 f16 f18 f19 f20 f87 ho hol hT hT2 Zqj ZkT hbn hb8 hg' gA' gS' ZA1 g1 g2 e3 e4 e5 e6 e7 e8 p8 hcb hcc ZF5 F cc
     clear n sum bits out g'
     rintro F g' ⟨f11,f16,f87,hg',n,sum,bits,out,f18,f19,f20,ho,hol,hb8,hbn,Zqj,hT⟩
     have ZA1:=hg'.size
     by_cases hb:8≤bits
     ·have hb1:(8:Int)≤bits:=by omega
      have hn1:(n:Int)<16:=by omega
      have ZkT:=Zqi Zqj hb
      have hT2:=Zs2 hb hT
      have hp:2 ^ bits≤2 ^ 34:=Nat.pow_le_pow_right (by decide) (by omega)
      have hs':sum<18446744073709551616:=Nat.lt_of_lt_of_le Zqj (Nat.le_trans (Nat.mul_le_mul_left 8 hp) (by decide))
      have em:((sum:Nat):Int)%256=((sum%256:Nat):Int):=rfl
      have es:Xe .u64 (sum:Int) 8=((sum/256:Nat):Int):=Zco sum 8 (by decide)
      have eb:(bits:Int)-8=((bits-8:Nat):Int):=by omega
      have eb2:((bits-8:Nat):Int)%18446744073709551616=((bits-8:Nat):Int):=by omega
      simp -implicitDefEqProofs only[go_sem,↓reduceIte,f11,f16,f18,f19,f20,f87,hb1,hn1,em]
      have hX:sum%256<256:=by omega
      refine Zv (E:=5) (B:=bS+1) Yx Tryz.underlying44 tn5 tz5 tb5 (ho.push _) (by simp;omega) (Bs.one hX 1) (by simp;omega) ?_
      intro v' h' ho' XL _
      simp -implicitDefEqProofs only[go_sem,↓reduceIte,f11,f16,f18,f19,f20,f87,es,eb,eb2]
      refine⟨⟨f11,f16,f87,(hg'.Ye (by omega) _).trans XL,n+1,sum/256,bits-8,out++[sum%256],rfl,rfl,rfl,ho',by simp[hol],by omega,by omega,ZkT,?_⟩,?_⟩
      ·rw[hT2,Zni,hol]
      ·simp only[vi,Zk,↓reduceIte,Nat.reduceEqDiff,f19];omega
     ·have hb1:¬(8:Int)≤bits:=by omega
      have e9:(i:Int)+1=((i+1:Nat):Int):=rfl
      simp -implicitDefEqProofs only[go_sem,↓reduceIte,f11,f16,f18,f19,f20,f87,hb1,e9]
      refine⟨⟨f11,f16,hg',i+1,n,sum,bits,out,ZD,rfl,f18,f19,f20,ho,hol,by omega,hbn,Zqj,hT⟩,?_⟩
      simp only[vi,Zk,↓reduceIte,f87];omega
    ·have YK:¬(i:Int)<5:=by omega
     obtain rfl:i=5:=by omega
     have c5:((5:Nat):Int)=5:=rfl
     rw[c5]at f87 YK
     obtain rfl:n=16:=by omega
     have e0:ZdT (M.drop 5) (S.drop 5)=0:=by rw[List.drop_of_length_le (by omega),List.drop_of_length_le (by omega)];rfl
     rw[e0,Nat.mul_zero,Nat.add_zero]at hT
     have Znd:=Zqc ho.byte hol hT
     have htl:Zna key data=out:=Znd.symm
     simp -implicitDefEqProofs only[go_sem,↓reduceIte,f11,f16,f18,f19,f20,f87,YK]
     rw[htl]
     exact⟨ho.mono (by omega),hH9.trans (hg'.mono (by omega))⟩
theorem ZkU (T:World) (h:Hp) (v u:Value) (key data:List Nat) (sk:Bs h v key) (sd:Bs h u data) (ck:Cap v) (cu:Cap u) :
  Zd Tryz.prog T 136 #[v,u] h fun v' h'=>ZsW h.size h' v' key data∧Zf h.size h h':=by
 obtain⟨p,c,rfl,hkc⟩:=sk.open
 obtain⟨q,d,rfl,hdc⟩:=sd.open
 refine Zd.Zi (args:=[_,_]) Tryz.func136 rfl rfl rfl rfl ?_
 unfold ZsW
 by_cases hk:key.length=32
 ·by_cases hd:4000<data.length
  ·have hd':4000<(data.length:Int):=by omega
   have hk':(key.length:Int)=32:=by omega
   have e:ZaE key data=1:=by unfold ZaE;rw[if_pos (.inr hd)]
   rw[e]
   simp -implicitDefEqProofs only[go_sem,↓reduceIte,hd',hk']
   exact⟨_,rfl,ZZ.nil _ _ _⟩
  ·have hd':¬4000<(data.length:Int):=by omega
   have hk':(key.length:Int)=32:=by omega
   have e:ZaE key data=0:=by unfold ZaE;rw[if_neg (by omega)]
   rw[e,if_pos rfl]
   simp -implicitDefEqProofs only[go_sem,↓reduceIte,hd',hk']
   refine (Znj T _ _ _ key data sk sd hk (by omega) ck cu).use ?_
   rintro v1 h1 ⟨o1,b1⟩
   simp -implicitDefEqProofs only[go_sem,↓reduceIte]
   exact⟨⟨_,rfl,o1⟩,b1⟩
 ·have hk':¬(key.length:Int)=32:=by omega
  have e:ZaE key data=1:=by unfold ZaE;rw[if_pos (.inl hk)]
  rw[e]
  simp -implicitDefEqProofs only[go_sem,↓reduceIte,hk']
  exact⟨_,rfl,ZZ.nil _ _ _⟩
end Go.Proofs.YtnhbpmoeaodmnaaGreatDoor
