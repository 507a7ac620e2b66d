/- The program's clamped key, its blocks' numbers and its last bytes, in plain numbers; no condition but those in the statements. -/
import Derived.Test.YtkfhncfkagcamaaGreatDoorPik
import Derived.Test.YtkfhncfkagcamaaGreatDoorW14
namespace Go.Proofs.YtkfhncfkagcamaaGreatDoor
open Go Go.V
set_option linter.unusedSimpArgs false
set_option linter.unusedVariables false
set_option maxRecDepth 100000
def Az (l:List Nat):Nat→List Nat
 | 0=>l
 | i+1=>(Az l i).set (4*i+3) ((Az l i).getD (4*i+3) 0%16)
def cK (l:List Nat):Nat→List Nat
 | 0=>l
 | i+1=>(cK l i).set (4*i+4) ((cK l i).getD (4*i+4) 0/4*4)
theorem LY (l:List Nat):∀i,(Az l i).length=l.length
 | 0=>rfl
 | i+1=>by rw[Az,List.length_set,LY l i]
theorem LZ (l:List Nat):∀i,(cK l i).length=l.length
 | 0=>rfl
 | i+1=>by rw[cK,List.length_set,LZ l i]
theorem AA {l:List Nat} (w:Dg l):∀i,Dg (Az l i)
 | 0=>w
 | i+1=>(AA w i).set _ (by have:=(AA w i).getD (4*i+3);omega)
theorem AB {l:List Nat} (w:Dg l):∀i,Dg (cK l i)
 | 0=>w
 | i+1=>(AB w i).set _ (by have:=(AB w i).getD (4*i+4);omega)
theorem tL {l:List Nat} (hl:l.length=16):cK (Az l 4) 3=XX l:=by
 match l,hl with
 | [a0,a1,a2,a3,a4,a5,a6,a7,a8,a9,a10,a11,a12,a13,a14,a15],_=>rfl
theorem E8 (key:List Nat):XX key=XX (key.take 16):=by
 unfold XX
 apply List.map_congr_left
 intro i hi
 have bJ:i<16:=by simpa using hi
 have e:(key.take 16).getD i 0=key.getD i 0:=by
  rw[List.getD_eq_getElem?_getD,List.getElem?_take,if_pos bJ,List.getD_eq_getElem?_getD]
 unfold mL
 rw[e]
theorem ga {key:List Nat} (hk:key.length=32):cK (Az (key.take 16) 4) 3=XX key:=by
 rw[E8];exact tL (by rw[List.length_take];omega)
theorem SK {l:List Nat} (w:Dg l) (hl:l.length=16):YY l<340282366920938463463374607431768211456:=by
 have:=U0 w (n:=16) (by omega)
 exact this
theorem Sa (n t:Nat):(GJ n t).length=5:=rfl
theorem GS {n t:Nat} (hn:n<340282366920938463463374607431768211456) (ht:t≤1):Yi 67108864 (GJ n t):=
 Yi.Mo (by omega) (by omega) (by omega) (by omega) (by omega)
theorem L0 {n t:Nat} (hn:n<340282366920938463463374607431768211456):Yk (GJ n t)=n+340282366920938463463374607431768211456*t:=by
 simp only[GJ,Yk];omega
def VB (a x:List Nat):Nat→List Nat
 | 0=>a
 | i+1=>(VB a x i).set i ((VB a x i).getD i 0+x.getD i 0)
theorem NH (a x:List Nat):∀i,(VB a x i).length=a.length
 | 0=>rfl
 | i+1=>by rw[VB,List.length_set,NH a x i]
theorem cL {a x:List Nat} {K L:Nat} (wa:Yi K a) (wx:Yi L x) (hK:0<K) (hL:0<L):∀i,Yi (K+i*L) (VB a x i)
 | 0=>by rw[Nat.zero_mul];exact wa
 | i+1=>by
  have h:=cL wa wx hK hL i
  have q1:=h.getD (by omega) i
  have q2:=wx.getD hL i
  rw[VB,Nat.add_mul,Nat.one_mul]
  exact (h.mono (by omega)).set _ _ (by omega)
theorem mQ {a x:List Nat} (ha:a.length=5) (hx:x.length=5) (wa:Yi 134217728 a) (wx:Yi 67108864 x):Yi 268435456 (VB a x 5)∧Yk (VB a x 5)=Yk a+Yk x:=by
 obtain⟨a0,a1,a2,a3,a4,rfl⟩:=Mo ha
 obtain⟨x0,x1,x2,x3,x4,rfl⟩:=Mo hx
 obtain⟨w0,w1,w2,w3,w4⟩:=wa.tD
 obtain⟨u0,u1,u2,u3,u4⟩:=wx.tD
 have e:VB [a0,a1,a2,a3,a4] [x0,x1,x2,x3,x4] 5=[a0+x0,a1+x1,a2+x2,a3+x3,a4+x4]:=rfl
 rw[e]
 exact⟨Yi.Mo (by omega) (by omega) (by omega) (by omega) (by omega),by simp only[Yk];omega⟩
theorem L1 (a b:List Nat):YY (a++b)=YY a+256 ^ a.length*YY b:=by
 induction a with
 | nil=>simp[YY]
 | cons x a ih=>simp only[List.cons_append,YY,ih,List.length_cons,Nat.pow_succ,Nat.mul_add,Nat.add_assoc];congr 2;rw[←Nat.mul_assoc,Nat.mul_comm 256]
theorem AD (n:Nat):YY (List.replicate n 0)=0:=by
 induction n with
 | zero=>rfl
 | succ n ih=>rw[List.replicate_succ,YY,ih]
def Y7 (l:List Nat):List Nat:=l++[1]++List.replicate (16-l.length) 0
theorem GU {l:List Nat} (hl:l.length≤16):(Y7 l).length=17:=by simp[Y7];omega
theorem gd {l:List Nat} (hl:l.length≤16):YY ((Y7 l).take 16)+340282366920938463463374607431768211456*(Y7 l).getD 16 0=YY (l++[1]):=by
 by_cases h:l.length=16
 ·have e1:(Y7 l).take 16=l:=by unfold Y7;rw[List.append_assoc,List.take_left' h]
  have e2:(Y7 l).getD 16 0=1:=by
   unfold Y7
   rw[List.getD_eq_getElem?_getD,List.append_assoc,List.getElem?_append_right (by omega),h];rfl
  rw[e1,e2,L1,h];rfl
 ·have e2:(Y7 l).getD 16 0=0:=by
   unfold Y7
   rw[List.getD_eq_getElem?_getD,List.getElem?_append_right (by simp;omega),List.getElem?_replicate]
   split<;>rfl
  have e1:(Y7 l).take 16=(l++[1])++List.replicate (15-l.length) 0:=by
   unfold Y7
   rw[List.take_append,List.take_of_length_le (by simp;omega),List.take_replicate]
   congr 2
   simp;omega
  rw[e1,e2,L1,AD];omega
theorem gf {l:List Nat} (hl:l.length≤16):(Y7 l).getD 16 0≤1:=by
 by_cases h:l.length=16
 ·have e2:(Y7 l).getD 16 0=1:=by
   unfold Y7
   rw[List.getD_eq_getElem?_getD,List.append_assoc,List.getElem?_append_right (by omega),h];rfl
  omega
 ·have e2:(Y7 l).getD 16 0=0:=by
   unfold Y7
   rw[List.getD_eq_getElem?_getD,List.getElem?_append_right (by simp;omega),List.getElem?_replicate]
   split<;>rfl
  omega
theorem mR {l:List Nat} (w:Dg l):Dg (Y7 l):=by
 intro x hx
 unfold Y7 at hx
 simp only[List.mem_append,List.mem_singleton,List.mem_replicate]at hx
 rcases hx with (h|h)|h
 ·exact w x h
 ·omega
 ·omega
theorem gg {l:List Nat} (hl:l.length≤16):(l++List.replicate (17-l.length) 0).set l.length 1=Y7 l:=by
 have e:List.replicate (17-l.length) 0=0 :: List.replicate (16-l.length) 0:=by rw[←List.replicate_succ];congr 1;omega
 rw[e,List.set_append_right _ _ (Nat.le_refl _),Nat.sub_self,List.set_cons_zero]
 unfold Y7;rw[List.append_assoc];rfl
def PS:List Nat→List Nat→Nat
 | x :: l,y :: k=>(x+y)+67108864*PS l k
 | _,_=>0
theorem E9:∀(l k:List Nat),l.length=k.length→PS l k=Yk l+Yk k
 | [],[],_=>rfl
 | x :: l,y :: k,h=>by simp only[PS,Yk];rw[E9 l k (by simpa using h)];omega
theorem gh {out:List Nat} {t R:Nat} (w:Dg out) (hl:out.length=16) (h:t=YY out+256 ^ 16*R):out=(List.range 16).map fun i=>t/256 ^ i%256:=by
 apply List.ext_getElem?
 intro i
 by_cases hi:i<16
 ·rw[List.getElem?_map,List.getElem?_range hi]
  have e:=Ap w i
  rw[List.getD_eq_getElem?_getD,List.getElem?_eq_getElem (by omega)]at e
  rw[List.getElem?_eq_getElem (by omega)]
  simp only[Option.map_some,Option.some.injEq]
  simp only[Option.getD_some]at e
  rw[e,h]
  have e2:256 ^ 16*R=256 ^ i*(256*(256 ^ (15-i)*R)):=by
   rw[←Nat.mul_assoc 256,←Nat.mul_assoc,←Nat.pow_succ',←Nat.pow_add]
   congr 2;omega
  rw[e2,Nat.add_mul_div_left _ _ (Nat.pow_pos (by omega)),Nat.add_mul_mod_self_left]
 ·rw[List.getElem?_eq_none (by omega),List.getElem?_eq_none (by simp;omega)]
theorem mS {T v n s B R:Nat} (hB:256≤B) (hd:B%256=0) (h:T=v+n*(s+B*R)):T=v+n*(s%256)+n*256*(s/256+B/256*R):=by
 have e:s+B*R=s%256+256*(s/256+B/256*R):=by
  have e1:B=256*(B/256):=by omega
  have e2:B*R=256*(B/256*R):=by rw[←Nat.mul_assoc,←e1]
  have e3:=Nat.mod_add_div s 256
  rw[Nat.mul_add,e2];omega
 rw[h,e,Nat.mul_add,←Nat.mul_assoc,←Nat.add_assoc]
theorem gi {i:Nat} (hi:i<4):nth [Value.int .i64 3,.int .i64 7,.int .i64 11,.int .i64 15] i=some (.int .i64 ((4*i+3:Nat):Int)):=by
 match i,hi with
 | 0,_=>rfl
 | 1,_=>rfl
 | 2,_=>rfl
 | 3,_=>rfl
theorem gj {i:Nat} (hi:i<3):nth [Value.int .i64 4,.int .i64 8,.int .i64 12] i=some (.int .i64 ((4*i+4:Nat):Int)):=by
 match i,hi with
 | 0,_=>rfl
 | 1,_=>rfl
 | 2,_=>rfl
theorem Zen (x:Nat) (hx:x<256):Z8 .and .u8 (x:Int) 15=((x%16:Nat):Int):=by
 have h:=kR x 15 hx (by decide)
 have e:x &&& 15=x%16:=Nat.and_two_pow_sub_one_eq_mod x 4
 rw[e]at h;exact h
theorem zZ (x:Nat) (hx:x<256):Z8 .and .u8 (x:Int) 252=((x/4*4:Nat):Int):=by
 have h:=kR x 252 hx (by decide)
 have e:x &&& 252=x/4*4:=by
  have:∀y:Fin 256,y.val &&& 252=y.val/4*4:=by decide
  exact this ⟨x,hx⟩
 rw[e]at h;exact h
def Zmu:Value→Nat
 | .slice _ l _=>l
 | _=>0
theorem gk (n:Nat) (vs:List Nat) (h:vs.length≤n):Yl ((List.replicate n 0).map bv) 0 (vs.map bv)=(vs++List.replicate (n-vs.length) 0).map bv:=by
 rw[Qa _ _ (by simpa using h),List.length_map,←List.map_drop,List.drop_replicate,List.map_append]
theorem AE {M S:List Nat} {i:Nat} (hM:i<M.length) (hS:i<S.length):PS (M.drop i) (S.drop i)=(M.getD i 0+S.getD i 0)+67108864*PS (M.drop (i+1)) (S.drop (i+1)):=by
 rw[List.drop_eq_getElem_cons hM,List.drop_eq_getElem_cons hS,PS,List.getD_eq_getElem?_getD,List.getD_eq_getElem?_getD,List.getElem?_eq_getElem hM,List.getElem?_eq_getElem hS];rfl
theorem tM {T v n s b c R:Nat} (h:T=v+n*(s+2 ^ b*(c+67108864*R))):T=v+n*(s+c*2 ^ b+2 ^ (b+26)*R):=by
 rw[h,Nat.mul_add (2 ^ b),Nat.mul_comm (2 ^ b) c,Nat.pow_add,←Nat.mul_assoc (2 ^ b),Nat.add_assoc]
theorem gm {b:Nat} (h:b<8):2 ^ b≤128:=by
 have:=Nat.pow_le_pow_right (show 0<2 by decide) (show b≤7 by omega)
 exact this
theorem gn {s c b:Nat} (hs:s<8*2 ^ b) (hc:c<268435456):s+c*2 ^ b<8*2 ^ (b+26):=by
 have h1:c*2 ^ b≤268435455*2 ^ b:=Nat.mul_le_mul_right _ (by omega)
 rw[Nat.pow_add]
 have:2 ^ 26=67108864:=rfl
 rw[this];omega
theorem gq {s b:Nat} (hs:s<8*2 ^ b) (hb:8≤b):s/256<8*2 ^ (b-8):=by
 have:2 ^ b=2 ^ (b-8)*256:=by
  have e:b=b-8+8:=by omega
  rw[e,Nat.pow_add,Nat.add_sub_cancel]
 rw[this]at hs;omega
theorem mT {T v n s b R:Nat} (hb:8≤b) (h:T=v+256 ^ n*(s+2 ^ b*R)):T=v+256 ^ n*(s%256)+256 ^ (n+1)*(s/256+2 ^ (b-8)*R):=by
 have e:2 ^ b=2 ^ (b-8)*256:=by
  have e:b=b-8+8:=by omega
  rw[e,Nat.pow_add,Nat.add_sub_cancel]
 have hp:0<2 ^ (b-8):=Nat.pow_pos (by omega)
 have:=mS (B:=2 ^ b) (by rw[e];omega) (by rw[e];omega) h
 rw[show 2 ^ b/256=2 ^ (b-8) by rw[e,Nat.mul_div_cancel _ (by omega)]]at this
 rw[Nat.pow_succ];exact this
theorem AF (l:List Nat) (x:Nat):YY (l++[x])=YY l+256 ^ l.length*x:=by rw[L1];rfl
theorem Zaa:(XS 16 [Value.int .u8 0])=(List.replicate 16 0).map bv:=rfl
set_option maxHeartbeats 2000000 in
theorem AG (T:World) (h:Hp) (v u:Value) (key data:List Nat) (sk:Bs h v key) (sd:Bs h u data) (hk:key.length=32) (hd:data.length≤4000) (ck:WO v) (cu:WO u) :
  Zd Tryz.prog T 101 #[v,u] h fun v' h'=>Z1 h.size 5 h' v' (Au key data)∧Ze h.size h h':=by
 have wk:=sk.byte
 have wd:=sd.byte
 obtain⟨p,c,rfl,hkc⟩:=sk.Us
 have ck:key.length≤c:=ck
 have l16:(key.take 16).length=16:=by rw[List.length_take];omega
 have s16:=SI sk (m:=16) (by omega) c
 have c16:(16:Int)≤c:=by omega
 refine Zd.Zi (args:=[_,_]) Tryz.func101 rfl rfl rfl rfl ?_
 simp -implicitDefEqProofs only[go_sem,↓reduceIte,c16]
 refine Zv (E:=5) (B:=h.size) Yt Tryz.underlying34 Wf Vh Vg (Z1.nil _ _ _) (Nat.le_refl _) (by rw[hk]at sk;simpa using s16) (by rw[l16];decide) ?_
 intro v1 h1 o1 b1 _
 rw[List.nil_append]at o1
 have o1n:=o1.own
 rcases o1n with⟨_,hm,_⟩|⟨bc,cap,spare,hbc,rfl,Vq,X4,SY,Jg⟩
 ·omega
 obtain⟨L,hL⟩:=Zu (key.take 16)
 have wL:Dg L:=by rw[hL];exact fun x hx=>wk x (List.mem_of_mem_take hx)
 have Zeo:cK (Az L 4) 3=XX key:=by rw[hL];exact ga hk
 rw[←hL]at l16 Vq X4 SY Jg ⊢
 clear o1 s16 hL
 have ZxX:=Za Vq
 simp -implicitDefEqProofs only[go_sem,↓reduceIte]
 refine VS.ZU (fun F g=>F 0=.slice p key.length c∧F 1=u∧F 5=.slice (some ⟨bc,0,none⟩) L.length cap∧F 25=.agg #[.int .i64 3,.int .i64 7,.int .i64 11,.int .i64 15]∧∃i:Nat,i≤4∧F 26=.int .i64 i∧g=h1.setIfInBounds bc (.cells ((Az L i).map bv++spare).toArray 5))
  (fun F _=>4-(vi (F 26)).toNat) rfl ⟨rfl,rfl,rfl,rfl,0,by omega,rfl,(Uc Vq).symm⟩ ?_
 rintro F g ⟨f0,f1,f5,f25,i,hi,f26,rfl⟩
 have hx:=ZO (o:=.cells ((Az L i).map bv++spare).toArray 5) Vq
 have wA:=AA wL i
 have lA:=LY L i
 by_cases ZA:i<4
 ·have ZH:(i:Int)<4:=by omega
  have YM:Az L (i+1)=(Az L i).set (4*i+3) ((Az L i).getD (4*i+3) 0%16):=rfl
  obtain⟨r,hr⟩:=Zu (Az L i)
  rw[←hr]at hx wA lA YM ⊢
  obtain⟨G,hG⟩:=Zu (h1.setIfInBounds bc (.cells (r.map bv++spare).toArray 5))
  rw[←hG]at hx ⊢
  have n1:=gi ZA
  have g1:=ZJ hx (i:=4*i+3) (by omega)
  have x1:=wA.getD (4*i+3)
  unfold bv at g1
  obtain⟨x,qq⟩:=Zu (r.getD (4*i+3) 0)
  rw[←qq]at g1 x1 YM
  have e1:=Zen x x1
  have hi1:((4*i+3:Nat):Int)<L.length:=by omega
  have c1:Jn G ⟨bc,4*i+3,none⟩ (.int .u8 (x%16:Nat))=_:=ZZ (f:=bv) hx (i:=4*i+3) (by omega) (x%16) rfl
  simp -implicitDefEqProofs only[go_sem,↓reduceIte,f0,f1,f5,f25,f26,ZH,Int.toNat_natCast,Nat.zero_add,n1,hi1,g1,e1,c1]
  refine⟨⟨f0,f1,f5,f25,i+1,ZA,rfl,?_⟩,?_⟩
  ·rw[hG,set_set,YM]
  ·simp only[vi,Zh,↓reduceIte,f26];omega
 ·have YE:¬(i:Int)<4:=by omega
  obtain rfl:i=4:=by omega
  have c4:((4:Nat):Int)=4:=rfl
  rw[c4]at f26 YE
  obtain⟨L2,hL2⟩:=Zu (Az L 4)
  rw[←hL2]at hx wA lA Zeo ⊢
  have B2:Ze h.size h (h1.setIfInBounds bc (.cells (L2.map bv++spare).toArray 5)):=b1.Zk hbc _
  generalize h1.setIfInBounds bc (.cells (L2.map bv++spare).toArray 5)=h2 at *
  clear hL2
  simp -implicitDefEqProofs only[go_sem,↓reduceIte,f0,f1,f5,f25,f26,YE]
  refine VS.ZU (fun F g=>F 0=.slice p key.length c∧F 1=u∧F 5=.slice (some ⟨bc,0,none⟩) L.length cap∧F 36=.agg #[.int .i64 4,.int .i64 8,.int .i64 12]∧∃i:Nat,i≤3∧F 37=.int .i64 i∧g=h2.setIfInBounds bc (.cells ((cK L2 i).map bv++spare).toArray 5))
   (fun F _=>3-(vi (F 37)).toNat) rfl ⟨f0,f1,f5,rfl,0,by omega,rfl,(Uc hx).symm⟩ ?_
  clear f0 f1 f5 f25 f26 YE F
  rintro F g ⟨f0,f1,f5,f36,i,hi,f37,rfl⟩
  have As:=ZO (o:=.cells ((cK L2 i).map bv++spare).toArray 5) hx
  have wB:=AB wA i
  have lB:=LZ L2 i
  by_cases ZA:i<3
  ·have ZH:(i:Int)<3:=by omega
   have YM:cK L2 (i+1)=(cK L2 i).set (4*i+4) ((cK L2 i).getD (4*i+4) 0/4*4):=rfl
   obtain⟨r,hr⟩:=Zu (cK L2 i)
   rw[←hr]at As wB lB YM ⊢
   obtain⟨G,hG⟩:=Zu (h2.setIfInBounds bc (.cells (r.map bv++spare).toArray 5))
   rw[←hG]at As ⊢
   have n1:=gj ZA
   have g1:=ZJ As (i:=4*i+4) (by omega)
   have x1:=wB.getD (4*i+4)
   unfold bv at g1
   obtain⟨x,qq⟩:=Zu (r.getD (4*i+4) 0)
   rw[←qq]at g1 x1 YM
   have e1:=zZ x x1
   have hi1:((4*i+4:Nat):Int)<L.length:=by omega
   have c1:Jn G ⟨bc,4*i+4,none⟩ (.int .u8 (x/4*4:Nat))=_:=ZZ (f:=bv) As (i:=4*i+4) (by omega) (x/4*4) rfl
   simp -implicitDefEqProofs only[go_sem,↓reduceIte,f0,f1,f5,f36,f37,ZH,Int.toNat_natCast,Nat.zero_add,n1,hi1,g1,e1,c1]
   refine⟨⟨f0,f1,f5,f36,i+1,ZA,rfl,?_⟩,?_⟩
   ·rw[hG,set_set,YM]
   ·simp only[vi,Zh,↓reduceIte,f37];omega
  ·have YE:¬(i:Int)<3:=by omega
   obtain rfl:i=3:=by omega
   have c3:((3:Nat):Int)=3:=rfl
   rw[c3]at f37 YE
   rw[Zeo]at As wB lB ⊢
   have B3:Ze h.size h (h2.setIfInBounds bc (.cells ((XX key).map bv++spare).toArray 5)):=B2.Zk hbc _
   generalize h2.setIfInBounds bc (.cells ((XX key).map bv++spare).toArray 5)=h3 at *
   have tO:=IE key
   have oc:Z1 h.size 5 h3 (.slice (some ⟨bc,0,none⟩) L.length cap) (XX key):=
    ⟨.inr ⟨bc,cap,spare,hbc,by rw[l16,tO],As,by simp,by rw[SY,l16,tO],by omega⟩,wB⟩
   simp -implicitDefEqProofs only[go_sem,↓reduceIte,f0,f1,f5,f36,f37,YE]
   refine (OK T _ _ (XX key) 0 oc.bs tO (by omega)).use ?_
   rintro _ h4 ⟨rfl,b4⟩
   have B4:Ze h.size h h4:=B3.trans (b4.mono B3.size)
   have hR:=SK wB tO
   have hrv:Yk (GJ (YY (XX key)) 0)=YY (XX key):=by rw[L0 hR,Nat.mul_zero,Nat.add_zero]
   have AH:=GS (t:=0) hR (by omega)
   have hrn:=Sa (YY (XX key)) 0
   obtain⟨R,hRR⟩:=Zu (GJ (YY (XX key)) 0)
   rw[←hRR]at hrv AH hrn ⊢
   have lR:(R.map uv).length=5:=by simpa using hrn
   have hoR:(R.map uv).all Z5=true:=by simp[uv,Z5]
   have lp:Yl [Value.int .u64 0,.int .u64 0,.int .u64 0,.int .u64 0,.int .u64 0] 0 (R.map uv)=R.map uv:=ZK lR
   simp -implicitDefEqProofs only[go_sem,↓reduceIte,f0,f1,f5,f36,f37,lR,hoR,lp]
   obtain⟨bR,hbR⟩:∃b,b=h4.size:=⟨_,rfl⟩
   obtain⟨bA,hbA⟩:∃b,b=h4.size+1:=⟨_,rfl⟩
   obtain⟨H,hH⟩:=Zu (((h4.push (.cells (R.map uv).toArray 211)).push (.cells #[.int .u64 0,.int .u64 0,.int .u64 0,.int .u64 0,.int .u64 0] 211)):Hp)
   have HB:Ze h.size h H:=by rw[hH];exact (B4.Yg B4.size _).Yg (by have:=B4.size;simp;omega) _
   have HR:H[bR]? = some (Yd R):=by
    rw[hH,hbR,Zq (by simp),Zb];unfold Yd;rw[List.append_nil]
   have HA:H[bA]? = some (Yd [0,0,0,0,0]):=by
    have:=Zb (h:=(h4.push (.cells (R.map uv).toArray 211))) (o:=.cells #[.int .u64 0,.int .u64 0,.int .u64 0,.int .u64 0,.int .u64 0] 211)
    rw[Array.size_push]at this
    rw[hH,hbA,this];rfl
   have Zeq:h.size≤bR:=by have:=B4.size;omega
   rw[←hH,←hbA,←hbR]
   have Zx0:bA=bR+1:=by omega
   clear hH hbA hbR
   have sd0:Bs h (F 1) (data.drop (16*0)):=by rw[f1];exact sd
   have cu0:WO (F 1):=by rw[f1];exact cu
   refine VS.ZU (fun F g=>F 0=.slice p key.length c∧F 10=.pointer (some ⟨bR,0,none⟩)∧F 11=.pointer (some ⟨bA,0,none⟩)∧Ze h.size h g∧g[bR]? = some (Yd R)∧∃(k:Nat) (A:List Nat),16*k<data.length+16∧Bs h (F 1) (data.drop (16*k))∧WO (F 1)∧g[bA]? = some (Yd A)∧A.length=5∧Yi 134217728 A∧Yk A%Vz=mM (YY (XX key)) data k)
    (fun F _=>Zmu (F 1)) rfl ⟨f0,rfl,rfl,HB,HR,0,[0,0,0,0,0],by omega,sd0,cu0,HA,rfl,Yi.Mo (by omega) (by omega) (by omega) (by omega) (by omega),rfl⟩ ?_
   clear f0 f1 f5 f36 f37 YE sd0 cu0 F HB HR HA H
   rintro F g ⟨f0,f10,f11,hg,gR,k,A,Zx1,s1,mU,gA,lA5,Tx,Da⟩
   obtain⟨q,d,f1,xE⟩:=s1.open
   rw[f1]at s1 mU
   have mU:(data.drop (16*k)).length≤d:=mU
   have Zmy:(data.drop (16*k)).length=data.length-16*k:=List.length_drop
   by_cases ZA:16*k<data.length
   ·have hgt:(0:Int)<((data.drop (16*k)).length:Int):=by omega
    obtain⟨rest,L4⟩:=Zu (data.drop (16*k))
    have lj:Zef data k=rest.take 16++[1]:=by rw[L4];rfl
    have YM:data.drop (16*(k+1))=rest.drop 16:=by rw[L4,List.drop_drop];congr 1
    have Zer:Dg rest:=by rw[L4];exact fun x hx=>wd x (List.mem_of_mem_drop hx)
    rw[←L4]at f1 s1 mU xE hgt Zmy
    clear L4
    have z17:(#[Value.int .u8 0,.int .u8 0,.int .u8 0,.int .u8 0,.int .u8 0,.int .u8 0,.int .u8 0,.int .u8 0,.int .u8 0,.int .u8 0,.int .u8 0,.int .u8 0,.int .u8 0,.int .u8 0,.int .u8 0,.int .u8 0,.int .u8 0]:Array Value)=((List.replicate 17 0).map bv).toArray:=rfl
    simp -implicitDefEqProofs only[go_sem,↓reduceIte,f0,f1,f10,f11,hgt,z17]
    have Xd:=VV rest
    refine Lq (E:=5) (E':=213) (c:=(List.replicate 17 0).map bv) Yt Wf Zb ((s1.Z4 hg).Z4 (Ze.push (Nat.le_refl _) _)).sl Xd (by simp;omega) ?_
    obtain⟨n,hn⟩:=Zu (min rest.length 16)
    have hB:(rest.map bv).take n=(rest.take n).map bv:=List.map_take.symm
    have hBl:(rest.take n).length=n:=by rw[List.length_take];omega
    have Zes:rest.take n=rest.take 16:=by
     by_cases hc:rest.length≤16
     ·rw[List.take_of_length_le (by omega),List.take_of_length_le (by omega)]
     ·rw[hn,Nat.min_eq_right (by omega)]
    rw[←hn,hB,gk 17 _ (by omega),hBl,Zes]
    rw[Zes]at hBl
    have Zet:Dg (rest.take 16):=fun x hx=>Zer x (List.mem_of_mem_take hx)
    obtain⟨B,hBB⟩:=Zu (rest.take 16)
    rw[←hBB]at hBl lj Zet ⊢
    have e17:(B++List.replicate (17-n) 0).set n 1=Y7 B:=by rw[←hBl];exact gg (by omega)
    have Zmz:(n:Int)<17:=by omega
    have ZsM:((B++List.replicate (17-n) 0).map bv).set n (.int .u8 1)=(Y7 B).map bv:=by rw[←e17,List.map_set];rfl
    have Zeu:(B++List.replicate (17-n) 0).length=17:=by simp;omega
    have ZmA:=hg.size
    have ZsN:=Za gR
    have ZsO:=Za gA
    obtain⟨bw,hbw⟩:=Zu (g.size)
    have hGR:∀o,((g.push o).setIfInBounds bw (.cells ((B++List.replicate (17-n) 0).map bv).toArray 213))[bR]? = some (Yd R):=fun o=>by
     rw[Array.getElem?_setIfInBounds,if_neg (by omega),Zq (by omega)];exact gR
    have hGA:∀o,((g.push o).setIfInBounds bw (.cells ((B++List.replicate (17-n) 0).map bv).toArray 213))[bA]? = some (Yd A):=fun o=>by
     rw[Array.getElem?_setIfInBounds,if_neg (by omega),Zq (by omega)];exact gA
    have hGW:∀o,((g.push o).setIfInBounds bw (.cells ((B++List.replicate (17-n) 0).map bv).toArray 213))[bw]? = some (.cells ((B++List.replicate (17-n) 0).map bv++[]).toArray 213):=fun o=>by
     rw[List.append_nil,hbw];exact ZO Zb
    have hGB:∀o,Ze h.size h ((g.push o).setIfInBounds bw (.cells ((B++List.replicate (17-n) 0).map bv).toArray 213)):=fun o=>(hg.Yg ZmA _).Zk (by omega) _
    have hGS:∀o,((g.push o).setIfInBounds bw (.cells ((B++List.replicate (17-n) 0).map bv).toArray 213)).size=bw+1:=fun o=>by rw[Array.size_setIfInBounds,Array.size_push,hbw]
    rw[←hbw]
    specialize hGR (.cells ((List.replicate 17 0).map bv).toArray 213)
    specialize hGA (.cells ((List.replicate 17 0).map bv).toArray 213)
    specialize hGW (.cells ((List.replicate 17 0).map bv).toArray 213)
    specialize hGB (.cells ((List.replicate 17 0).map bv).toArray 213)
    specialize hGS (.cells ((List.replicate 17 0).map bv).toArray 213)
    obtain⟨G1,jo⟩:=Zu (((g.push (.cells ((List.replicate 17 0).map bv).toArray 213)).setIfInBounds bw (.cells ((B++List.replicate (17-n) 0).map bv).toArray 213)))
    rw[←jo]at hGR hGA hGW hGB hGS ⊢
    clear jo
    have c1:Jn G1 ⟨bw,n,none⟩ (.int .u8 1)=_:=ZZ (f:=bv) hGW (i:=n) (by rw[Zeu];omega) 1 rfl
    rw[e17]at c1
    have hW2:=ZO (o:=.cells ((Y7 B).map bv++[]).toArray 213) hGW
    have tP:(G1.setIfInBounds bw (.cells ((Y7 B).map bv++[]).toArray 213))[bR]? = some (Yd R):=by rw[Array.getElem?_setIfInBounds,if_neg (by omega)];exact hGR
    have hA2:(G1.setIfInBounds bw (.cells ((Y7 B).map bv++[]).toArray 213))[bA]? = some (Yd A):=by rw[Array.getElem?_setIfInBounds,if_neg (by omega)];exact hGA
    have TG:Ze h.size h (G1.setIfInBounds bw (.cells ((Y7 B).map bv++[]).toArray 213)):=hGB.Zk (by omega) _
    have hS2:(G1.setIfInBounds bw (.cells ((Y7 B).map bv++[]).toArray 213)).size=bw+1:=by rw[Array.size_setIfInBounds,hGS]
    obtain⟨G2,bZ⟩:=Zu (G1.setIfInBounds bw (.cells ((Y7 B).map bv++[]).toArray 213))
    rw[←bZ]at c1 hW2 tP hA2 TG hS2
    clear bZ hGR hGA hGW hGB hGS
    have l17:=GU (l:=B) (by omega)
    have w17:=mR Zet
    have o17:Z1 h.size 213 G2 (.slice (some ⟨bw,0,none⟩) 17 17) (Y7 B):=
     ⟨.inr ⟨bw,17,[],by omega,by rw[l17],hW2,by simp,by rw[l17];rfl,by omega⟩,w17⟩
    have s17:=SI o17.bs (m:=16) (by omega) 17
    have t17:((Y7 B).take 16).length=16:=by rw[List.length_take];omega
    have g16:=ZJ hW2 (i:=16) (by omega)
    unfold bv at g16
    have Zad:=gf (l:=B) (by omega)
    have Mk:=gd (l:=B) (by omega)
    have wt:=SK (l:=(Y7 B).take 16) (fun x hx=>w17 x (List.mem_of_mem_take hx)) t17
    obtain⟨top,gu⟩:=Zu ((Y7 B).getD 16 0)
    rw[←gu]at g16 Zad Mk
    have em:((top:Nat):Int)%18446744073709551616=(top:Nat):=by omega
    simp -implicitDefEqProofs only[go_sem,↓reduceIte,f0,f1,f10,f11,Zmz,Int.toNat_natCast,Zeu,c1]
    refine VS.w (bw+1) [] (.q 0 (.q 1 (.q 2 (.q 3 (.q 5 (.s 4 .nil)))))) mixed (by kernel_rfl) ?_
    simp -implicitDefEqProofs only[go_sem,↓reduceIte,g16,em]
    refine (OK T _ _ ((Y7 B).take 16) top s17 t17 Zad).use ?_
    rintro _ G3 ⟨rfl,b3⟩
    rw[hS2]at b3
    have hR3:=b3.get (k:=bR) (by omega) tP
    have hA3:=b3.get (k:=bA) (by omega) hA2
    have hB3:Ze h.size h G3:=TG.trans (b3.mono (by omega))
    have hxv:=L0 (t:=top) wt
    rw[Mk]at hxv
    have Mp:=GS (t:=top) wt Zad
    have hxn:=Sa (YY ((Y7 B).take 16)) top
    obtain⟨X,hX⟩:=Zu (GJ (YY ((Y7 B).take 16)) top)
    rw[←hX]at hxv Mp hxn ⊢
    rw[←lj]at hxv
    have b3T:Ze (bw+1) G2 G3=True:=eq_true b3
    simp -implicitDefEqProofs only[go_sem,↓reduceIte,b3T]
    refine VS.ZU (fun F g=>F 0=.slice p key.length c∧F 1=.slice q rest.length d∧F 10=.pointer (some ⟨bR,0,none⟩)∧F 11=.pointer (some ⟨bA,0,none⟩)∧F 66=.agg (X.map uv).toArray∧∃i:Nat,i≤5∧F 67=.int .i64 i∧g=G3.setIfInBounds bA (Yd (VB A X i)))
     (fun F _=>5-(vi (F 67)).toNat) rfl ⟨f0,f1,f10,f11,rfl,0,by omega,rfl,(Uc hA3).symm⟩ ?_
    clear f0 f1 f10 f11 F gR gA hg
    rintro F g' ⟨f0,f1,f10,f11,f66,i,hi,f67,rfl⟩
    have CJ:(G3.setIfInBounds bA (Yd (VB A X i)))[bA]? = some (Yd (VB A X i)):=ZO hA3
    have lN:(VB A X i).length=5:=by rw[NH,lA5]
    have wN:=cL Tx Mp (by omega) (by omega) i
    by_cases Ad:i<5
    ·have mw:(i:Int)<5:=by omega
     have hnx:VB A X (i+1)=(VB A X i).set i ((VB A X i).getD i 0+X.getD i 0):=rfl
     obtain⟨r,hr⟩:=Zu (VB A X i)
     rw[←hr]at CJ lN wN hnx ⊢
     obtain⟨G,hG⟩:=Zu (G3.setIfInBounds bA (Yd r))
     rw[←hG]at CJ ⊢
     have n1:=GN (l:=X) (i:=i) (by omega)
     have g1:=ZJ CJ (i:=i) (by omega)
     unfold uv at g1
     have y1:=wN.getD (by omega) i
     have y2:=Mp.getD (by omega) i
     obtain⟨a,ha⟩:=Zu (r.getD i 0)
     obtain⟨b,hb⟩:=Zu (X.getD i 0)
     rw[←ha]at g1 y1 hnx
     rw[←hb]at n1 y2 hnx
     have e1:(a:Int)+(b:Int)=((a+b:Nat):Int):=rfl
     have e2:((a+b:Nat):Int)%18446744073709551616=((a+b:Nat):Int):=by omega
     have c2:Jn G ⟨bA,i,none⟩ (.int .u64 (a+b:Nat))=_:=ZZ (f:=uv) CJ (i:=i) (by omega) (a+b) rfl
     simp -implicitDefEqProofs only[go_sem,↓reduceIte,f0,f1,f10,f11,f66,f67,mw,Int.toNat_natCast,Nat.zero_add,n1,g1,e1,e2,c2]
     refine⟨⟨f0,f1,f10,f11,f66,i+1,Ad,rfl,?_⟩,?_⟩
     ·rw[hG,set_set,hnx];rfl
     ·simp only[vi,Zh,↓reduceIte,f67];omega
    ·have ti:¬(i:Int)<5:=by omega
     obtain rfl:i=5:=by omega
     have c5:((5:Nat):Int)=5:=rfl
     rw[c5]at f67 ti
     obtain⟨wN5,vN5⟩:=mQ lA5 hxn Tx Mp
     have hR4:(G3.setIfInBounds bA (Yd (VB A X 5)))[bR]? = some (Yd R):=by rw[Array.getElem?_setIfInBounds,if_neg (by omega)];exact hR3
     have cG:Ze h.size h (G3.setIfInBounds bA (Yd (VB A X 5))):=hB3.Zk (by omega) _
     obtain⟨N,hN⟩:=Zu (VB A X 5)
     rw[←hN]at CJ lN wN5 vN5 hR4 cG ⊢
     generalize G3.setIfInBounds bA (Yd N)=G4 at *
     have r1:=T7 lN CJ
     have r2:=T7 hrn hR4
     have lNm:(N.map uv).length=5:=by simpa using lN
     have tN:(N.map uv).take 5=N.map uv:=List.take_of_length_le (by omega)
     have tR:(R.map uv).take 5=R.map uv:=List.take_of_length_le (by omega)
     simp -implicitDefEqProofs only[go_sem,↓reduceIte,f0,f1,f10,f11,f66,f67,ti,r1,r2]
     refine (EW T G4 N R lN hrn wN5 AH).use ?_
     rintro _ G5 ⟨rfl,b5⟩
     obtain⟨w1,w2,w3⟩:=Hm lN hrn wN5 AH
     obtain⟨m1,m2,m3,_⟩:=SG w2 w1
     obtain⟨M,hM⟩:=Zu (Y3 (UF N R 5))
     rw[←hM]at m1 m2 m3 ⊢
     have hA5:=b5.get (Za CJ) CJ
     have hR5:=b5.get (Za hR4) hR4
     have hB5:Ze h.size h G5:=cG.trans (b5.mono cG.size)
     have lM:(M.map uv).length=5:=by simpa using m1
     have hoM:(M.map uv).all Z5=true:=by simp[uv,Z5]
     have w5:=ZP (h:=G5) (b:=bA) (l:=(N.map uv)) (by unfold Yd at hA5;rw[List.append_nil]at hA5;exact hA5) 0 (M.map uv)
     rw[if_pos ⟨by simp[lM,lNm],hoM⟩,ZK (by simp[lM,lNm])]at w5
     have Jg:(rest.length:Int)≤d:=by omega
     obtain⟨mn,hmn⟩:=Zu (min 16 rest.length)
     have mE:(if (rest.length:Int)<16 then (rest.length:Int) else 16)=((mn:Nat):Int):=by split<;>omega
     have ZmG:(mn:Int)≤rest.length:=by omega
     have Zey:rest.drop mn=data.drop (16*(k+1)):=by
      rw[YM]
      by_cases hc:rest.length≤16
      ·rw[List.drop_of_length_le (by omega),List.drop_of_length_le (by omega)]
      ·rw[hmn,Nat.min_eq_left (by omega)]
     have s2:=SD s1 rfl (k:=mn) (by omega) mU (d-mn)
     rw[Zey]at s2
     have Zez:Yk M%Vz=mM (YY (XX key)) data (k+1):=by
      rw[m3,w3,vN5,hxv,hrv,mM,←Da,Nat.mul_mod,←Nat.mod_add_mod,←Nat.mul_mod]
     simp -implicitDefEqProofs only[go_sem,↓reduceIte,f0,f1,f10,f11,w5,lM,mE,ZmG,Int.toNat_natCast,QP]
     refine⟨⟨f0,f10,f11,hB5.Zk (by omega) _,?_,k+1,M,by omega,s2,?_,?_,m1,m2,Zez⟩,?_⟩
     ·rw[Array.getElem?_setIfInBounds,if_neg (by omega)];exact hR5
     ·show rest.length-mn≤d-mn;omega
     ·have:=ZO (o:=.cells (M.map uv).toArray 211) hA5
      unfold Yd;rw[List.append_nil];exact this
     ·show rest.length-mn<rest.length;omega
   ·have ZeA:¬(0:Int)<((data.drop (16*k)).length:Int):=by omega
    have hk2:k=(data.length+15)/16:=by omega
    rw[hk2]at Da
    obtain⟨rest,L4⟩:=Zu (data.drop (16*k))
    rw[←L4]at f1 ZeA
    have r1:=T7 lA5 gA
    have tA:(A.map uv).take 5=A.map uv:=List.take_of_length_le (by simp[lA5])
    simp -implicitDefEqProofs only[go_sem,↓reduceIte,f0,f1,f10,f11,ZeA,r1]
    refine (EY T g A lA5 (Tx.mono (by decide))).use ?_
    rintro _ g6 ⟨rfl,b6⟩
    obtain⟨m1,m2,m3,m4⟩:=SG lA5 (Tx.mono (by decide))
    obtain⟨q1,q2,q3⟩:=fU m1 m2 m4
    rw[m3,Da]at q3
    obtain⟨M,hM⟩:=Zu (T6 (Y3 A))
    rw[←hM]at q1 q2 q3 ⊢
    have hA6:=b6.get (Za gA) gA
    have hB6:Ze h.size h g6:=hg.trans (b6.mono hg.size)
    have lM:(M.map uv).length=5:=by simpa using q1
    have lAm:(A.map uv).length=5:=by simpa using lA5
    have hoM:(M.map uv).all Z5=true:=by simp[uv,Z5]
    have w5:=ZP (h:=g6) (b:=bA) (l:=(A.map uv)) (by unfold Yd at hA6;rw[List.append_nil]at hA6;exact hA6) 0 (M.map uv)
    rw[if_pos ⟨by simp[lM,lAm],hoM⟩,ZK (by simp[lM,lAm])]at w5
    have hB7:Ze h.size h (g6.setIfInBounds bA (.cells (M.map uv).toArray 211)):=hB6.Zk (by omega) _
    have hA7:(g6.setIfInBounds bA (.cells (M.map uv).toArray 211))[bA]? = some (Yd M):=by
     have:=ZO (o:=.cells (M.map uv).toArray 211) hA6
     unfold Yd;rw[List.append_nil];exact this
    obtain⟨g7,hg7⟩:=Zu (g6.setIfInBounds bA (.cells (M.map uv).toArray 211))
    rw[←hg7]at w5 hB7 hA7
    clear hg7
    have sm:Bs g7 (.slice (BZ p 1 c 16) 16 (c-16)) ((key.drop 16).take 16):=zY (sk.Z4 hB7) rfl (by omega) ck _
    have Zae:((key.drop 16).take 16).length=16:=by rw[List.length_take,List.length_drop];omega
    have u2:(32:Int)≤c:=by omega
    have wkl:Dg ((key.drop 16).take 16):=fun x hx=>wk x (List.mem_of_mem_drop (List.mem_of_mem_take hx))
    simp -implicitDefEqProofs only[go_sem,↓reduceIte,f0,f1,f10,f11,w5,lM,u2,QP]
    refine (OK T _ _ _ 0 sm Zae (by omega)).use ?_
    rintro _ g8 ⟨rfl,b8⟩
    have hSv:=L0 (t:=0) (SK wkl Zae)
    rw[Nat.mul_zero,Nat.add_zero]at hSv
    have hSl:=GS (t:=0) (SK wkl Zae) (by omega)
    have hSn:=Sa (YY ((key.drop 16).take 16)) 0
    obtain⟨S,hS⟩:=Zu (GJ (YY ((key.drop 16).take 16)) 0)
    rw[←hS]at hSv hSl hSn ⊢
    clear hS
    have hA8:=b8.get (Za hA7) hA7
    have hB8:Ze h.size h g8:=hB7.trans (b8.mono hB7.size)
    have lS:(S.map uv).length=5:=by simpa using hSn
    have hoS:(S.map uv).all Z5=true:=by simp[uv,Z5]
    have lpS:Yl [Value.int .u64 0,.int .u64 0,.int .u64 0,.int .u64 0,.int .u64 0] 0 (S.map uv)=S.map uv:=ZK lS
    simp -implicitDefEqProofs only[go_sem,↓reduceIte,f0,f1,f10,f11,lS,hoS,lpS,Zaa]
    have T0:tF key data=Yk M+Yk S:=by rw[q3,hSv];rfl
    have hB9:Ze (g8.size+1) (g8.push (.cells (S.map uv).toArray 211)) ((g8.push (.cells (S.map uv).toArray 211)).push (.cells ((List.replicate 16 0).map bv).toArray 5)):=Ze.push (by simp) _
    have hS9:(g8.push (.cells (S.map uv).toArray 211))[g8.size]? = some (Yd S):=by rw[Zb];unfold Yd;rw[List.append_nil]
    have hA9:(g8.push (.cells (S.map uv).toArray 211))[bA]? = some (Yd M):=by rw[Zq (Za hA8)];exact hA8
    have hH9:Ze h.size h (g8.push (.cells (S.map uv).toArray 211)):=hB8.Yg hB8.size _
    have o9:Z1 (g8.size+1) 5 ((g8.push (.cells (S.map uv).toArray 211)).push (.cells ((List.replicate 16 0).map bv).toArray 5)) (.slice (some ⟨g8.size+1,0,none⟩) 0 16) []:=by
     refine⟨.inr ⟨g8.size+1,16,(List.replicate 16 0).map bv,Nat.le_refl _,rfl,?_,rfl,by simp,Nat.zero_le _⟩,fun x hx=>by cases hx⟩
     have:=Zb (h:=g8.push (.cells (S.map uv).toArray 211)) (o:=.cells ((List.replicate 16 0).map bv).toArray 5)
     rw[Array.size_push]at this
     exact this
    have ZmM:=Za hA8
    have ZeB:=hB8.size
    have hz9:(g8.push (.cells (S.map uv).toArray 211)).size=g8.size+1:=by simp
    obtain⟨bS,hbS⟩:∃b,b=g8.size:=⟨_,rfl⟩
    rw[←hbS]at hB9 hS9 o9 ZmM ZeB hz9 ⊢
    obtain⟨J,hJ⟩:=Zu (g8.push (.cells (S.map uv).toArray 211))
    rw[←hJ]at hB9 hS9 hA9 hH9 o9 hz9 ⊢
    clear hJ
    refine VS.ZU (fun F g=>F 11=.pointer (some ⟨bA,0,none⟩)∧F 16=.pointer (some ⟨bS,0,none⟩)∧Ze (bS+1) J g∧∃(i n sum bits:Nat) (out:List Nat),i≤5∧F 87=.int .i64 i∧F 18=.int .u64 sum∧F 19=.int .u64 bits∧F 20=.int .i64 n∧Z1 (bS+1) 5 g (F 17) out∧out.length=n∧bits<8∧26*i=8*n+bits∧sum<8*2 ^ bits∧tF key data=YY out+256 ^ n*(sum+2 ^ bits*PS (M.drop i) (S.drop i)))
     (fun F _=>5-(vi (F 87)).toNat) rfl ⟨f11,rfl,hB9,0,0,0,0,[],by omega,rfl,rfl,rfl,rfl,o9,rfl,by omega,by omega,by omega,by rw[T0,List.drop_zero,List.drop_zero,E9 _ _ (by omega)];simp[YY]⟩ ?_
    clear f0 f1 f10 f11 F hB9 o9
    rintro F g' ⟨f11,f16,Db,i,n,sum,bits,out,hi,f87,f18,f19,f20,ho,hol,hb8,hbn,gv,hT⟩
    have gA':=Db.get (k:=bA) (by omega) hA9
    have gS':=Db.get (k:=bS) (by omega) hS9
    have ZeD:=Db.size
    by_cases ZA:i<5
    ·have ZH:(i:Int)<5:=by omega
     rw[AE (by omega) (by omega)]at hT
     have g1:=ZJ gA' (i:=i) (by omega)
     have g2:=ZJ gS' (i:=i) (by omega)
     unfold uv at g1 g2
     have y1:=q2.getD (by omega) i
     have y2:=hSl.getD (by omega) i
     obtain⟨a,ha⟩:=Zu (M.getD i 0)
     obtain⟨b,hb⟩:=Zu (S.getD i 0)
     rw[←ha]at g1 y1 hT
     rw[←hb]at g2 y2 hT
     have hT2:=tM hT
     have Dc:=gn (c:=a+b) gv (by omega)
     have p8:=gm hb8
     have H5:(a+b)*2 ^ bits≤268435455*128:=Nat.mul_le_mul (by omega) p8
     have ZmO:sum<1024:=by omega
     have e1:(a:Int)+(b:Int)=((a+b:Nat):Int):=rfl
     have e2:((a+b:Nat):Int)%18446744073709551616=((a+b:Nat):Int):=by omega
     have e3:Yz .u64 ((a+b:Nat):Int) (bits:Int)=(((a+b)*2 ^ bits:Nat):Int):=by
      rw[ML _ _ (by omega),Nat.mod_eq_of_lt (by omega)]
     obtain⟨cc,qt⟩:=Zu ((a+b)*2 ^ bits)
     rw[←qt]at e3 H5 hT2 Dc
     have e4:(sum:Int)+(cc:Int)=((sum+cc:Nat):Int):=rfl
     have e5:((sum+cc:Nat):Int)%18446744073709551616=((sum+cc:Nat):Int):=by omega
     have e6:(bits:Int)+26=((bits+26:Nat):Int):=rfl
     have e7:((bits+26:Nat):Int)%18446744073709551616=((bits+26:Nat):Int):=by omega
     have e8:¬(bits:Int)<0:=by omega
     simp -implicitDefEqProofs only[go_sem,↓reduceIte,f11,f16,f18,f19,f20,f87,ZH]
     refine VS.q mixed (by kernel_rfl) ?_
     simp -implicitDefEqProofs only[go_sem,↓reduceIte,f11,f16,f18,f19,f20,f87,ZH,Int.toNat_natCast,Nat.zero_add,g1,g2,e1,e2,e3,e4,e5,e6,e7,e8]
     refine VS.ZU (fun F g=>F 11=.pointer (some ⟨bA,0,none⟩)∧F 16=.pointer (some ⟨bS,0,none⟩)∧F 87=.int .i64 i∧Ze (bS+1) J g∧∃(n sum bits:Nat) (out:List Nat),F 18=.int .u64 sum∧F 19=.int .u64 bits∧F 20=.int .i64 n∧Z1 (bS+1) 5 g (F 17) out∧out.length=n∧bits<34∧26*(i+1)=8*n+bits∧sum<8*2 ^ bits∧tF key data=YY out+256 ^ n*(sum+2 ^ bits*PS (M.drop (i+1)) (S.drop (i+1))))
      (fun F _=>(vi (F 19)).toNat) rfl ⟨f11,f16,f87,Db,n,sum+cc,bits+26,out,rfl,rfl,f20,ho,hol,by omega,by omega,Dc,hT2⟩ ?_
     clear f11 f16 f18 f19 f20 f87 ho hol hT hT2 gv Dc hbn hb8 Db gA' gS' ZeD g1 g2 e3 e4 e5 e6 e7 e8 p8 H5 qt ZmO F cc
     clear n sum bits out g'
     rintro F g' ⟨f11,f16,f87,Db,n,sum,bits,out,f18,f19,f20,ho,hol,hb8,hbn,gv,hT⟩
     have ZeD:=Db.size
     by_cases hb:8≤bits
     ·have Iq:(8:Int)≤bits:=by omega
      have hn1:(n:Int)<16:=by omega
      have Dc:=gq gv hb
      have hT2:=mT hb hT
      have hp:2 ^ bits≤2 ^ 34:=Nat.pow_le_pow_right (by decide) (by omega)
      have Na:sum<18446744073709551616:=Nat.lt_of_lt_of_le gv (Nat.le_trans (Nat.mul_le_mul_left 8 hp) (by decide))
      have em:((sum:Nat):Int)%256=((sum%256:Nat):Int):=rfl
      have es:Xa .u64 (sum:Int) 8=((sum/256:Nat):Int):=SF sum 8 (by decide)
      have eb:(bits:Int)-8=((bits-8:Nat):Int):=by omega
      have eb2:((bits-8:Nat):Int)%18446744073709551616=((bits-8:Nat):Int):=by omega
      simp -implicitDefEqProofs only[go_sem,↓reduceIte,f11,f16,f18,f19,f20,f87,Iq,hn1,em]
      have hX:sum%256<256:=by omega
      refine Zv (E:=5) (B:=bS+1) Yt Tryz.underlying34 Wf Vh Vg (ho.push _) (by simp;omega) (Bs.one hX 1) (by simp;omega) ?_
      intro v' h' Rt X3 _
      simp -implicitDefEqProofs only[go_sem,↓reduceIte,f11,f16,f18,f19,f20,f87,es,eb,eb2]
      refine⟨⟨f11,f16,f87,(Db.Yg (by omega) _).trans X3,n+1,sum/256,bits-8,out++[sum%256],rfl,rfl,rfl,Rt,by simp[hol],by omega,by omega,Dc,?_⟩,?_⟩
      ·rw[hT2,AF,hol]
      ·simp only[vi,Zh,↓reduceIte,Nat.reduceEqDiff,f19];omega
     ·have Iq:¬(8:Int)≤bits:=by omega
      have e9:(i:Int)+1=((i+1:Nat):Int):=rfl
      simp -implicitDefEqProofs only[go_sem,↓reduceIte,f11,f16,f18,f19,f20,f87,Iq,e9]
      refine⟨⟨f11,f16,Db,i+1,n,sum,bits,out,ZA,rfl,f18,f19,f20,ho,hol,by omega,hbn,gv,hT⟩,?_⟩
      simp only[vi,Zh,↓reduceIte,f87];omega
    ·have YE:¬(i:Int)<5:=by omega
     obtain rfl:i=5:=by omega
     have c5:((5:Nat):Int)=5:=rfl
     rw[c5]at f87 YE
     obtain rfl:n=16:=by omega
     have e0:PS (M.drop 5) (S.drop 5)=0:=by rw[List.drop_of_length_le (by omega),List.drop_of_length_le (by omega)];rfl
     rw[e0,Nat.mul_zero,Nat.add_zero]at hT
     have Ay:=gh ho.byte hol hT
     have htl:Au key data=out:=Ay.symm
     simp -implicitDefEqProofs only[go_sem,↓reduceIte,f11,f16,f18,f19,f20,f87,YE]
     rw[htl]
     exact⟨ho.mono (by omega),hH9.trans (Db.mono (by omega))⟩
theorem Dd (T:World) (h:Hp) (v u:Value) (key data:List Nat) (sk:Bs h v key) (sd:Bs h u data) (ck:WO v) (cu:WO u) :
  Zd Tryz.prog T 88 #[v,u] h fun v' h'=>mN h.size h' v' key data∧Ze h.size h h':=by
 obtain⟨p,c,rfl,hkc⟩:=sk.open
 obtain⟨q,d,rfl,hdc⟩:=sd.open
 refine Zd.Zi (args:=[_,_]) Tryz.func88 rfl rfl rfl rfl ?_
 unfold mN
 by_cases hk:key.length=32
 ·by_cases hd:4000<data.length
  ·have hd':4000<(data.length:Int):=by omega
   have Pv:(key.length:Int)=32:=by omega
   have e:WX key data=1:=by unfold WX;rw[if_pos (.inr hd)]
   rw[e]
   simp -implicitDefEqProofs only[go_sem,↓reduceIte,hd',Pv]
   exact⟨_,rfl,Z1.nil _ _ _⟩
  ·have hd':¬4000<(data.length:Int):=by omega
   have Pv:(key.length:Int)=32:=by omega
   have e:WX key data=0:=by unfold WX;rw[if_neg (by omega)]
   rw[e,if_pos rfl]
   simp -implicitDefEqProofs only[go_sem,↓reduceIte,hd',Pv]
   refine (AG T _ _ _ key data sk sd hk (by omega) ck cu).use ?_
   rintro v1 h1 ⟨o1,b1⟩
   simp -implicitDefEqProofs only[go_sem,↓reduceIte]
   exact⟨⟨_,rfl,o1⟩,b1⟩
 ·have Pv:¬(key.length:Int)=32:=by omega
  have e:WX key data=1:=by unfold WX;rw[if_pos (.inl hk)]
  rw[e]
  simp -implicitDefEqProofs only[go_sem,↓reduceIte,Pv]
  exact⟨_,rfl,Z1.nil _ _ _⟩
end Go.Proofs.YtkfhncfkagcamaaGreatDoor
